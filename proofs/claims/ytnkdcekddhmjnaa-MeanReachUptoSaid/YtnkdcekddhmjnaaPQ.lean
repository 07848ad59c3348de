/- mean.Matches and mean.Allows, as they are asked; the policy with one more rule. Conditions: no list, and no rule's list of actions, is longer than 1048576. -/
import Derived.Test.YtnkdcekddhmjnaaPF
namespace Go.Proofs.Ytnkdcekddhmjnaa.M
open Go.RowKit Go.Proofs.YtnkdcekddhmjnaaW.PrintWords Go.Proofs.Ytnkdcekddhmjnaa.F
set_option linter.unusedVariables false
theorem matches_f {p : Pol} (h : okB p = true) (r : Rule) (t : Tri) : mean_Matches.f p.f0 p.f1 p.f2 p.f3 p.f4 p.f5 p.f6 p.f7 p.f8 p.f9 p.f10 r.f0 r.f1 r.f2 r.f3 r.f4 r.f5 t.f0 t.f1 t.f2 = some (matchB p r t) := if_pos h
end Go.Proofs.Ytnkdcekddhmjnaa.M
