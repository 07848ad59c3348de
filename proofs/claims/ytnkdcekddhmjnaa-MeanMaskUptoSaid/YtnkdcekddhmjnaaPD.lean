/- One rule more; a name that is not there; the order of rules, pairs and excepts: plainly. Conditions: each theorem's own. -/
import Derived.Test.YtnkdcekddhmjnaaPC
namespace Go.Proofs.Ytnkdcekddhmjnaa.M
open Go.RowKit Go.Proofs.YtnkdcekddhmjnaaW.Raw Go.Proofs.YtnkdcekddhmjnaaW.PrintWords Go.Proofs.Ytnkdcekddhmjnaa.F
set_option linter.unusedVariables false
theorem allowsB_any (p : Pol) (t : Tri) : allowsB p t = match trustOf p.f1 t.f0 with
    | none => false
    | some tr => memB p.f3 t.f1 && memB p.f0 t.f2 && ((p.f9.any fun r => speakB r tr (upS p t.f0) (upO p t.f1) && namesB r t.f2) && !(p.f9.any fun r => speakB r tr (upS p t.f0) (upO p t.f1) && (namesB r t.f2 && r.f0)) && !(p.f10.any fun u => eqT t u)) := by
  unfold allowsB
  cases trustOf p.f1 t.f0 with
  | none => rfl
  | some tr =>
    show (memB p.f3 t.f1 && memB p.f0 t.f2 && allowB (aboutL p tr (upS p t.f0) (upO p t.f1)) p.f10 t) = _
    unfold allowB
    rw [any_about, any_about]
end Go.Proofs.Ytnkdcekddhmjnaa.M
