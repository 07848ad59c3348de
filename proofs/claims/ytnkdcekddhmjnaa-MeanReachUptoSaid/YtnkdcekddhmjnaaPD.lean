/- One rule more; a name that is not there; the order of rules, pairs and excepts: plainly. Conditions: each theorem's own. -/
import Derived.Test.YtnkdcekddhmjnaaPC
namespace Go.Proofs.Ytnkdcekddhmjnaa.M
open Go.RowKit Go.Proofs.YtnkdcekddhmjnaaW.Raw Go.Proofs.YtnkdcekddhmjnaaW.PrintWords Go.Proofs.Ytnkdcekddhmjnaa.F
set_option linter.unusedVariables false
def thereB (p : Pol) (t : Tri) : Bool := memB (namesOf p) t.f0 && memB p.f3 t.f1 && memB p.f0 t.f2
end Go.Proofs.Ytnkdcekddhmjnaa.M
