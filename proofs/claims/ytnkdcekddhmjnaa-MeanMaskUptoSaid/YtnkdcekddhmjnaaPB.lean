/- Denials override, plainly: of policies alone. Conditions: none. -/
import Derived.Test.YtnkdcekddhmjnaaPA
namespace Go.Proofs.Ytnkdcekddhmjnaa.M
open Go.RowKit Go.Proofs.YtnkdcekddhmjnaaW.Raw Go.Proofs.YtnkdcekddhmjnaaW.PrintWords Go.Proofs.Ytnkdcekddhmjnaa.F
set_option linter.unusedVariables false
theorem any_about (p : Pol) (tr : Nat) (us uo : List ByteArray) (q : Rule → Bool) : (aboutL p tr us uo).any q = p.f9.any fun r => speakB r tr us uo && q r := List.any_filter
end Go.Proofs.Ytnkdcekddhmjnaa.M
