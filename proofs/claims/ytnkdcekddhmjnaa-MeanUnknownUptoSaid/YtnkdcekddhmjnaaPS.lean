/- A list with a mark behind it is what it was (asLong, asPairs, equals), plainly. Conditions: no list is longer than 1048576. -/
import Derived.Test.YtnkdcekddhmjnaaPF
import Derived.Test.YtnkdcekddhmjnaaF4
namespace Go.Proofs.Ytnkdcekddhmjnaa.M
open Go.RowKit Go.Proofs.YtnkdcekddhmjnaaW.PrintWords Go.Proofs.Ytnkdcekddhmjnaa.F
set_option linter.unusedVariables false
abbrev mark : ByteArray := ⟨#[35]⟩
end Go.Proofs.Ytnkdcekddhmjnaa.M
