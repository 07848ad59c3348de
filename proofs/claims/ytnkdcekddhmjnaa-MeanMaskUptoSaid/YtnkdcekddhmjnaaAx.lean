/- alive: what the statement's own policy allows. Conditions: none. -/
import Derived.Test.YtnkdcekddhmjnaaSC
import Derived.Test.YtnkdcekddhmjnaaF7
namespace Go.Proofs.Ytnkdcekddhmjnaa.M
open Go.RowKit Go.Proofs.YtnkdcekddhmjnaaW.Raw Go.Proofs.YtnkdcekddhmjnaaW.PrintWords Go.Proofs.Ytnkdcekddhmjnaa.F
set_option linter.unusedVariables false
set_option linter.unusedSimpArgs false
attribute [local go_sem] run_store_float
def bs (l : List UInt8) : ByteArray := ⟨l.toArray⟩
end Go.Proofs.Ytnkdcekddhmjnaa.M
namespace Go.Proofs.Ytnkdcekddhmjnaa.F
open Go.RowKit
end Go.Proofs.Ytnkdcekddhmjnaa.F
