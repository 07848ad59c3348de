/- What is reached along pairs, as a relation; one rule more, one except more, a name that is not there. Conditions: each theorem's own. -/
import Derived.Test.YtnkdcekddhmjnaaPA
namespace Go.Proofs.Ytnkdcekddhmjnaa.M
open Go.RowKit Go.Proofs.YtnkdcekddhmjnaaW.Raw Go.Proofs.YtnkdcekddhmjnaaW.PrintWords Go.Proofs.Ytnkdcekddhmjnaa.F
set_option linter.unusedVariables false
/-- A way leads from a name to a name. -/
inductive Way (ps : List Pair) (a : ByteArray) : ByteArray → Prop
  | here : Way ps a a
  | on {x y : ByteArray} (h : Way ps a x) (hp : ∃ p ∈ ps, p.f0 = x ∧ p.f1 = y) : Way ps a y
end Go.Proofs.Ytnkdcekddhmjnaa.M
