/- What is reached along pairs, as a relation; one rule more, one except more, a name that is not there. Conditions: each theorem's own. -/
import Derived.Test.YtnkdcekddhmjnaaPA
namespace Go.Proofs.Ytnkdcekddhmjnaa.M
open Go.RowKit Go.Proofs.YtnkdcekddhmjnaaW.Raw Go.Proofs.YtnkdcekddhmjnaaW.PrintWords Go.Proofs.Ytnkdcekddhmjnaa.F
set_option linter.unusedVariables false
/-- A way leads from a name to a name. -/
inductive Way (ps : List Pair) (a : ByteArray) : ByteArray → Prop
  | here : Way ps a a
  | on {x y : ByteArray} (h : Way ps a x) (hp : ∃ p ∈ ps, p.f0 = x ∧ p.f1 = y) : Way ps a y
def excP (p : Pol) (t : Tri) : Pol := { p with f10 := p.f10 ++ [t] }
/-- 8.6: one except more. -/
theorem exc_more (p : Pol) (t u : Tri) : allowsB (excP p t) u = (allowsB p u && !(eqT u t)) := by
  unfold allowsB
  show (match trustOf p.f1 u.f0 with | none => false | some tr => memB p.f3 u.f1 && memB p.f0 u.f2 && allowB (aboutL p tr (upS p u.f0) (upO p u.f1)) (p.f10 ++ [t]) u) = _
  cases trustOf p.f1 u.f0 with
  | none => rfl
  | some tr =>
    show (memB p.f3 u.f1 && memB p.f0 u.f2 && allowB _ (p.f10 ++ [t]) u) = (memB p.f3 u.f1 && memB p.f0 u.f2 && allowB _ p.f10 u && _)
    unfold allowB
    rw [List.any_append, Bool.not_or]
    simp only [List.any_cons, List.any_nil, Bool.or_false, Bool.and_assoc]
end Go.Proofs.Ytnkdcekddhmjnaa.M
