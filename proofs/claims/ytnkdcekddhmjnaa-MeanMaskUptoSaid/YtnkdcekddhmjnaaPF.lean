/- What twin and only make, plainly; a denial overrides (MeanDenyWins), one except more (MeanExcept), plainly. Conditions: no list, and no rule's list of actions, is longer than 1048576. -/
import Derived.Test.YtnkdcekddhmjnaaPD
import Derived.Test.YtnkdcekddhmjnaaF0
import Derived.Test.YtnkdcekddhmjnaaF7
import Derived.Test.YtnkdcekddhmjnaaF1
import Derived.Test.YtnkdcekddhmjnaaSC
namespace Go.Proofs.Ytnkdcekddhmjnaa.M
open Go.RowKit Go.Proofs.YtnkdcekddhmjnaaW.PrintWords Go.Proofs.Ytnkdcekddhmjnaa.F
set_option linter.unusedVariables false
structure Sz (p : Pol) : Prop where
  l0 : p.f0.length ≤ 1048576
  l1 : p.f1.length ≤ 1048576
  l2 : p.f2.length ≤ 1048576
  l3 : p.f3.length ≤ 1048576
  l4 : p.f4.length ≤ 1048576
  l5 : p.f5.length ≤ 1048576
  l6 : p.f6.length ≤ 1048576
  l7 : p.f7.length ≤ 1048576
  l8 : p.f8.length ≤ 1048576
  l9 : p.f9.length ≤ 1048576
  l10 : p.f10.length ≤ 1048576
  la : ∀ r ∈ p.f9, r.f3.length ≤ 1048576
theorem Sz.ok {p : Pol} (h : Sz p) : okB p = true := okB_iff.2 ⟨by have := h.l5; have := h.l6; omega, by have := h.l7; have := h.l8; omega, by have := h.l9; omega, by have := h.l0; omega, by have := h.l1; omega, by have := h.l3; omega⟩
theorem rdRule {l : List Rule} {i : Nat} (h : i < l.length) : rd_T27 l (i : Int) = l[i] := by simp [rd_T27, List.getD_eq_getElem?_getD, h]
end Go.Proofs.Ytnkdcekddhmjnaa.M
