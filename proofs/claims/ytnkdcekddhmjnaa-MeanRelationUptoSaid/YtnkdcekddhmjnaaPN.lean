import Derived.Test.YtnkdcekddhmjnaaPM
import Derived.Test.YtnkdcekddhmjnaaF7
/- The document's Matches and Allows (gatehouseref08) are mean's, plainly. Conditions: no list, and no rule's list of actions, is longer than 1048576. -/
namespace Go.Proofs.Ytnkdcekddhmjnaa.M
open Go.RowKit Go.Proofs.YtnkdcekddhmjnaaW.PrintWords Go.Proofs.Ytnkdcekddhmjnaa.F
set_option linter.unusedVariables false
theorem memB_same {l m : List ByteArray} (h : ∀ x, x ∈ l ↔ x ∈ m) (x : ByteArray) : memB l x = memB m x := by
  rw [Bool.eq_iff_iff, memB_iff, memB_iff]
  exact h x
theorem rexc_l0 (p : Pol) (t : Tri) (hs : Sz p) (d : Nat) : ∀ i : Nat, i ≤ p.f10.length → p.f10.length - i = d → Evt (fun k => gatehouseref08_excepted.l0 k (i : Int) p.f0 p.f1 p.f2 p.f3 p.f4 p.f5 p.f6 p.f7 p.f8 p.f9 p.f10 t.f0 t.f1 t.f2) ((p.f10.drop i).any fun u => eqT t u) := by
  have hl := hs.l10
  induction d with
  | zero =>
    intro i h1 hd
    rw [List.drop_of_length_le (by omega)]
    refine Evt.now fun k => ?_
    simp only [gatehouseref08_excepted.l0]
    rw [if_neg (by omega)]
    rfl
  | succ d ih =>
    intro i h1 hd
    have hlt : i < p.f10.length := by omega
    have ec : (p.f10[i].f0.toList == t.f0.toList && (p.f10[i].f1.toList == t.f1.toList && p.f10[i].f2.toList == t.f2.toList)) = eqT t p.f10[i] := by
      rw [tb, tb, tb]
      unfold eqT
      rw [Bool.and_assoc]
    rw [List.drop_eq_getElem_cons hlt]
    show Evt _ (eqT t p.f10[i] || ((p.f10.drop (i + 1)).any fun u => eqT t u))
    cases hq : eqT t p.f10[i] with
    | true =>
      refine Evt.now fun k => ?_
      simp only [gatehouseref08_excepted.l0]
      rw [if_pos (by omega), if_pos (by omega), rdTri hlt, ec, hq]
      rfl
    | false =>
      have h := ih (i + 1) (by omega) (by omega)
      refine h.step fun k => ?_
      simp only [gatehouseref08_excepted.l0]
      rw [if_pos (by omega), if_pos (by omega), rdTri hlt, ec, hq, if_neg (by simp), w1 (by omega)]
theorem rexc_f (p : Pol) (t : Tri) (hs : Sz p) : Evt (fun k => gatehouseref08_excepted.f k p.f0 p.f1 p.f2 p.f3 p.f4 p.f5 p.f6 p.f7 p.f8 p.f9 p.f10 t.f0 t.f1 t.f2) (p.f10.any fun u => eqT t u) := rexc_l0 p t hs p.f10.length 0 (Nat.zero_le _) (by omega)
end Go.Proofs.Ytnkdcekddhmjnaa.M
