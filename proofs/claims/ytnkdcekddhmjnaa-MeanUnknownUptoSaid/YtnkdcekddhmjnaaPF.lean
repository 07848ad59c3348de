/- What twin and only make, plainly; a denial overrides (MeanDenyWins), one except more (MeanExcept), plainly. Conditions: no list, and no rule's list of actions, is longer than 1048576. -/
import Derived.Test.YtnkdcekddhmjnaaPD
import Derived.Test.YtnkdcekddhmjnaaF8
import Derived.Test.YtnkdcekddhmjnaaF9
import Derived.Test.YtnkdcekddhmjnaaSC
namespace Go.Proofs.Ytnkdcekddhmjnaa.M
open Go.RowKit Go.Proofs.YtnkdcekddhmjnaaW.PrintWords Go.Proofs.Ytnkdcekddhmjnaa.F
set_option linter.unusedVariables false
structure Sz (p : Pol) : Prop where
  l0 : p.f0.length ≤ 1048576
  l1 : p.f1.length ≤ 1048576
  l2 : p.f2.length ≤ 1048576
  l3 : p.f3.length ≤ 1048576
  l4 : p.f4.length ≤ 1048576
  l5 : p.f5.length ≤ 1048576
  l6 : p.f6.length ≤ 1048576
  l7 : p.f7.length ≤ 1048576
  l8 : p.f8.length ≤ 1048576
  l9 : p.f9.length ≤ 1048576
  l10 : p.f10.length ≤ 1048576
  la : ∀ r ∈ p.f9, r.f3.length ≤ 1048576
theorem Sz.ok {p : Pol} (h : Sz p) : okB p = true := okB_iff.2 ⟨by have := h.l5; have := h.l6; omega, by have := h.l7; have := h.l8; omega, by have := h.l9; omega, by have := h.l0; omega, by have := h.l1; omega, by have := h.l3; omega⟩
abbrev tup (p : Pol) := (p.f0, p.f1, p.f2, p.f3, p.f4, p.f5, p.f6, p.f7, p.f8, p.f9, p.f10)
theorem texts_f (l : List ByteArray) (h : l.length ≤ 1048576) : gatehouselaw08_texts.f l = some l := by
  unfold gatehouselaw08_texts.f
  rw [if_pos (by simp; omega)]
  rfl
theorem rdRule {l : List Rule} {i : Nat} (h : i < l.length) : rd_T27 l (i : Int) = l[i] := by simp [rd_T27, List.getD_eq_getElem?_getD, h]
theorem twin_l0 (p : Pol) (hs : Sz p) (q0 : List ByteArray) (q1 : List Sub) (q2 q3 q4 : List ByteArray) (q5 q6 q7 q8 : List Pair) (d : Nat) : ∀ (i : Nat) (x9 : List Rule), i ≤ p.f9.length → p.f9.length - i = d → x9.length ≤ i →
    Evt (fun k => gatehouselaw08_twin.l0 k (i : Int) p.f0 p.f1 p.f2 p.f3 p.f4 p.f5 p.f6 p.f7 p.f8 p.f9 p.f10 q0 q1 q2 q3 q4 q5 q6 q7 q8 x9) (q0, q1, q2, q3, q4, q5, q6, q7, q8, x9 ++ p.f9.drop i, p.f10) := by
  have h9 := hs.l9
  have h10 := hs.l10
  induction d with
  | zero =>
    intro i x9 h1 hd hx
    rw [List.drop_of_length_le (by omega), List.append_nil]
    refine Evt.now fun k => ?_
    simp only [gatehouselaw08_twin.l0]
    rw [if_neg (by omega), if_pos (by simp; omega)]
    rfl
  | succ d ih =>
    intro i x9 h1 hd hx
    have hlt : i < p.f9.length := by omega
    have hdr : p.f9.drop i = p.f9[i] :: p.f9.drop (i + 1) := List.drop_eq_getElem_cons hlt
    have hr := hs.la _ (List.getElem_mem hlt)
    have h := ih (i + 1) (x9 ++ [p.f9[i]]) (by omega) (by omega) (by simp; omega)
    rw [List.append_assoc] at h
    rw [hdr]
    refine h.step fun k => ?_
    simp only [gatehouselaw08_twin.l0]
    rw [if_pos (by omega), if_pos (by omega), rdRule hlt, texts_f _ hr]
    simp only [Option.bind_some]
    rw [if_pos (by omega), w1 (by omega)]
theorem twin_f (p : Pol) (hs : Sz p) : Evt (fun k => gatehouselaw08_twin.f k p.f0 p.f1 p.f2 p.f3 p.f4 p.f5 p.f6 p.f7 p.f8 p.f9 p.f10) (tup p) := by
  have h := twin_l0 p hs p.f0 p.f1 p.f2 p.f3 p.f4 p.f5 p.f6 p.f7 p.f8 p.f9.length 0 [] (Nat.zero_le _) (by omega) (Nat.zero_le _)
  have h1 := hs.l1
  have h5 := hs.l5
  have h6 := hs.l6
  have h7 := hs.l7
  have h8 := hs.l8
  refine h.same fun k => ?_
  unfold gatehouselaw08_twin.f
  rw [texts_f _ hs.l0, texts_f _ hs.l2, texts_f _ hs.l3, texts_f _ hs.l4]
  simp only [Option.bind_some]
  rw [if_pos (by simp; omega), if_pos (by simp; omega), if_pos (by simp; omega), if_pos (by simp; omega), if_pos (by simp; omega)]
  rfl
theorem hasB_rel (q : Pol) (t : Tri) : hasB (relL q) t = allowsB q t := by
  cases h : allowsB q t with
  | true => exact hasB_iff.2 (by rw [relL_eq]; exact List.mem_filter.2 ⟨allowsB_mem h, h⟩)
  | false =>
    cases h2 : hasB (relL q) t with
    | false => rfl
    | true =>
      have := hasB_iff.1 h2
      rw [relL_eq, List.mem_filter] at this
      rw [h] at this
      cases this.2
theorem allT_len (p : Pol) : (allT p).length ≤ p.f1.length * (p.f3.length * p.f0.length) := by
  have h1 := ads_len (triL (namesOf p) p.f3 p.f0) []
  have h2 : (triL (namesOf p) p.f3 p.f0).length ≤ p.f1.length * (p.f3.length * p.f0.length) := by
    rw [← triL_eq]
    refine flat_len _ _ _ fun s _ => flat_len _ _ _ fun o _ => ?_
    rw [List.length_map]
    exact Nat.le_refl _
  have h3 : (allT p).length = (ads [] (triL (namesOf p) p.f3 p.f0)).length := rfl
  rw [h3]
  simp at h1
  omega
theorem rel_le (p : Pol) : (relL p).length ≤ p.f1.length * (p.f3.length * p.f0.length) := by
  rw [relL_eq]
  exact Nat.le_trans (List.length_filter_le _ _) (allT_len p)
end Go.Proofs.Ytnkdcekddhmjnaa.M
