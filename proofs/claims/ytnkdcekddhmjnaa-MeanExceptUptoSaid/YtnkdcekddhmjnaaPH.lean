/- MeanExcept, plainly. Conditions: no list, and no rule's list of actions, is longer than 1048576. -/
import Derived.Test.YtnkdcekddhmjnaaPF
import Derived.Test.YtnkdcekddhmjnaaF11
namespace Go.Proofs.Ytnkdcekddhmjnaa.M
open Go.RowKit Go.Proofs.YtnkdcekddhmjnaaW.PrintWords Go.Proofs.Ytnkdcekddhmjnaa.F
set_option linter.unusedVariables false
theorem ne_cond (u t : Tri) : (!(u.f0.toList == t.f0.toList) || (!(u.f1.toList == t.f1.toList) || !(u.f2.toList == t.f2.toList))) = !(eqT u t) := by
  rw [tb', tb', tb']
  unfold eqT
  cases (u.f0 == t.f0) <;> cases (u.f1 == t.f1) <;> cases (u.f2 == t.f2) <;> rfl
theorem exc_rel (p : Pol) (t : Tri) : relL (excP p t) = (relL p).filter fun u => !(eqT u t) := by
  rw [relL_eq p, relL_eq (excP p t), List.filter_filter]
  have : allT (excP p t) = allT p := rfl
  rw [this]
  refine List.filter_congr fun u hu => ?_
  rw [exc_more p t u]
  exact Bool.and_comm _ _
theorem exc_not (p : Pol) (t : Tri) : allowsB (excP p t) t = false := by
  rw [exc_more p t t]
  have : eqT t t = true := eqT_eq.2 rfl
  rw [this]
  cases allowsB p t <;> rfl
theorem exc_l0 (p : Pol) (t : Tri) (hs : Sz p) (hR : okR (excP p t) = true) (l : List Tri) (hl : l.length ≤ 1048576) (d : Nat) : ∀ (i : Nat) (x9 : List Tri), i ≤ l.length → l.length - i = d → x9.length ≤ i →
    x9 ++ (l.drop i).filter (fun u => !(eqT u t)) = relL (excP p t) → Evt (fun k => gatehouselaw08_MeanExcept.l0 k true l x9 (i : Int) t.f0 t.f1 t.f2 p.f0 p.f1 p.f2 p.f3 p.f4 p.f5 p.f6 p.f7 p.f8 p.f9 (p.f10 ++ [t])) true := by
  have hA : mean_Allows.f p.f0 p.f1 p.f2 p.f3 p.f4 p.f5 p.f6 p.f7 p.f8 p.f9 (p.f10 ++ [t]) t.f0 t.f1 t.f2 = some (allowsB (excP p t) t) := if_pos (okB_iff.2 (okR_iff.1 hR).1)
  have hRf : mean_Relation.f p.f0 p.f1 p.f2 p.f3 p.f4 p.f5 p.f6 p.f7 p.f8 p.f9 (p.f10 ++ [t]) = some (relL (excP p t)) := rel_f hR
  induction d with
  | zero =>
    intro i x9 h1 hd hx h
    rw [List.drop_of_length_le (by omega), List.filter_nil, List.append_nil] at h
    have he := equal_f (a := relL (excP p t)) (b := x9) h.symm (by rw [← h]; omega)
    refine (Evt.bind he (f := fun k x => if x = true then some true else some false) (Evt.now fun k => rfl)).step fun k => ?_
    simp only [gatehouselaw08_MeanExcept.l0]
    rw [if_neg (by omega), if_pos trivial, hRf, hA, exc_not]
    rfl
  | succ d ih =>
    intro i x9 h1 hd hx h
    have hlt : i < l.length := by omega
    have hdr : l.drop i = l[i] :: l.drop (i + 1) := List.drop_eq_getElem_cons hlt
    rw [hdr, List.filter_cons] at h
    cases hq : eqT l[i] t with
    | true =>
      rw [hq, if_neg (by simp)] at h
      refine (ih (i + 1) x9 (by omega) (by omega) (by omega) h).step fun k => ?_
      simp only [gatehouselaw08_MeanExcept.l0]
      rw [if_pos (by omega), if_pos (by omega), rdTri hlt, ne_cond, hq, if_neg (by simp), w1 (by omega)]
    | false =>
      rw [hq, if_pos (by simp)] at h
      refine (ih (i + 1) (x9 ++ [l[i]]) (by omega) (by omega) (by simp; omega) (by rw [List.append_assoc]; exact h)).step fun k => ?_
      simp only [gatehouselaw08_MeanExcept.l0]
      rw [if_pos (by omega), if_pos (by omega), rdTri hlt, ne_cond, hq, if_pos (by rfl), if_pos (by omega), w1 (by omega)]
theorem exc_f (p : Pol) (t : Tri) (hs : Sz p) : Evt (fun k => gatehouselaw08_MeanExcept.f k p.f0 p.f1 p.f2 p.f3 p.f4 p.f5 p.f6 p.f7 p.f8 p.f9 p.f10 t.f0 t.f1 t.f2) true := by
  obtain ⟨b, hb, hc⟩ := vast_f p hs.l1 hs.l3 hs.l0
  cases b with
  | true =>
    refine Evt.now fun k => ?_
    unfold gatehouselaw08_MeanExcept.f
    show (gatehouselaw08_vast.f p.f0 p.f1 p.f2 p.f3 p.f4 p.f5 p.f6 p.f7 p.f8 p.f9 p.f10).bind _ = _
    rw [hb]
    rfl
  | false =>
    have hcap := hc rfl
    have hk := hs.ok
    have h10 := hs.l10
    have hR : okR p = true := okR_iff.2 ⟨okB_iff.1 hk, by omega⟩
    have hRe : okR (excP p t) = true := hR
    have hl : (relL p).length ≤ 1048576 := Nat.le_trans (rel_le p) (by omega)
    have h0 := exc_l0 p t hs hRe (relL p) hl _ 0 [] (Nat.zero_le _) rfl (Nat.le_refl _) (by rw [List.drop_zero, List.nil_append]; exact (exc_rel p t).symm)
    refine (Evt.bind (twin_f p hs) (f := fun k x => if x.2.2.2.2.2.2.2.2.2.2.length < 2932031007402 then (mean_Relation.f p.f0 p.f1 p.f2 p.f3 p.f4 p.f5 p.f6 p.f7 p.f8 p.f9 p.f10).bind fun l => gatehouselaw08_MeanExcept.l0 k true l [] 0 t.f0 t.f1 t.f2 x.1 x.2.1 x.2.2.1 x.2.2.2.1 x.2.2.2.2.1 x.2.2.2.2.2.1 x.2.2.2.2.2.2.1 x.2.2.2.2.2.2.2.1 x.2.2.2.2.2.2.2.2.1 x.2.2.2.2.2.2.2.2.2.1 (x.2.2.2.2.2.2.2.2.2.2 ++ [t]) else none) ?_).same fun k => ?_
    · refine h0.same fun k => ?_
      rw [if_pos (by show p.f10.length < _; omega), rel_f hR]
      rfl
    · unfold gatehouselaw08_MeanExcept.f
      show (gatehouselaw08_vast.f p.f0 p.f1 p.f2 p.f3 p.f4 p.f5 p.f6 p.f7 p.f8 p.f9 p.f10).bind _ = _
      rw [hb]
      rfl
end Go.Proofs.Ytnkdcekddhmjnaa.M
