/- MeanDenyWins, plainly. Conditions: no list, and no rule's list of actions, is longer than 1048576. -/
import Derived.Test.YtnkdcekddhmjnaaPF
import Derived.Test.YtnkdcekddhmjnaaF10
namespace Go.Proofs.Ytnkdcekddhmjnaa.M
open Go.RowKit Go.Proofs.YtnkdcekddhmjnaaW.PrintWords Go.Proofs.Ytnkdcekddhmjnaa.F
set_option linter.unusedVariables false
theorem deny_l0 (p : Pol) (hs : Sz p) (hR : okR p = true) (no yes : List Tri) (hn : no.length ≤ 1048576) (hy : yes.length ≤ 1048576) (d : Nat) : ∀ (i : Nat) (x7 : List Tri), i ≤ yes.length → yes.length - i = d → x7.length ≤ i →
    x7 ++ (yes.drop i).filter (fun t => !hasB no t && !hasB p.f10 t) = relL p → Evt (fun k => gatehouselaw08_MeanDenyWins.l0 k true yes no x7 (i : Int) p.f0 p.f1 p.f2 p.f3 p.f4 p.f5 p.f6 p.f7 p.f8 p.f9 p.f10) true := by
  have h10 := hs.l10
  induction d with
  | zero =>
    intro i x7 h1 hd hx h
    rw [List.drop_of_length_le (by omega), List.filter_nil, List.append_nil] at h
    have he := equal_f (a := relL p) (b := x7) h.symm (by rw [← h]; omega)
    refine (Evt.bind he (f := fun k x => some x) (Evt.now fun k => rfl)).step fun k => ?_
    simp only [gatehouselaw08_MeanDenyWins.l0]
    rw [if_neg (by omega), if_pos trivial, rel_f hR]
    rfl
  | succ d ih =>
    intro i x7 h1 hd hx h
    have hlt : i < yes.length := by omega
    have hdr : yes.drop i = yes[i] :: yes.drop (i + 1) := List.drop_eq_getElem_cons hlt
    rw [hdr, List.filter_cons] at h
    have e1 := has_f no yes[i] (by omega)
    have e2 := has_f p.f10 yes[i] (by omega)
    have h3 : Evt (fun k => if hasB no yes[i] = true then gatehouselaw08_MeanDenyWins.l0 k true yes no x7 ((i + 1 : Nat) : Int) p.f0 p.f1 p.f2 p.f3 p.f4 p.f5 p.f6 p.f7 p.f8 p.f9 p.f10 else if hasB p.f10 yes[i] = true then gatehouselaw08_MeanDenyWins.l0 k true yes no x7 ((i + 1 : Nat) : Int) p.f0 p.f1 p.f2 p.f3 p.f4 p.f5 p.f6 p.f7 p.f8 p.f9 p.f10
        else if x7.length < 2932031007402 then gatehouselaw08_MeanDenyWins.l0 k true yes no (x7 ++ [yes[i]]) ((i + 1 : Nat) : Int) p.f0 p.f1 p.f2 p.f3 p.f4 p.f5 p.f6 p.f7 p.f8 p.f9 p.f10 else none) true := by
      cases hq : hasB no yes[i] with
      | true =>
        rw [hq, if_neg (by simp)] at h
        exact (ih (i + 1) x7 (by omega) (by omega) (by omega) h).same fun k => if_pos rfl
      | false =>
        cases hq2 : hasB p.f10 yes[i] with
        | true =>
          rw [hq, hq2, if_neg (by simp)] at h
          exact (ih (i + 1) x7 (by omega) (by omega) (by omega) h).same fun k => by rw [if_neg (by simp), if_pos rfl]
        | false =>
          rw [hq, hq2, if_pos (by simp)] at h
          exact (ih (i + 1) (x7 ++ [yes[i]]) (by omega) (by omega) (by simp; omega) (by rw [List.append_assoc]; exact h)).same fun k => by rw [if_neg (by simp), if_neg (by simp), if_pos (by omega)]
    refine (Evt.bind e1 (f := fun k a => (gatehouselaw08_has.f k p.f10 yes[i].f0 yes[i].f1 yes[i].f2).bind fun b => if a = true then gatehouselaw08_MeanDenyWins.l0 k true yes no x7 ((i + 1 : Nat) : Int) p.f0 p.f1 p.f2 p.f3 p.f4 p.f5 p.f6 p.f7 p.f8 p.f9 p.f10 else if b = true then gatehouselaw08_MeanDenyWins.l0 k true yes no x7 ((i + 1 : Nat) : Int) p.f0 p.f1 p.f2 p.f3 p.f4 p.f5 p.f6 p.f7 p.f8 p.f9 p.f10
        else if x7.length < 2932031007402 then gatehouselaw08_MeanDenyWins.l0 k true yes no (x7 ++ [yes[i]]) ((i + 1 : Nat) : Int) p.f0 p.f1 p.f2 p.f3 p.f4 p.f5 p.f6 p.f7 p.f8 p.f9 p.f10 else none) (Evt.bind e2 (f := fun k b => if hasB no yes[i] = true then gatehouselaw08_MeanDenyWins.l0 k true yes no x7 ((i + 1 : Nat) : Int) p.f0 p.f1 p.f2 p.f3 p.f4 p.f5 p.f6 p.f7 p.f8 p.f9 p.f10 else if b = true then gatehouselaw08_MeanDenyWins.l0 k true yes no x7 ((i + 1 : Nat) : Int) p.f0 p.f1 p.f2 p.f3 p.f4 p.f5 p.f6 p.f7 p.f8 p.f9 p.f10
        else if x7.length < 2932031007402 then gatehouselaw08_MeanDenyWins.l0 k true yes no (x7 ++ [yes[i]]) ((i + 1 : Nat) : Int) p.f0 p.f1 p.f2 p.f3 p.f4 p.f5 p.f6 p.f7 p.f8 p.f9 p.f10 else none) h3)).step fun k => ?_
    simp only [gatehouselaw08_MeanDenyWins.l0]
    rw [if_pos (by omega), if_pos (by omega), rdTri hlt, w1 (by omega)]
theorem deny_rel (p : Pol) : relL p = (relL (onlyP p false)).filter fun t => !hasB (relL (onlyP p true)) t && !hasB p.f10 t := by
  rw [relL_eq p, relL_eq (onlyP p false), List.filter_filter, only_allT]
  refine List.filter_congr fun t ht => ?_
  rw [hasB_rel, deny_wins p t]
  unfold hasB
  cases allowsB (onlyP p false) t <;> cases allowsB (onlyP p true) t <;> cases (p.f10.any fun u => eqT t u) <;> rfl
theorem deny_f (p : Pol) (hs : Sz p) : Evt (fun k => gatehouselaw08_MeanDenyWins.f k p.f0 p.f1 p.f2 p.f3 p.f4 p.f5 p.f6 p.f7 p.f8 p.f9 p.f10) true := by
  obtain ⟨b, hb, hc⟩ := vast_f p hs.l1 hs.l3 hs.l0
  cases b with
  | true =>
    refine Evt.now fun k => ?_
    unfold gatehouselaw08_MeanDenyWins.f
    show (gatehouselaw08_vast.f p.f0 p.f1 p.f2 p.f3 p.f4 p.f5 p.f6 p.f7 p.f8 p.f9 p.f10).bind _ = _
    rw [hb]
    rfl
  | false =>
    have hcap := hc rfl
    have hk := hs.ok
    have hR : okR p = true := okR_iff.2 ⟨okB_iff.1 hk, by omega⟩
    have hRo : ∀ b, okR (onlyP p b) = true := fun b => okR_iff.2 ⟨okB_iff.1 (okB_iff.2 (by
      have := okB_iff.1 hk
      exact ⟨this.1, this.2, Nat.le_trans (by show (onlyR b p.f9).length ≤ _; unfold onlyR; rw [List.length_map]; exact List.length_filter_le _ _) (Nat.le_trans hs.l9 (by omega)), Nat.le_trans hs.l0 (by omega), Nat.le_trans hs.l1 (by omega), Nat.le_trans hs.l3 (by omega)⟩)), by show p.f1.length * (p.f3.length * p.f0.length) ≤ _; omega⟩
    have hl : ∀ b, (relL (onlyP p b)).length ≤ 1048576 := fun b => Nat.le_trans (rel_le (onlyP p b)) (by show p.f1.length * (p.f3.length * p.f0.length) ≤ _; omega)
    have h0 := deny_l0 p hs hR (relL (onlyP p true)) (relL (onlyP p false)) (hl _) (hl _) _ 0 [] (Nat.zero_le _) rfl (Nat.le_refl _) (by rw [List.drop_zero, List.nil_append]; exact (deny_rel p).symm)
    have e1 := only_f p hs false
    have e2 := only_f p hs true
    refine (Evt.bind e1 (f := fun k x => (mean_Relation.f x.1 x.2.1 x.2.2.1 x.2.2.2.1 x.2.2.2.2.1 x.2.2.2.2.2.1 x.2.2.2.2.2.2.1 x.2.2.2.2.2.2.2.1 x.2.2.2.2.2.2.2.2.1 x.2.2.2.2.2.2.2.2.2.1 x.2.2.2.2.2.2.2.2.2.2).bind fun yes =>
      (gatehouselaw08_only.f k p.f0 p.f1 p.f2 p.f3 p.f4 p.f5 p.f6 p.f7 p.f8 p.f9 p.f10 true).bind fun y => (mean_Relation.f y.1 y.2.1 y.2.2.1 y.2.2.2.1 y.2.2.2.2.1 y.2.2.2.2.2.1 y.2.2.2.2.2.2.1 y.2.2.2.2.2.2.2.1 y.2.2.2.2.2.2.2.2.1 y.2.2.2.2.2.2.2.2.2.1 y.2.2.2.2.2.2.2.2.2.2).bind fun no =>
      gatehouselaw08_MeanDenyWins.l0 k true yes no [] 0 p.f0 p.f1 p.f2 p.f3 p.f4 p.f5 p.f6 p.f7 p.f8 p.f9 p.f10) ?_).same fun k => ?_
    · refine (Evt.bind e2 (f := fun k y => (mean_Relation.f y.1 y.2.1 y.2.2.1 y.2.2.2.1 y.2.2.2.2.1 y.2.2.2.2.2.1 y.2.2.2.2.2.2.1 y.2.2.2.2.2.2.2.1 y.2.2.2.2.2.2.2.2.1 y.2.2.2.2.2.2.2.2.2.1 y.2.2.2.2.2.2.2.2.2.2).bind fun no =>
        gatehouselaw08_MeanDenyWins.l0 k true (relL (onlyP p false)) no [] 0 p.f0 p.f1 p.f2 p.f3 p.f4 p.f5 p.f6 p.f7 p.f8 p.f9 p.f10) ?_).same fun k => ?_
      · refine h0.same fun k => ?_
        exact bind_of (rel_f (hRo true))
      · exact bind_of (rel_f (hRo false))
    · unfold gatehouselaw08_MeanDenyWins.f
      show (gatehouselaw08_vast.f p.f0 p.f1 p.f2 p.f3 p.f4 p.f5 p.f6 p.f7 p.f8 p.f9 p.f10).bind _ = _
      rw [hb]
      rfl
end Go.Proofs.Ytnkdcekddhmjnaa.M
