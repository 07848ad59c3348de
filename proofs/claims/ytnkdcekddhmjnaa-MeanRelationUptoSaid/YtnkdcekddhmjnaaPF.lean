import Derived.Test.YtnkdcekddhmjnaaPA
import Derived.Test.YtnkdcekddhmjnaaAx
import Derived.Test.YtnkdcekddhmjnaaF0
import Derived.Test.YtnkdcekddhmjnaaF1
import Derived.Test.YtnkdcekddhmjnaaSC
/- What is reached along pairs, as a relation; one rule more, one except more, a name that is not there. Conditions: each theorem's own. -/
namespace Go.Proofs.Ytnkdcekddhmjnaa.M
open Go.RowKit Go.Proofs.YtnkdcekddhmjnaaW.Raw Go.Proofs.YtnkdcekddhmjnaaW.PrintWords Go.Proofs.Ytnkdcekddhmjnaa.F
set_option linter.unusedVariables false
/-- A way leads from a name to a name. -/
inductive Way (ps : List Pair) (a : ByteArray) : ByteArray → Prop
  | here : Way ps a a
  | on {x y : ByteArray} (h : Way ps a x) (hp : ∃ p ∈ ps, p.f0 = x ∧ p.f1 = y) : Way ps a y
theorem rounds_pre (N : ByteArray → List ByteArray) (L0 : List ByteArray) (k d : Nat) : ∃ zs, rounds N L0 (k + d) = rounds N L0 k ++ zs := by
  induction d with
  | zero => exact ⟨[], (List.append_nil _).symm⟩
  | succ d ih =>
    obtain ⟨zs, h⟩ := ih
    show ∃ zs, (match (rounds N L0 (k + d))[k + d]? with | some x => addAll (rounds N L0 (k + d)) (N x) | none => rounds N L0 (k + d)) = _
    cases (rounds N L0 (k + d))[k + d]? with
    | none => exact ⟨zs, h⟩
    | some x =>
      obtain ⟨ys, hy⟩ := addAll_pre (N x) (rounds N L0 (k + d))
      exact ⟨zs ++ ys, by show addAll _ _ = _; rw [hy, h, List.append_assoc]⟩
theorem rounds_nodup (N : ByteArray → List ByteArray) (L0 : List ByteArray) (h : L0.Nodup) (k : Nat) : (rounds N L0 k).Nodup := by
  induction k with
  | zero => exact h
  | succ k ih =>
    show (match (rounds N L0 k)[k]? with | some x => addAll (rounds N L0 k) (N x) | none => rounds N L0 k).Nodup
    cases (rounds N L0 k)[k]? with
    | none => exact ih
    | some x => exact addAll_nodup _ _ ih
theorem upL_len (ps : List Pair) (n : ByteArray) : (upL ps n).length ≤ ps.length + 1 := by
  have := nodup_le (U := n :: ps.map (·.f1)) (rounds_nodup (tos ps) [n] (by simp) (ps.length + 1)) (rounds_in (fun x hx => by rw [List.mem_singleton] at hx; subst hx; exact List.mem_cons_self) (fun x y hy => by
    obtain ⟨p, hp, _, rfl⟩ := tos_mem.1 hy
    exact List.mem_cons_of_mem _ (List.mem_map.2 ⟨p, hp, rfl⟩)) _)
  rw [List.length_cons, List.length_map] at this
  exact this
/-- What is reached is closed. -/
theorem upL_closed {ps : List Pair} {n x y : ByteArray} (hx : x ∈ upL ps n) (hp : ∃ p ∈ ps, p.f0 = x ∧ p.f1 = y) : y ∈ upL ps n := by
  obtain ⟨i, hi⟩ := List.mem_iff_getElem?.1 hx
  have hil := (List.getElem?_eq_some_iff.1 hi).1
  have hl := upL_len ps n
  have hi1 : i < ps.length + 1 := by omega
  obtain ⟨d, hd⟩ : ∃ d, ps.length + 1 = (i + 1) + d := ⟨ps.length - i, by omega⟩
  obtain ⟨zs, h1⟩ := rounds_pre (tos ps) [n] (i + 1) d
  obtain ⟨ws, h2⟩ := rounds_pre (tos ps) [n] i (1 + d)
  have hR : upL ps n = rounds (tos ps) [n] (i + 1) ++ zs := by unfold upL; rw [hd, h1]
  have hR2 : upL ps n = rounds (tos ps) [n] i ++ ws := by unfold upL; rw [hd, Nat.add_assoc, h2]
  by_cases hlt : i < (rounds (tos ps) [n] i).length
  · have hxi : (rounds (tos ps) [n] i)[i]? = some x := by rw [hR2, List.getElem?_append_left hlt] at hi; exact hi
    have hs : rounds (tos ps) [n] (i + 1) = addAll (rounds (tos ps) [n] i) (tos ps x) := by
      show (match (rounds (tos ps) [n] i)[i]? with | some x => addAll (rounds (tos ps) [n] i) (tos ps x) | none => rounds (tos ps) [n] i) = _
      rw [hxi]
    rw [hR, hs]
    exact List.mem_append_left _ ((addAll_mem _ _ _).2 (.inr (tos_mem.2 hp)))
  · have hst := rounds_stay (N := tos ps) (L0 := [n]) (k := i) (by omega) (1 + d)
    have : upL ps n = rounds (tos ps) [n] i := by unfold upL; rw [hd, Nat.add_assoc, hst]
    rw [this] at hil
    omega
theorem upL_first (ps : List Pair) (n : ByteArray) : n ∈ upL ps n := by
  obtain ⟨zs, h⟩ := rounds_pre (tos ps) [n] 0 (ps.length + 1)
  rw [Nat.zero_add] at h
  unfold upL
  rw [h]
  exact List.mem_append_left _ (List.mem_singleton.2 rfl)
theorem mem_upL {ps : List Pair} {n x : ByteArray} : x ∈ upL ps n ↔ Way ps n x := by
  constructor
  · have : ∀ k, ∀ x ∈ rounds (tos ps) [n] k, Way ps n x := by
      intro k
      induction k with
      | zero => intro x hx; rw [show rounds (tos ps) [n] 0 = [n] from rfl, List.mem_singleton] at hx; subst hx; exact .here
      | succ k ih =>
        intro x hx
        unfold rounds at hx
        split at hx
        · rename_i y hy
          rw [addAll_mem] at hx
          rcases hx with hx | hx
          · exact ih x hx
          · exact .on (ih y (List.mem_of_getElem? hy)) (tos_mem.1 hx)
        · exact ih x hx
    exact this _ x
  · intro h
    induction h with
    | here => exact upL_first ps n
    | on _ hp ih => exact upL_closed ih hp
end Go.Proofs.Ytnkdcekddhmjnaa.M
/- What twin and only make, plainly; a denial overrides (MeanDenyWins), one except more (MeanExcept), plainly. Conditions: no list, and no rule's list of actions, is longer than 1048576. -/
namespace Go.Proofs.Ytnkdcekddhmjnaa.M
open Go.RowKit Go.Proofs.YtnkdcekddhmjnaaW.PrintWords Go.Proofs.Ytnkdcekddhmjnaa.F
set_option linter.unusedVariables false
structure Sz (p : Pol) : Prop where
  l0 : p.f0.length ≤ 1048576
  l1 : p.f1.length ≤ 1048576
  l2 : p.f2.length ≤ 1048576
  l3 : p.f3.length ≤ 1048576
  l4 : p.f4.length ≤ 1048576
  l5 : p.f5.length ≤ 1048576
  l6 : p.f6.length ≤ 1048576
  l7 : p.f7.length ≤ 1048576
  l8 : p.f8.length ≤ 1048576
  l9 : p.f9.length ≤ 1048576
  l10 : p.f10.length ≤ 1048576
  la : ∀ r ∈ p.f9, r.f3.length ≤ 1048576
theorem Sz.ok {p : Pol} (h : Sz p) : okB p = true := okB_iff.2 ⟨by have := h.l5; have := h.l6; omega, by have := h.l7; have := h.l8; omega, by have := h.l9; omega, by have := h.l0; omega, by have := h.l1; omega, by have := h.l3; omega⟩
theorem rdRule {l : List Rule} {i : Nat} (h : i < l.length) : rd_T27 l (i : Int) = l[i] := by simp [rd_T27, List.getD_eq_getElem?_getD, h]
theorem allT_len (p : Pol) : (allT p).length ≤ p.f1.length * (p.f3.length * p.f0.length) := by
  have h1 := ads_len (triL (namesOf p) p.f3 p.f0) []
  have h2 : (triL (namesOf p) p.f3 p.f0).length ≤ p.f1.length * (p.f3.length * p.f0.length) := by
    rw [← triL_eq]
    refine flat_len _ _ _ fun s _ => flat_len _ _ _ fun o _ => ?_
    rw [List.length_map]
    exact Nat.le_refl _
  have h3 : (allT p).length = (ads [] (triL (namesOf p) p.f3 p.f0)).length := rfl
  rw [h3]
  simp at h1
  omega
theorem rel_le (p : Pol) : (relL p).length ≤ p.f1.length * (p.f3.length * p.f0.length) := by
  rw [relL_eq]
  exact Nat.le_trans (List.length_filter_le _ _) (allT_len p)
end Go.Proofs.Ytnkdcekddhmjnaa.M
