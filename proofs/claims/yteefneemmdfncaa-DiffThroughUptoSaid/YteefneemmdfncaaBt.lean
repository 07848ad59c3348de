import Derived.Test.YteefneemmdfncaaWAlo
import Derived.Test.YteefneemmdfncaaCr
/- A region of two loads, two calls, two new boxes and two stores, in whatever order: what is kept. No condition. -/
namespace Go.Proofs.Yteefneemmdfncaa.M
open Go.RowKit Go.Proofs.YteefneemmdfncaaW.Raw Go.Proofs.YteefneemmdfncaaW.PrintWords Go.Proofs.YteefneemmdfncaaW.PrintLast Go.Proofs.YteefneemmdfncaaW.PrintAll Go.Proofs.Yteefneemmdfncaa.F
set_option linter.unusedVariables false
theorem bt_off {l : Nat → Bool} {i j : Nat} (h : l i = true → l j = true) (hj : l j = false) : l i = false := by
  cases hq : l i with
  | false => rfl
  | true => exact absurd (h hq) (by rw [hj]; decide)
/-- One of the two boxes: made by operation i, filled by operation k with what operation j gave. -/
structure BtB (w : World) (T : Nat) (z : Value) (P : Value → World → Prop) (j i k : Nat) (l : Nat → Bool) (xs : Nat → Value) (W : World) : Prop where
  p : l j = true → P (xs j) W
  o : l k = true → l i = true ∧ l j = true
  b : l i = true → ∃ g, xs i = .pointer (some ⟨g, 0, none⟩) ∧ w.heap.size ≤ g ∧ ((l k = false ∧ W.heap[g]? = some (Obj.cells #[z] T (0, 0))) ∨ (l k = true ∧ W.heap[g]? = some (Obj.cells #[xs j] T (0, 0))))
/-- What is told of the value: it abides new blocks, and a box of this kind that is written. -/
structure BtP (T : Nat) (P : Value → World → Prop) : Prop where
  below : ∀ {v : Value} {W W' : World}, P v W → Below W.heap.size W W' → P v W'
  box : ∀ {v : Value} {W W' : World} {g : Nat} {cs : Array Value}, P v W → W.heap[g]? = some (Obj.cells cs T (0, 0)) → (∀ x, x ≠ g → W'.heap[x]? = W.heap[x]?) → P v W'
section
variable {w W W' : World} {T : Nat} {z : Value} {P : Value → World → Prop} {j i k q : Nat} {l l' : Nat → Bool} {xs : Nat → Value} {v : Value}
theorem BtB.start (hl : ∀ x, l x = false) : BtB w T z P j i k l xs W := ⟨fun h => absurd h (by rw [hl]; decide), fun h => absurd h (by rw [hl]; decide), fun h => absurd h (by rw [hl]; decide)⟩
theorem BtB.below (hP : BtP T P) (h : BtB w T z P j i k l xs W) (hb : Below W.heap.size W W') : BtB w T z P j i k l xs W' :=
  ⟨fun hl => hP.below (h.p hl) hb, h.o, fun hl => by
    obtain ⟨g, e, hg, hh⟩ := h.b hl
    exact ⟨g, e, hg, hh.imp (fun h => ⟨h.1, blk_below h.2 hb⟩) (fun h => ⟨h.1, blk_below h.2 hb⟩)⟩⟩
theorem BtB.same (n : Nat) (hj : j < n) (hi : i < n) (hk : k < n) (hl : ∀ x, x < n → l x = l' x) (h : BtB w T z P j i k l xs W) : BtB w T z P j i k l' xs W :=
  ⟨fun h2 => h.p ((hl j hj).trans h2), fun h2 => by
    obtain ⟨h3, h4⟩ := h.o ((hl k hk).trans h2)
    exact ⟨(hl i hi).symm.trans h3, (hl j hj).symm.trans h4⟩, fun h2 => by
    rw [← hl k hk]
    exact h.b ((hl i hi).trans h2)⟩
/-- Another operation comes up. -/
theorem BtB.far (hj : q ≠ j) (hi : q ≠ i) (hk : q ≠ k) (h : BtB w T z P j i k l xs W) : BtB w T z P j i k (upd l q true) (upd xs q v) W := by
  refine ⟨?_, ?_, ?_⟩
  · rw [upd_other _ _ hj.symm, upd_other _ _ hj.symm]
    exact h.p
  · rw [upd_other _ _ hk.symm, upd_other _ _ hi.symm, upd_other _ _ hj.symm]
    exact h.o
  · rw [upd_other _ _ hk.symm, upd_other _ _ hi.symm, upd_other _ _ hi.symm, upd_other _ _ hj.symm]
    exact h.b
/-- The call has answered. -/
theorem BtB.call (hij : i ≠ j) (hkj : k ≠ j) (hl : l j = false) (h : BtB w T z P j i k l xs W) (hv : P v W) : BtB w T z P j i k (upd l j true) (upd xs j v) W := by
  have hk : l k = false := bt_off (fun h2 => (h.o h2).2) hl
  refine ⟨fun _ => by rw [upd_same]; exact hv, fun h2 => ?_, fun h2 => ?_⟩
  · rw [upd_other _ _ hkj, hk] at h2
    cases h2
  · rw [upd_other _ _ hij] at h2 ⊢
    rw [upd_other _ _ hkj]
    obtain ⟨g, e, hg, hh⟩ := h.b h2
    refine ⟨g, e, hg, .inl ⟨hk, ?_⟩⟩
    rcases hh with hh | hh
    · exact hh.2
    · rw [hk] at hh
      cases hh.1
/-- The box is there. -/
theorem BtB.alloc (hP : BtP T P) (hij : i ≠ j) (hik : i ≠ k) (hl : l i = false) (h : BtB w T z P j i k l xs W) (hb : Below W.heap.size W W') (hw : w.heap.size ≤ W.heap.size) (hx : W'.heap[W.heap.size]? = some (Obj.cells #[z] T (0, 0))) : BtB w T z P j i k (upd l i true) (upd xs i (.pointer (some ⟨W.heap.size, 0, none⟩))) W' := by
  have hk : l k = false := bt_off (fun h2 => (h.o h2).1) hl
  refine ⟨fun h2 => ?_, fun h2 => ?_, fun _ => ⟨W.heap.size, upd_same _ _ _, hw, .inl ⟨by rw [upd_other _ _ hik.symm]; exact hk, hx⟩⟩⟩
  · rw [upd_other _ _ hij.symm] at h2 ⊢
    exact hP.below (h.p h2) hb
  · rw [upd_other _ _ hik.symm, hk] at h2
    cases h2
/-- The box is filled. -/
theorem BtB.store {g : Nat} (hP : BtP T P) (hkj : k ≠ j) (hki : k ≠ i) (h : BtB w T z P j i k l xs W) (h1 : l i = true) (h2 : l j = true) (e : xs i = .pointer (some ⟨g, 0, none⟩)) (hg : w.heap.size ≤ g) (hh : W.heap[g]? = some (Obj.cells #[z] T (0, 0))) (hx : W'.heap[g]? = some (Obj.cells #[xs j] T (0, 0))) (ho : ∀ x, x ≠ g → W'.heap[x]? = W.heap[x]?) : BtB w T z P j i k (upd l k true) (upd xs k v) W' := by
  refine ⟨fun h3 => ?_, fun _ => ?_, fun _ => ⟨g, ?_, hg, .inr ⟨upd_same _ _ _, ?_⟩⟩⟩
  · rw [upd_other _ _ hkj.symm] at h3 ⊢
    exact hP.box (h.p h3) hh ho
  · rw [upd_other _ _ hki.symm, upd_other _ _ hkj.symm]
    exact ⟨h1, h2⟩
  · rw [upd_other _ _ hki.symm]
    exact e
  · rw [upd_other _ _ hkj.symm]
    exact hx
end
end Go.Proofs.Yteefneemmdfncaa.M
