/- NamesFloats: an index of floats beside a list of floats: what lies where. Conditions: each theorem's own. -/
import Derived.Test.YtaeijlkogenblaaNf
namespace Go.Proofs.Ytaeijlkogenblaa.Nf
open Go.RowKit Go.Shelf Go.Proofs.YtaeijlkogenblaaW.Raw Go.Proofs.YtaeijlkogenblaaW.PrintWords Go.Proofs.Ytaeijlkogenblaa.IxF
set_option linter.unusedVariables false
structure Fs (w wr : World) (g m bl r0 : Nat) (v bu u : Value) (xs ys : List Nat) : Prop where
  I : Idx wr w.heap.size g m v xs
  box : wr.heap[bl]? = some (.cells #[bu] 55 (0, 0))
  row : wr.ownsRow w.heap.size 47 1 u ys.length (encs (Value.float .f64) ys)
  ne : ∀ b, u.ownBlock = some b → v.ownBlock ≠ some b
  res : wr.heap[r0]? = some (.cells #[.bool false] 4 (0, 0))
  b : Below w.heap.size w wr
  hbl : w.heap.size ≤ bl
  hr0 : w.heap.size ≤ r0
variable {w wr wr' : World} {g m bl r0 : Nat} {v bu u : Value} {xs ys : List Nat}
theorem idx_move {base : Nat} (h : Idx w base g m v xs) (hm : ∀ i, i < w.heap.size → (i = g ∨ i = m ∨ some i = v.ownBlock) → wr.heap[i]? = w.heap[i]?) : Idx wr base g m v xs :=
  ⟨(hm g (Array.getElem?_eq_some_iff.1 h.blk).1 (.inl rfl)).trans h.blk, h.raw.move (hm m h.raw.lt (.inr (.inl rfl))), own_heap h.row (fun k hk => hm k (own_lt h.row k hk) (.inr (.inr hk.symm))), h.hg, h.hm⟩
theorem lt_of_get {w : World} {i : Nat} {o : Obj} (h : w.heap[i]? = some o) : i < w.heap.size := (Array.getElem?_eq_some_iff.1 h).1
theorem Fs.below (h : Fs w wr g m bl r0 v bu u xs ys) (hb : Below wr.heap.size wr wr') : Fs w wr' g m bl r0 v bu u xs ys :=
  ⟨idx_move h.I (fun i hi _ => hb.block i hi), (hb.block _ (lt_of_get h.box)).trans h.box, own_heap h.row (fun k hk => hb.block k (own_lt h.row k hk)), h.ne, (hb.block _ (lt_of_get h.res)).trans h.res, h.b.trans (hb.mono h.b.size), h.hbl, h.hr0⟩
theorem Fs.drew (h : Fs w wr g m bl r0 v bu u xs ys) (j : Nat) : Fs w (wr.drewN j) g m bl r0 v bu u xs ys := h.below (pw_below_drewN (Below.refl _ _) j)
/-- The blocks that a turn of the index may turn are none of the list's, nor the two boxes. -/
theorem Fs.off (h : Fs w wr g m bl r0 v bu u xs ys) {i : Nat} (hi : i = g ∨ i = m ∨ some i = v.ownBlock) : i ≠ bl ∧ i ≠ r0 ∧ u.ownBlock ≠ some i := by
  rcases hi with rfl | rfl | hi
  · exact ⟨blk_ne h.I.blk h.box (by decide), blk_ne h.I.blk h.res (by decide), fun e => own_ne h.row h.I.blk (by decide) e.symm⟩
  · exact ⟨raw_ne_blk h.I.raw h.box, raw_ne_blk h.I.raw h.res, fun e => raw_ne h.I.raw h.row e.symm⟩
  · refine ⟨fun e => ?_, fun e => ?_, fun e => h.ne _ e hi.symm⟩
    · subst e; exact own_ne h.I.row h.box (by decide) hi
    · subst e; exact own_ne h.I.row h.res (by decide) hi
/-- The index has taken one more. -/
theorem Fs.of (h : Fs w wr g m bl r0 v bu u xs ys) {v' : Value} {f : Nat} (hI : Idx wr' w.heap.size g m v' (xs ++ [f])) (hb : Below w.heap.size wr wr') (hk : Kept wr wr' (fun i => i = g ∨ i = m ∨ some i = v.ownBlock)) (hv : v'.ownBlock = v.ownBlock ∨ ∃ b, v'.ownBlock = some b ∧ wr.heap.size ≤ b) :
    Fs w wr' g m bl r0 v' bu u (xs ++ [f]) ys :=
  ⟨hI, (hk.2 bl (lt_of_get h.box) (fun hi => (h.off hi).1 rfl)).trans h.box, own_heap h.row (fun k hk' => hk.2 k (own_lt h.row k hk') (fun hi => (h.off hi).2.2 hk')), fun b hb' => by
    rcases hv with e | ⟨b', e, hle⟩
    · rw [e]; exact h.ne b hb'
    · rw [e]; intro e2; injection e2 with e2
      have := own_lt h.row b hb'
      omega,
   (hk.2 r0 (lt_of_get h.res) (fun hi => (h.off hi).2.1 rfl)).trans h.res, h.b.trans hb, h.hbl, h.hr0⟩
/-- The list has been appended to. -/
theorem Fs.app (h : Fs w wr g m bl r0 v bu u xs ys) {v1 : Value} {y : Nat} (hown : wr'.ownsRow w.heap.size 47 1 v1 (ys ++ [y]).length (encs (Value.float .f64) (ys ++ [y]))) (hb : Below w.heap.size w wr') (hg : wr.grownBy wr' u.ownBlock)
    (hat : v1.ownBlock = u.ownBlock ∨ ∃ b, v1.ownBlock = some b ∧ wr.heap.size ≤ b) : Fs w wr' g m bl r0 v bu v1 xs (ys ++ [y]) :=
  ⟨idx_move h.I (fun i hi hh => hg.block i hi (fun e => (h.off hh).2.2 e.symm)), (hg.block _ (lt_of_get h.box) (fun e => own_ne h.row h.box (by decide) e)).trans h.box, hown, fun b hb' => by
    rcases hat with e | ⟨b', e, hle⟩
    · rw [e] at hb'; exact h.ne b hb'
    · rw [e] at hb'
      injection hb' with hb'
      subst hb'
      intro e2
      have := own_lt h.I.row _ e2
      omega,
   (hg.block _ (lt_of_get h.res) (fun e => own_ne h.row h.res (by decide) e)).trans h.res, hb, h.hbl, h.hr0⟩
/-- The list's box has been stored into. -/
theorem Fs.put (h : Fs w wr g m bl r0 v bu u xs ys) (hw : wr'.heap[bl]? = some (.cells #[u] 55 (0, 0))) (hs : ∀ i, i ≠ bl → wr'.heap[i]? = wr.heap[i]?) (hb : ∀ B, B ≤ bl → Below B wr wr') : Fs w wr' g m bl r0 v u u xs ys :=
  ⟨idx_move h.I (fun i _ hh => hs i (h.off hh).1), hw, own_heap h.row (fun k hk => hs k (fun e => by subst e; exact own_ne h.row h.box (by decide) hk.symm)), h.ne, (hs r0 (fun e => blk_ne h.res h.box (by decide) e)).trans h.res, h.b.trans (hb _ h.hbl), h.hbl, h.hr0⟩
theorem Fs.slice (h : Fs w wr g m bl r0 v bu u xs ys) : ∃ A c, u = .slice A ys.length c := own_slice h.row
theorem of_new_fs (h : Fs w wr g m bl r0 v bu u xs ys) (f : Nat) (hi : xs.findIdx? (fun b => eqk f b) = none) (hl : xs.length < 1048576) :
    Calls Try.prog 22 #[.pointer (some ⟨g, 0, none⟩), .float .f64 f] wr fun e w' => e = .returned (.int .i64 ((xs.length : Int) + 1)) ∧ ∃ v', Fs w w' g m bl r0 v' bu u (xs ++ [f]) ys :=
  (of_new f xs _ g m v wr h.I hi hl).mono fun e w' ⟨he, v', h1, h2, h3, h4⟩ => ⟨he, v', h.of h1 h2 h3 h4⟩
end Go.Proofs.Ytaeijlkogenblaa.Nf
