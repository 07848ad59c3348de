/- NamesPairs: an index of arrays beside a list of arrays: what lies where. Conditions: each theorem's own. -/
import Derived.Test.YtaeijlkogenblaaNf
import Derived.Test.YtaeijlkogenblaaIxPIt
import Derived.Sort.QuietIn
namespace Go.Proofs.Ytaeijlkogenblaa.Np
open Go.RowKit Go.Shelf Go.Proofs.YtaeijlkogenblaaW.Raw Go.Proofs.YtaeijlkogenblaaW.PrintWords Go.Proofs.Ytaeijlkogenblaa.IxP
set_option linter.unusedVariables false
structure Fp (w wr : World) (g m bl r0 : Nat) (v bu u : Value) (xs ys : List (Int × Int)) : Prop where
  I : Idx wr w.heap.size g m v xs
  box : wr.heap[bl]? = some (.cells #[bu] 68 (0, 0))
  row : wr.ownsRow w.heap.size 48 2 u ys.length (cel ys)
  ne : ∀ b, u.ownBlock = some b → v.ownBlock ≠ some b
  res : wr.heap[r0]? = some (.cells #[.bool false] 4 (0, 0))
  b : Below w.heap.size w wr
  hbl : w.heap.size ≤ bl
  hr0 : w.heap.size ≤ r0
variable {w wr wr' : World} {g m bl r0 : Nat} {v bu u : Value} {xs ys : List (Int × Int)}
theorem idx_move {base : Nat} (h : Idx w base g m v xs) (hm : ∀ i, i < w.heap.size → (i = g ∨ i = m ∨ some i = v.ownBlock) → wr.heap[i]? = w.heap[i]?) : Idx wr base g m v xs :=
  ⟨(hm g (Array.getElem?_eq_some_iff.1 h.blk).1 (.inl rfl)).trans h.blk, h.raw.move (hm m h.raw.lt (.inr (.inl rfl))), own_heap h.row (fun k hk => hm k (own_lt h.row k hk) (.inr (.inr hk.symm))), h.hg, h.hm⟩
theorem lt_of_get {w : World} {i : Nat} {o : Obj} (h : w.heap[i]? = some o) : i < w.heap.size := (Array.getElem?_eq_some_iff.1 h).1
theorem Fp.below (h : Fp w wr g m bl r0 v bu u xs ys) (hb : Below wr.heap.size wr wr') : Fp w wr' g m bl r0 v bu u xs ys :=
  ⟨idx_move h.I (fun i hi _ => hb.block i hi), (hb.block _ (lt_of_get h.box)).trans h.box, own_heap h.row (fun k hk => hb.block k (own_lt h.row k hk)), h.ne, (hb.block _ (lt_of_get h.res)).trans h.res, h.b.trans (hb.mono h.b.size), h.hbl, h.hr0⟩
theorem Fp.drew (h : Fp w wr g m bl r0 v bu u xs ys) (j : Nat) : Fp w (wr.drewN j) g m bl r0 v bu u xs ys := h.below (pw_below_drewN (Below.refl _ _) j)
/-- The blocks that a turn of the index may turn are none of the list's, nor the two boxes. -/
theorem Fp.off (h : Fp w wr g m bl r0 v bu u xs ys) {i : Nat} (hi : i = g ∨ i = m ∨ some i = v.ownBlock) : i ≠ bl ∧ i ≠ r0 ∧ u.ownBlock ≠ some i := by
  rcases hi with rfl | rfl | hi
  · exact ⟨blk_ne h.I.blk h.box (by decide), blk_ne h.I.blk h.res (by decide), fun e => own_ne h.row h.I.blk (by decide) e.symm⟩
  · exact ⟨IxP.raw_ne_blk h.I.raw h.box, IxP.raw_ne_blk h.I.raw h.res, fun e => IxP.raw_ne h.I.raw h.row e.symm⟩
  · refine ⟨fun e => ?_, fun e => ?_, fun e => h.ne _ e hi.symm⟩
    · subst e; exact own_ne h.I.row h.box (by decide) hi
    · subst e; exact own_ne h.I.row h.res (by decide) hi
/-- The index has taken one more. -/
theorem Fp.of (h : Fp w wr g m bl r0 v bu u xs ys) {v' : Value} {f : Int × Int} (hI : Idx wr' w.heap.size g m v' (xs ++ [f])) (hb : Below w.heap.size wr wr') (hk : Kept wr wr' (fun i => i = g ∨ i = m ∨ some i = v.ownBlock)) (hv : v'.ownBlock = v.ownBlock ∨ ∃ b, v'.ownBlock = some b ∧ wr.heap.size ≤ b) :
    Fp w wr' g m bl r0 v' bu u (xs ++ [f]) ys :=
  ⟨hI, (hk.2 bl (lt_of_get h.box) (fun hi => (h.off hi).1 rfl)).trans h.box, own_heap h.row (fun k hk' => hk.2 k (own_lt h.row k hk') (fun hi => (h.off hi).2.2 hk')), fun b hb' => by
    rcases hv with e | ⟨b', e, hle⟩
    · rw [e]; exact h.ne b hb'
    · rw [e]; intro e2; injection e2 with e2
      have := own_lt h.row b hb'
      omega,
   (hk.2 r0 (lt_of_get h.res) (fun hi => (h.off hi).2.1 rfl)).trans h.res, h.b.trans hb, h.hbl, h.hr0⟩
/-- The list has been appended to. -/
theorem Fp.app (h : Fp w wr g m bl r0 v bu u xs ys) {v1 : Value} {y : Int × Int} (hown : wr'.ownsRow w.heap.size 48 2 v1 (ys ++ [y]).length (cel (ys ++ [y]))) (hb : Below w.heap.size w wr') (hg : wr.grownBy wr' u.ownBlock)
    (hat : v1.ownBlock = u.ownBlock ∨ ∃ b, v1.ownBlock = some b ∧ wr.heap.size ≤ b) : Fp w wr' g m bl r0 v bu v1 xs (ys ++ [y]) :=
  ⟨idx_move h.I (fun i hi hh => hg.block i hi (fun e => (h.off hh).2.2 e.symm)), (hg.block _ (lt_of_get h.box) (fun e => own_ne h.row h.box (by decide) e)).trans h.box, hown, fun b hb' => by
    rcases hat with e | ⟨b', e, hle⟩
    · rw [e] at hb'; exact h.ne b hb'
    · rw [e] at hb'
      injection hb' with hb'
      subst hb'
      intro e2
      have := own_lt h.I.row _ e2
      omega,
   (hg.block _ (lt_of_get h.res) (fun e => own_ne h.row h.res (by decide) e)).trans h.res, hb, h.hbl, h.hr0⟩
/-- The list's box has been stored into. -/
theorem Fp.put (h : Fp w wr g m bl r0 v bu u xs ys) (hw : wr'.heap[bl]? = some (.cells #[u] 68 (0, 0))) (hs : ∀ i, i ≠ bl → wr'.heap[i]? = wr.heap[i]?) (hb : ∀ B, B ≤ bl → Below B wr wr') : Fp w wr' g m bl r0 v u u xs ys :=
  ⟨idx_move h.I (fun i _ hh => hs i (h.off hh).1), hw, own_heap h.row (fun k hk => hs k (fun e => by subst e; exact own_ne h.row h.box (by decide) hk.symm)), h.ne, (hs r0 (fun e => blk_ne h.res h.box (by decide) e)).trans h.res, h.b.trans (hb _ h.hbl), h.hbl, h.hr0⟩
theorem Fp.slice (h : Fp w wr g m bl r0 v bu u xs ys) : ∃ A c, u = .slice A ys.length c := own_slice h.row
theorem of_new_fp (h : Fp w wr g m bl r0 v bu u xs ys) (f : Int × Int) (hi : xs.findIdx? (fun b => eqk f b) = none) (hl : xs.length < 1048576) :
    Calls Try.prog 29 #[.pointer (some ⟨g, 0, none⟩), encP f] wr fun e w' => e = .returned (.int .i64 ((xs.length : Int) + 1)) ∧ ∃ v', Fp w w' g m bl r0 v' bu u (xs ++ [f]) ys :=
  (of_new f xs _ g m v wr h.I hi hl).mono fun e w' ⟨he, v', h1, h2, h3, h4⟩ => ⟨he, v', h.of h1 h2 h3 h4⟩
/-- What the scan of a list finds up to k: at is -1 and nothing is there, or at is where it is. -/
def Seen (xs : List (Int × Int)) (p : Int × Int) (k : Nat) (at_ : Int) : Prop := (at_ = -1 ∧ ∀ j, j < k → xs[j]? ≠ some p) ∨ ∃ i : Nat, i < k ∧ at_ = (i : Int) ∧ xs[i]? = some p
theorem Seen.start (xs : List (Int × Int)) (p : Int × Int) : Seen xs p 0 (-1) := .inl ⟨rfl, fun j hj => absurd hj (Nat.not_lt_zero _)⟩
theorem Seen.hit {xs : List (Int × Int)} {p : Int × Int} {k : Nat} (h : xs[k]? = some p) : Seen xs p (k + 1) (k : Int) := .inr ⟨k, Nat.lt_succ_self _, rfl, h⟩
theorem Seen.miss {xs : List (Int × Int)} {p : Int × Int} {k : Nat} {a : Int} (h : Seen xs p k a) (hn : xs[k]? ≠ some p) : Seen xs p (k + 1) a := by
  rcases h with ⟨h1, h2⟩ | ⟨i, h1, h2, h3⟩
  · refine .inl ⟨h1, fun j hj => ?_⟩
    by_cases e : j = k
    · subst e; exact hn
    · exact h2 j (by omega)
  · exact .inr ⟨i, by omega, h2, h3⟩
theorem idx_none {xs : List (Int × Int)} {p : Int × Int} (h : ∀ j, j < xs.length → xs[j]? ≠ some p) : xs.findIdx? (fun b => eqk p b) = none := by
  rw [List.findIdx?_eq_none_iff]
  intro y hy
  obtain ⟨j, hj⟩ := List.mem_iff_getElem?.1 hy
  cases hq : eqk p y with
  | false => rfl
  | true =>
    have := (eqk_iff p y).1 hq
    subst this
    exact absurd hj (h j (List.getElem?_eq_some_iff.1 hj).1)
theorem idx_some {xs : List (Int × Int)} {p : Int × Int} (hn : xs.Nodup) {i : Nat} (h : xs[i]? = some p) : xs.findIdx? (fun b => eqk p b) = some i := by
  obtain ⟨hi, he⟩ := List.getElem?_eq_some_iff.1 h
  rw [List.findIdx?_eq_some_iff_getElem]
  refine ⟨hi, by rw [he]; exact (eqk_iff p p).2 rfl, fun j hj => ?_⟩
  have hj' : j < xs.length := by omega
  intro hq
  have e := (eqk_iff p xs[j]).1 hq
  have : j = i := (List.getElem_inj hn).1 (by rw [← e, he])
  omega
theorem Seen.cases {xs : List (Int × Int)} {p : Int × Int} {a : Int} (hn : xs.Nodup) (h : Seen xs p xs.length a) : (a = -1 ∧ xs.findIdx? (fun b => eqk p b) = none ∧ p ∉ xs) ∨ ∃ i : Nat, a = (i : Int) ∧ i < xs.length ∧ xs.findIdx? (fun b => eqk p b) = some i := by
  rcases h with ⟨h1, h2⟩ | ⟨i, h1, h2, h3⟩
  · exact .inl ⟨h1, idx_none h2, fun hm => by
      obtain ⟨j, hj⟩ := List.mem_iff_getElem?.1 hm
      exact h2 j (List.getElem?_eq_some_iff.1 hj).1 hj⟩
  · exact .inr ⟨i, h2, h1, idx_some hn h3⟩
theorem nodup_snoc {xs : List (Int × Int)} {p : Int × Int} (hn : xs.Nodup) (h : p ∉ xs) : (xs ++ [p]).Nodup := by
  rw [List.nodup_append]
  exact ⟨hn, by simp, fun a ha b hb => by rw [List.mem_singleton.1 hb]; exact fun e => h (e ▸ ha)⟩
end Go.Proofs.Ytaeijlkogenblaa.Np
