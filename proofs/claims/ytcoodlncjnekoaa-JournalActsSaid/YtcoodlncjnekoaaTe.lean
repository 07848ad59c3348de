import Derived.Test.YtcoodlncjnekoaaRd
import Derived.Test.YtcoodlncjnekoaaJn
import Derived.Test.YtcoodlncjnekoaaF6
import Derived.Test.YtcoodlncjnekoaaFit
import Derived.Lib.Hide
import Derived.Laws.IdiomStrings
/- '[]byte(s)': a block of bytes, whatever its mark; pick, told without a draw; fit. Conditions: each theorem's own. -/
namespace Go.Proofs.Ytcoodlncjnekoaa.F
open Go.RowKit Go.Proofs.YtcoodlncjnekoaaW.PrintWords Go.Proofs.YtcoodlncjnekoaaW.PrintLast Go.Proofs.YtcoodlncjnekoaaW.PrintMore Go.Proofs.JournalPlain
set_option linter.unusedVariables false
def fitV (v : Int) : Int := (if Int.tmod v 2147483647 < 0 then -(Int.tmod v 2147483647) else Int.tmod v 2147483647) + 1
def fitT (t : ByteArray) : ByteArray := if (t.size : Int) > 65536 then t.extract 0 65536 else t
theorem fit_fit (v : Int) (t : ByteArray) : fit_ (fitV v) (fitT t) := by
  have h1 : -2147483647 < Int.tmod v 2147483647 := Int.lt_tmod_of_pos _ (by decide)
  have h2 : Int.tmod v 2147483647 < 2147483647 := Int.tmod_lt_of_pos _ (by decide)
  unfold fit_ fitV fitT
  refine ⟨by split <;> omega, by split <;> omega, ?_⟩
  split
  · rw [size_extract]; omega
  · omega
theorem fit_f (v : Int) (t : ByteArray) : gatehouselaw22_fit.f v t = some (fitV v, fitT t) := by
  have h1 : -2147483647 < Int.tmod v 2147483647 := Int.lt_tmod_of_pos _ (by decide)
  have h2 : Int.tmod v 2147483647 < 2147483647 := Int.tmod_lt_of_pos _ (by decide)
  unfold gatehouselaw22_fit.f fitV fitT
  by_cases c1 : Int.tmod v 2147483647 < 0 <;> by_cases c2 : (t.size : Int) > 65536
  · rw [if_pos c1, if_pos c2, if_pos (by decide), if_pos (by omega), if_pos c1, if_pos c2, w64 (-_) (by omega) (by omega), w64 _ (by omega) (by omega)]
  · rw [if_pos c1, if_neg c2, if_pos c1, if_neg c2, w64 (-_) (by omega) (by omega), w64 _ (by omega) (by omega)]
  · rw [if_neg c1, if_pos c2, if_pos (by decide), if_pos (by omega), if_neg c1, if_pos c2, w64 _ (by omega) (by omega)]
  · rw [if_neg c1, if_neg c2, if_neg c1, if_neg c2, w64 _ (by omega) (by omega)]
theorem pick_f (a n : Int) (h : 1 ≤ n) (hn : n ≤ 9223372036854775807) : ∃ r, gatehouselaw22_pick.f a n = some r ∧ 0 ≤ r ∧ r < n := by
  have h1 : -n < Int.tmod a n := Int.lt_tmod_of_pos _ (by omega)
  have h2 : Int.tmod a n < n := Int.tmod_lt_of_pos _ (by omega)
  unfold gatehouselaw22_pick.f
  rw [if_neg (by omega)]
  by_cases c : Int.tmod a n < 0
  · rw [if_pos c, w64 _ (by omega) (by omega)]
    exact ⟨_, rfl, by omega, by omega⟩
  · rw [if_neg c]
    exact ⟨_, rfl, by omega, by omega⟩
theorem cells23 {w2 w : World} {g : Nat} {x : Int} {y : ByteArray} (h : w2.heap[g]? = some (.cells #[.int .i64 x, .string y] 23 (0, 0))) (hb : Below w2.heap.size w2 w) : w.cell? ⟨g, 0, none⟩ = some (.int .i64 x) ∧ w.cell? ⟨g, 1, none⟩ = some (.string y) :=
  ⟨(blk_cell (blk_below h hb) 0).trans rfl, (blk_cell (blk_below h hb) 1).trans rfl⟩
/-- A block that begins with these bytes. -/
def Blk (w : World) (g : Nat) (xs : List Int) : Prop := ∃ cs lo hi, w.heap[g]? = some (.cells cs 5 (lo, hi)) ∧ xs.length ≤ lo ∧ ∀ i, i < xs.length → cs[i]? = some (Value.int .u8 (xs.getD i 0))
theorem Blk.cell {w : World} {g : Nat} {xs : List Int} (h : Blk w g xs) (i : Nat) (hi : i < xs.length) : w.cell? ⟨g, i, none⟩ = some (.int .u8 (xs.getD i 0)) ∧ w.frozen? ⟨g, i, none⟩ = false := by
  obtain ⟨cs, lo, hi', hb, hl, hc⟩ := h
  constructor
  · unfold World.cell?
    rw [hb]
    exact hc i hi
  · unfold World.frozen?
    rw [hb]
    simp
    omega
theorem Blk.lt {w : World} {g : Nat} {xs : List Int} (h : Blk w g xs) : g < w.heap.size := by
  obtain ⟨cs, lo, hi', hb, _, _⟩ := h
  exact (Array.getElem?_eq_some_iff.1 hb).1
theorem Blk.below {w w' : World} {g : Nat} {xs : List Int} (h : Blk w g xs) (hb : Below w.heap.size w w') : Blk w' g xs := by
  obtain ⟨cs, lo, hi', h1, hl, hc⟩ := h
  exact ⟨cs, lo, hi', (hb.block g (Array.getElem?_eq_some_iff.1 h1).1).trans h1, hl, hc⟩
theorem Blk.set {w : World} {g : Nat} {xs : List Int} (h : Blk w g xs) (k : Nat) (y : Int) : Blk (w.setCell ⟨g, k, none⟩ (.int .u8 y)) g (xs.set k y) := by
  obtain ⟨cs, lo, hi', h1, hl, hc⟩ := h
  refine ⟨cs.setIfInBounds k (.int .u8 y), lo, hi', ?_, by rw [List.length_set]; exact hl, ?_⟩
  · show (w.heap.modify g _)[g]? = _
    rw [Array.getElem?_modify, if_pos rfl, h1]
    rfl
  · intro i hi
    rw [List.length_set] at hi
    have h2 := hc i hi
    rw [Array.getElem?_setIfInBounds]
    by_cases e : k = i
    · subst e
      rw [if_pos rfl, if_pos (Array.getElem?_eq_some_iff.1 h2).1]
      simp [List.getD_eq_getElem?_getD, hi]
    · rw [if_neg e, h2]
      simp [List.getD_eq_getElem?_getD, List.getElem?_set_ne e]
/-! what is read -/
theorem same_l0 (xs : List S23) (hl : xs.length ≤ 9223372036854775806) : ∀ m, m ≤ xs.length → ∀ k, gatehouselaw22_same.l0 (k + 1 + m) xs xs ((xs.length - m : Nat) : Int) = some true := by
  intro m
  induction m with
  | zero =>
    intro _ k
    rw [Nat.add_zero, gatehouselaw22_same.l0, if_neg (by omega)]
  | succ m ih =>
    intro hm k
    rw [show k + 1 + (m + 1) = (k + 1 + m) + 1 by omega, gatehouselaw22_same.l0, if_pos (by omega), if_pos (by omega), if_pos (by omega), if_neg (by simp), w64 _ (by omega) (by omega), show ((xs.length - (m + 1) : Nat) : Int) + 1 = ((xs.length - m : Nat) : Int) by omega]
    exact ih (by omega) k
theorem same_refl (xs : List S23) (hl : xs.length ≤ 9223372036854775806) (k : Nat) (hk : xs.length + 1 ≤ k) : gatehouselaw22_same.f k xs xs = some true := by
  obtain ⟨j, rfl⟩ := Nat.exists_eq_add_of_le hk
  have h := same_l0 xs hl xs.length (Nat.le_refl _) j
  rw [Nat.sub_self] at h
  unfold gatehouselaw22_same.f
  rw [if_pos rfl, show xs.length + 1 + j = j + 1 + xs.length by omega]
  exact h
end Go.Proofs.Ytcoodlncjnekoaa.F
