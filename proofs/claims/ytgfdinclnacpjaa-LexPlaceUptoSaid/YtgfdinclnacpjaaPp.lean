/- The program's Place, plainly, is the document's. No condition beside each theorem's own. -/
import Derived.Test.YtgfdinclnacpjaaPl
import Derived.Laws.IdiomStrings
namespace Go.Proofs.Ytgfdinclnacpjaa.F
open Go.RowKit Go.Lib Go.Proofs.YtgfdinclnacpjaaW.PrintWords
set_option linter.unusedVariables false
/-- How many characters begin at or ahead of a place. -/
def colN (t : ByteArray) (lim : Nat) : Nat → Nat → Nat → Nat
  | 0, _, col => col
  | k + 1, pos, col => if pos < t.size then (if lim < pos then col else colN t lim k (pos + wd t pos) (col + 1)) else col
def lineP (s : ByteArray) (n : Nat) : Nat := 1 + Lib.countByte (s.extract 0 n).data.toList 10
def fromP (s : ByteArray) (n : Nat) : Nat := (1 + Lib.lastIndexByte (s.extract 0 n) 10).toNat
def tailP (s : ByteArray) (n : Nat) : ByteArray := s.extract (fromP s n) s.size
def runesP (t : ByteArray) : Nat := (Conv.runesFrom t t.size 0 #[]).size
def placeN (s : ByteArray) (n : Nat) : Nat × Nat := if n = s.size then (lineP s n, 1 + runesP (tailP s n)) else (lineP s n, colN (tailP s n) (n - fromP s n) (tailP s n).size 0 0)
theorem ext_list (s : ByteArray) (a b : Nat) : (s.extract a b).data.toList = (s.data.toList.take b).drop a := by
  rw [ByteArray.data_extract, Array.toList_extract]
  simp [List.extract, List.drop_take]
theorem line_eq (s : ByteArray) (n : Nat) : lineP s n = 1 + cn s n := by
  unfold lineP cn Lib.countByte
  rw [ext_list, List.drop_zero]
theorem by_ext (s : ByteArray) (n j : Nat) (hn : n ≤ s.size) (h : j < n) : ((s.extract 0 n).data[j]!).toNat = by_ s j := by
  have h1 : j < (s.extract 0 n).data.size := by
    show j < (s.extract 0 n).size
    rw [ByteArray.size_extract]
    omega
  have h2 : j < s.data.size := by show j < s.size; omega
  unfold by_
  rw [getElem!_pos _ j h1, getElem!_pos _ j h2]
  congr 1
  simp [ByteArray.data_extract]
theorem from_eq (s : ByteArray) (n f : Nat) (hn : n ≤ s.size) (hf : f ≤ n) (hfl : ∀ j, f ≤ j → j < n → by_ s j ≠ 10) (hh : f = 0 ∨ (1 ≤ f ∧ by_ s (f - 1) = 10)) : fromP s n = f ∧ 1 + Lib.lastIndexByte (s.extract 0 n) 10 = (f : Int) := by
  have hsz : (s.extract 0 n).size = n := by rw [ByteArray.size_extract]; omega
  have h : 1 + Lib.lastIndexByte (s.extract 0 n) 10 = (f : Int) := by
    rcases lastIndexByte_spec (s.extract 0 n) 10 with ⟨e, hn2⟩ | ⟨i, hi, e, hc, hn2⟩
    · rw [e]
      rcases hh with rfl | ⟨h1, h2⟩
      · rfl
      · exfalso
        refine hn2 (f - 1) (by omega) ?_
        rw [by_ext s n (f - 1) hn (by omega), h2]
        rfl
    · rw [e]
      rw [hsz] at hi hn2
      rw [by_ext s n i hn hi] at hc
      have hi2 : i < f := by
        rcases Nat.lt_or_ge i f with c | c
        · exact c
        · exact absurd (show by_ s i = 10 by omega) (hfl i c hi)
      rcases hh with rfl | ⟨h1, h2⟩
      · omega
      · have : i = f - 1 := by
          rcases Nat.lt_or_ge i (f - 1) with c | c
          · exfalso
            refine hn2 (f - 1) c (by omega) ?_
            rw [by_ext s n (f - 1) hn (by omega), h2]
            rfl
          · omega
        omega
  refine ⟨?_, h⟩
  unfold fromP
  rw [h]
  rfl
theorem wd_tail (s : ByteArray) (f p : Nat) : wd (s.extract f s.size) p = wd s (f + p) := by
  unfold wd
  have hl : s.data.toList.length = s.size := Array.length_toList
  rw [← decodeL_drop, ← decodeL_drop, ext_list, List.take_of_length_le (by omega), List.drop_drop]
theorem tail_size (s : ByteArray) (f : Nat) : (s.extract f s.size).size = s.size - f := by rw [ByteArray.size_extract]; omega
theorem col_run (s : ByteArray) (n f c pos : Nat) (hst : St s pos f c) (hpn : pos ≤ n) (hn : n < s.size) (hnx : n < pos + wd s pos) : ∀ d i, i + d = c → ∀ k, (s.size - f) ≤ (wk s f i - f) + k → colN (s.extract f s.size) (n - f) k (wk s f i - f) i = c + 1
  | 0, i, hi, k, hk => by
    obtain rfl : i = c := by omega
    have h1 := hst.at_
    have h2 := hst.le
    rw [h1] at hk ⊢
    cases k with
    | zero => exact absurd hk (by omega)
    | succ k =>
      unfold colN
      rw [tail_size, if_pos (by omega), if_neg (by omega), wd_tail, show f + (pos - f) = pos by omega]
      cases k with
      | zero => rfl
      | succ k =>
        unfold colN
        rw [tail_size]
        by_cases c1 : pos - f + wd s pos < s.size - f
        · rw [if_pos c1, if_pos (by omega)]
        · rw [if_neg c1]
  | d + 1, i, hi, k, hk => by
    have h1 := hst.lt i (by omega)
    have h2 := hst.le
    have h3 : f ≤ wk s f i := by
      have : ∀ j, f ≤ wk s f j := by
        intro j
        induction j with
        | zero => exact Nat.le_refl _
        | succ j ih => show f ≤ wk s f j + wd s (wk s f j); omega
      exact this i
    have w1 := wd_pos s (wk s f i) (by omega)
    cases k with
    | zero => exact absurd hk (by omega)
    | succ k =>
      unfold colN
      rw [tail_size, if_pos (by omega), if_neg (by omega), wd_tail, show f + (wk s f i - f) = wk s f i by omega]
      have e : wk s f i - f + wd s (wk s f i) = wk s f (i + 1) - f := by show _ = wk s f i + wd s (wk s f i) - f; omega
      rw [e]
      exact col_run s n f c pos hst hpn hn hnx d (i + 1) (by omega) k (by omega)
theorem runes_run (s : ByteArray) (f c pos : Nat) (hst : St s pos f c) (hps : pos = s.size) : ∀ d i, i + d = c → ∀ k (acc : Array Value), (s.size - f) ≤ (wk s f i - f) + k → (Conv.runesFrom (s.extract f s.size) k (wk s f i - f) acc).size = acc.size + d
  | 0, i, hi, k, acc, hk => by
    obtain rfl : i = c := by omega
    have h1 := hst.at_
    have h2 := hst.le
    rw [h1]
    cases k with
    | zero => rfl
    | succ k =>
      unfold Conv.runesFrom
      rw [tail_size, if_neg (by omega)]
      rfl
  | d + 1, i, hi, k, acc, hk => by
    have h1 := hst.lt i (by omega)
    have h2 := hst.le
    have h3 : f ≤ wk s f i := by
      have : ∀ j, f ≤ wk s f j := by
        intro j
        induction j with
        | zero => exact Nat.le_refl _
        | succ j ih => show f ≤ wk s f j + wd s (wk s f j); omega
      exact this i
    have w1 := wd_pos s (wk s f i) (by omega)
    cases k with
    | zero => exact absurd hk (by omega)
    | succ k =>
      unfold Conv.runesFrom
      rw [tail_size, if_pos (by omega)]
      have ew : (Utf8.decode (s.extract f s.size) (wk s f i - f)).2 = wd s (wk s f i) := by
        have := wd_tail s f (wk s f i - f)
        rw [show f + (wk s f i - f) = wk s f i by omega] at this
        exact this
      have e : wk s f i - f + wd s (wk s f i) = wk s f (i + 1) - f := by show _ = wk s f i + wd s (wk s f i) - f; omega
      show (Conv.runesFrom (s.extract f s.size) k (wk s f i - f + (Utf8.decode (s.extract f s.size) (wk s f i - f)).2) (acc.push _)).size = _
      rw [ew, e, runes_run s f c pos hst hps d (i + 1) (by omega) k _ (by omega), Array.size_push]
      omega
theorem place_eq (s : ByteArray) (n : Nat) (hn : n ≤ s.size) : placeR s (n : Int) = (((placeN s n).1 : Int), ((placeN s n).2 : Int)) ∧ 1 + Lib.lastIndexByte (s.extract 0 n) 10 = (fromP s n : Int) ∧ fromP s n ≤ n := by
  obtain ⟨pos, f, c, hst, hp, hfl, hlt, heq, hf⟩ := fnd_chars s n hn s.size 0 0 0 (St.zero s) (Nat.zero_le _) (by omega)
  have hcn0 : cn s 0 = 0 := by unfold cn; rw [List.take_zero]; rfl
  rw [hcn0] at hf
  have hle := hst.le
  obtain ⟨e1, e2⟩ := from_eq s n f hn (by omega) (fun j a b => by
    rcases Nat.lt_or_ge j pos with d | d
    · exact hst.flat j a d
    · exact hfl j d b) hst.head
  refine ⟨?_, by rw [e1]; exact e2, by rw [e1]; omega⟩
  unfold placeR
  rw [if_neg (by omega), if_neg (by omega)]
  refine Eq.trans hf ?_
  unfold placeN tailP
  rw [e1, line_eq]
  by_cases hs : n = s.size
  · rw [if_pos hs]
    have hps := heq hs
    have := runes_run s f c pos hst (by omega) c 0 (by omega) (s.extract f s.size).size #[] (by rw [tail_size]; omega)
    rw [show wk s f 0 = f from rfl, Nat.sub_self] at this
    unfold runesP
    rw [this]
    show _ = (((1 + cn s n : Nat) : Int), ((1 + (0 + c) : Nat) : Int))
    rw [show 1 + (0 + c) = c + 1 by omega]
  · rw [if_neg hs]
    have := col_run s n f c pos hst hp (by omega) (hlt (by omega)) c 0 (by omega) (s.extract f s.size).size (by rw [tail_size]; omega)
    rw [show wk s f 0 = f from rfl, Nat.sub_self] at this
    rw [this]
end Go.Proofs.Ytgfdinclnacpjaa.F
