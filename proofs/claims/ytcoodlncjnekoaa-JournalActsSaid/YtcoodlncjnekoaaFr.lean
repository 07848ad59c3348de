import Derived.Test.YtcoodlncjnekoaaSum
/- The record of an entry, by the code and by the document. Conditions: each theorem's own. -/
namespace Go.Proofs.Ytcoodlncjnekoaa.F
open Go.RowKit Go.Proofs.YtcoodlncjnekoaaW.PrintWords Go.Proofs.YtcoodlncjnekoaaW.PrintLast Go.Proofs.YtcoodlncjnekoaaW.PrintMore Go.Proofs.JournalPlain
set_option linter.unusedVariables false
theorem son_append (a b : List Int) : strOfNums (a ++ b) = strOfNums a ++ strOfNums b := by
  apply ByteArray.ext
  rw [ByteArray.data_append]
  simp [strOfNums]
theorem son_bytesOf (t : ByteArray) : strOfNums (bytesOf t) = t := by
  apply ByteArray.ext
  apply Array.ext'
  have hf : ((fun n : Int => UInt8.ofNat n.toNat) ∘ fun b : UInt8 => (b.toNat : Int)) = id := by funext b; simp
  simp [strOfNums, bytesOf, hf]
theorem son_size (l : List Int) : (strOfNums l).size = l.length := by
  show (strOfNums l).data.size = _
  simp [strOfNums]
def fourL (n : Int) : List Int := [n % 256, n / 256 % 256, n / 65536 % 256, n / 16777216 % 256]
theorem four_f (l : List Int) (n : Int) (h : l.length + 4 < 140737488355328) : journal_four.f l n = some (l ++ fourL n) := by
  show (if l.length + (fourL n).length < 140737488355328 then _ else _) = _
  exact if_pos h
theorem Four_step (k : Nat) (n i : Int) (l : List Int) (hn : 0 ≤ n) (hn2 : n ≤ 9223372036854775807) (hi0 : 0 ≤ i) (hi : i < 4) (hl : l.length < 1000) : gatehouseref22_Four.l0 (k + 1) n l i = gatehouseref22_Four.l0 k (n / 256) (l ++ [n % 256]) (i + 1) := by
  have hd : Int.tdiv n 256 = n / 256 := Int.tdiv_eq_ediv_of_nonneg hn
  have hm : Int.tmod n 256 = n % 256 := Int.tmod_eq_emod_of_nonneg hn
  rw [gatehouseref22_Four.l0, if_pos hi, if_pos (by omega), hd, hm, w64 _ (by omega) (by omega), w64 _ (by omega) (by omega), show n % 256 % 256 = n % 256 by omega]
theorem Four_f (k : Nat) (hk : 5 ≤ k) (n : Int) (hn : 0 ≤ n) (hn2 : n ≤ 9223372036854775807) : gatehouseref22_Four.f k n = some (strOfNums (fourL n)) := by
  obtain ⟨j, rfl⟩ := Nat.exists_eq_add_of_le' hk
  unfold gatehouseref22_Four.f
  rw [Four_step _ n 0 [] hn hn2 (by omega) (by omega) (by decide), Four_step _ _ _ _ (by omega) (by omega) (by omega) (by omega) (by show 1 < 1000; decide), Four_step _ _ _ _ (by omega) (by omega) (by omega) (by omega) (by show 2 < 1000; decide), Four_step _ _ _ _ (by omega) (by omega) (by omega) (by omega) (by show 3 < 1000; decide), gatehouseref22_Four.l0, if_neg (by omega)]
  show some (strOfNums [n % 256, n / 256 % 256, n / 256 / 256 % 256, n / 256 / 256 / 256 % 256]) = _
  rw [show n / 256 / 256 = n / 65536 by omega, show n / 65536 / 256 = n / 16777216 by omega]
  rfl
def headL (v : Int) (n : Int) : List Int := ([165] ++ fourL v) ++ fourL n
def crcI (s : ByteArray) : Int := ((crc (nb s) : Nat) : Int)
theorem crcI_range (s : ByteArray) : 0 ≤ crcI s ∧ crcI s < 4294967296 := by
  have := crc_lt (nb s) (nb_lt s)
  unfold crcI
  omega
/-- The record, as numbers. -/
def recL (v : Int) (t : ByteArray) : List Int := ((headL v (t.size : Int) ++ fourL (crcI (strOfNums (headL v (t.size : Int))))) ++ bytesOf t) ++ fourL (crcI t)
def frameB (v : Int) (t : ByteArray) : ByteArray := strOfNums (recL v t)
def fit_ (v : Int) (t : ByteArray) : Prop := 1 ≤ v ∧ v ≤ 2147483647 ∧ t.size ≤ 65536
def frame (v : Int) (t : ByteArray) : ByteArray × Int := if v < 1 ∨ v > 2147483647 then (⟨#[]⟩, 3) else if t.size > 65536 then (⟨#[]⟩, 5) else (frameB v t, 0)
theorem frame_fit {v : Int} {t : ByteArray} (h : fit_ v t) : frame v t = (frameB v t, 0) := by
  obtain ⟨h1, h2, h3⟩ := h
  unfold frame
  rw [if_neg (by omega), if_neg (by omega)]
theorem recL_length (v : Int) (t : ByteArray) : (recL v t).length = t.size + 17 := by
  unfold recL headL fourL
  simp [bytesOf_length]
theorem frameB_size (v : Int) (t : ByteArray) : (frameB v t).size = t.size + 17 := by rw [frameB, son_size, recL_length]
theorem headL_length (v n : Int) : (headL v n).length = 9 := rfl
def KF (t : ByteArray) : Nat := 10 * t.size + 1000
theorem Frame_f (v : Int) (t : ByteArray) (k : Nat) (hk : KF t ≤ k) : journal_Frame.f k v t = some (frame v t) := by
  unfold KF at hk
  obtain ⟨j, rfl⟩ := Nat.exists_eq_add_of_le' (show 1 ≤ k by omega)
  unfold journal_Frame.f frame
  by_cases h1 : v < 1
  · rw [if_pos h1, if_pos (.inl h1), journal_Frame.j0, if_pos rfl]
  · rw [if_neg h1]
    by_cases h2 : v > 2147483647
    · rw [if_pos (.inr h2), decide_eq_true h2, journal_Frame.j0, if_pos rfl]
    · rw [if_neg (by omega), decide_eq_false h2, journal_Frame.j0, if_neg (by decide)]
      by_cases h3 : (t.size : Int) > 65536
      · rw [if_pos h3, if_pos (by omega)]
      · rw [if_neg h3, if_neg (show ¬ t.size > 65536 by omega), w64 (13 + _) (by omega) (by omega), w64 _ (by omega) (by omega), if_pos (by omega), if_pos (by omega)]
        rw [Option.bind_some, if_pos (show (List.replicate 0 (0 : Int)).length < 140737488355328 by decide)]
        have e1 : v % 4294967296 = v := by omega
        have e2 : (t.size : Int) % 4294967296 = (t.size : Int) := by omega
        have s1 := sum_f (strOfNums (headL v (t.size : Int))) (by rw [son_size, headL_length]; decide) j (by unfold K1; rw [son_size, headL_length]; omega)
        have s2 := sum_f t (by omega) j (by unfold K1; omega)
        rw [e1, e2, four_f _ _ (by decide), Option.bind_some, four_f _ _ (by show 5 + 4 < 140737488355328; decide), Option.bind_some]
        show ((journal_sum.f j (strOfNums (headL v (t.size : Int)))).bind _) = _
        rw [s1, Option.bind_some]
        show ((journal_four.f (headL v (t.size : Int)) (crcI (strOfNums (headL v (t.size : Int))))).bind _) = _
        rw [four_f _ _ (by rw [headL_length]; decide), Option.bind_some]
        have hl : (headL v (t.size : Int) ++ fourL (crcI (strOfNums (headL v (t.size : Int))))).length = 13 := rfl
        rw [if_pos (by rw [hl]; omega), s2, Option.bind_some]
        show ((journal_four.f _ (crcI t)).bind _) = _
        rw [four_f _ _ (by rw [List.length_append, hl, bytesOf_length]; omega), Option.bind_some]
        rfl
def KR (t : ByteArray) : Nat := 16 * t.size + 1000
theorem RefFrame_f (v : Int) (t : ByteArray) (k : Nat) (hk : KR t ≤ k) : gatehouseref22_Frame.f k v t = some (frame v t) := by
  unfold KR at hk
  obtain ⟨j, rfl⟩ := Nat.exists_eq_add_of_le' (show 1 ≤ k by omega)
  unfold gatehouseref22_Frame.f frame
  by_cases h1 : v < 1
  · rw [if_pos h1, if_pos (.inl h1), gatehouseref22_Frame.j0, if_pos rfl]
  · rw [if_neg h1]
    by_cases h2 : v > 2147483647
    · rw [if_pos (.inr h2), decide_eq_true h2, gatehouseref22_Frame.j0, if_pos rfl]
    · rw [if_neg (by omega), decide_eq_false h2, gatehouseref22_Frame.j0, if_neg (by decide)]
      by_cases h3 : (t.size : Int) > 65536
      · rw [if_pos h3, if_pos (by omega)]
      · rw [if_neg h3, if_neg (show ¬ t.size > 65536 by omega)]
        have s1 := Sum_f (strOfNums (headL v (t.size : Int))) (by rw [son_size, headL_length]; decide) j (by unfold K2; rw [son_size, headL_length]; omega)
        have s2 := Sum_f t (by omega) j (by unfold K2; omega)
        have r1 := crcI_range (strOfNums (headL v (t.size : Int)))
        have r2 := crcI_range t
        have hb : ((⟨#[165]⟩ : ByteArray)) = strOfNums [165] := rfl
        have f4 : ∀ n, (strOfNums (fourL n)).size = 4 := fun n => by rw [son_size]; rfl
        rw [Four_f j (by omega) v (by omega) (by omega), Option.bind_some, if_pos (by rw [f4]; decide), Four_f j (by omega) _ (by omega) (by omega), Option.bind_some, hb, ← son_append, ← son_append]
        rw [if_pos (by rw [son_size, f4]; show 5 + 4 ≤ _; decide)]
        show ((gatehouseref22_Sum.f j (strOfNums (headL v (t.size : Int)))).bind _) = _
        rw [s1, Option.bind_some]
        show ((gatehouseref22_Four.f j (crcI (strOfNums (headL v (t.size : Int))))).bind _) = _
        rw [Four_f j (by omega) _ (by omega) (by omega), Option.bind_some, ← son_append]
        show (if (strOfNums (headL v (t.size : Int))).size + _ ≤ _ then _ else _) = _
        have hl : (headL v (t.size : Int) ++ fourL (crcI (strOfNums (headL v (t.size : Int))))).length = 13 := rfl
        rw [if_pos (by rw [son_size, headL_length, f4]; decide)]
        rw [if_pos (by rw [son_size]; show 13 + _ ≤ _; omega), s2, Option.bind_some]
        show ((gatehouseref22_Four.f j (crcI t)).bind _) = _
        rw [Four_f j (by omega) _ (by omega) (by omega), Option.bind_some, if_pos (by rw [ByteArray.size_append, son_size, f4]; show 13 + _ + _ ≤ _; omega)]
        show _ = some (strOfNums (((headL v (t.size : Int) ++ fourL (crcI (strOfNums (headL v (t.size : Int))))) ++ bytesOf t) ++ fourL (crcI t)), 0)
        rw [son_append _ (fourL (crcI t)), son_append _ (bytesOf t), son_bytesOf]
        rfl
theorem JournalFrame_pure (v : Int) (t : ByteArray) : ∃ k, gatehouselaw22_JournalFrame.f k v t = some true := by
  refine ⟨KF t + KR t, ?_⟩
  unfold gatehouselaw22_JournalFrame.f
  rw [RefFrame_f v t _ (by omega), Option.bind_some, Frame_f v t _ (by omega), Option.bind_some, if_pos rfl]
  simp
end Go.Proofs.Ytcoodlncjnekoaa.F
