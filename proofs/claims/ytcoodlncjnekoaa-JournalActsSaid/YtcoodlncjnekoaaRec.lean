import Derived.Test.YtcoodlncjnekoaaFr
import Derived.Lib.Strings
/- A record is the beginning of no other one; what first finds. Conditions: each theorem's own. -/
namespace Go.Proofs.Ytcoodlncjnekoaa.F
open Go.RowKit Go.Proofs.YtcoodlncjnekoaaW.PrintWords Go.Proofs.YtcoodlncjnekoaaW.PrintLast Go.Proofs.YtcoodlncjnekoaaW.PrintMore Go.Proofs.JournalPlain
set_option linter.unusedVariables false
/-! bytes as numbers -/
theorem bytesOf_son (l : List Int) (h : ∀ x ∈ l, 0 ≤ x ∧ x < 256) : bytesOf (strOfNums l) = l := by
  show ((l.map fun n => UInt8.ofNat n.toNat).toArray.toList).map (fun b => (b.toNat : Int)) = l
  rw [List.map_map]
  conv => rhs; rw [← List.map_id l]
  apply List.map_congr_left
  intro x hx
  obtain ⟨h1, h2⟩ := h x hx
  simp
  omega
theorem bytesOf_inj {s t : ByteArray} (h : bytesOf s = bytesOf t) : s = t := by rw [← son_bytesOf s, h, son_bytesOf]
theorem bytesOf_range (s : ByteArray) : ∀ x ∈ bytesOf s, 0 ≤ x ∧ x < 256 := by
  intro x hx
  obtain ⟨b, _, rfl⟩ := List.mem_map.1 hx
  have := b.toNat_lt
  omega
theorem bytesOf_extract (s : ByteArray) (i j : Nat) : bytesOf (s.extract i j) = ((bytesOf s).take j).drop i := by
  unfold bytesOf
  rw [ByteArray.data_extract, Array.toList_extract, List.extract_eq_take_drop, List.map_take, List.map_drop, List.take_drop, Nat.add_comm]
  by_cases h : i ≤ j
  · rw [show j - i + i = j by omega]
  · rw [List.drop_of_length_le (by rw [List.length_take]; omega), List.drop_of_length_le (by rw [List.length_take]; omega)]
theorem fourL_range (n : Int) : ∀ x ∈ fourL n, 0 ≤ x ∧ x < 256 := by
  intro x hx
  simp only [fourL, List.mem_cons, List.not_mem_nil, or_false] at hx
  omega
theorem headL_range (v n : Int) : ∀ x ∈ headL v n, 0 ≤ x ∧ x < 256 := by
  intro x hx
  unfold headL at hx
  rcases List.mem_append.1 hx with h | h
  · rcases List.mem_append.1 h with h | h
    · have : x = 165 := by simpa using h
      omega
    · exact fourL_range _ x h
  · exact fourL_range _ x h
theorem recL_range (v : Int) (t : ByteArray) : ∀ x ∈ recL v t, 0 ≤ x ∧ x < 256 := by
  intro x hx
  unfold recL at hx
  rcases List.mem_append.1 hx with h | h
  · rcases List.mem_append.1 h with h | h
    · rcases List.mem_append.1 h with h | h
      · exact headL_range _ _ x h
      · exact fourL_range _ x h
    · exact bytesOf_range _ x h
  · exact fourL_range _ x h
theorem bytesOf_frameB (v : Int) (t : ByteArray) : bytesOf (frameB v t) = recL v t := bytesOf_son _ (recL_range v t)
theorem fourL_inj {a b : Int} (ha : 0 ≤ a ∧ a < 4294967296) (hb : 0 ≤ b ∧ b < 4294967296) (h : fourL a = fourL b) : a = b := by
  simp only [fourL, List.cons.injEq, and_true] at h
  omega
/-- What stands behind the head's sum. -/
theorem recL_split (v : Int) (t : ByteArray) : recL v t = (headL v (t.size : Int) ++ fourL (crcI (strOfNums (headL v (t.size : Int))))) ++ (bytesOf t ++ fourL (crcI t)) := by
  unfold recL
  rw [List.append_assoc]
theorem headL_inj {v v' n n' : Int} (hv : 0 ≤ v ∧ v < 4294967296) (hv' : 0 ≤ v' ∧ v' < 4294967296) (hn : 0 ≤ n ∧ n < 4294967296) (hn' : 0 ≤ n' ∧ n' < 4294967296) (h : headL v n = headL v' n') : v = v' ∧ n = n' := by
  unfold headL at h
  obtain ⟨h1, h2⟩ := List.append_inj h (by rfl)
  obtain ⟨_, h3⟩ := List.append_inj h1 (by rfl)
  exact ⟨fourL_inj hv hv' h3, fourL_inj hn hn' h2⟩
theorem fit_u32 {v : Int} {t : ByteArray} (h : fit_ v t) : (0 ≤ v ∧ v < 4294967296) ∧ (0 ≤ (t.size : Int) ∧ (t.size : Int) < 4294967296) := by
  obtain ⟨h1, h2, h3⟩ := h
  omega
theorem head_len (v n c : Int) : (headL v n ++ fourL c).length = 13 := rfl
theorem four_len (c : Int) : (fourL c).length = 4 := rfl
/-- Two records at the beginning of one row of bytes are one. -/
theorem rec_unique {v v' : Int} {t t' : ByteArray} (h : fit_ v t) (h' : fit_ v' t') (m m' : List Int) (e : recL v t ++ m = recL v' t' ++ m') : v = v' ∧ t = t' ∧ m = m' := by
  obtain ⟨a1, a2⟩ := fit_u32 h
  obtain ⟨b1, b2⟩ := fit_u32 h'
  rw [recL_split v t, recL_split v' t', List.append_assoc (headL v _ ++ fourL _), List.append_assoc (headL v' _ ++ fourL _)] at e
  obtain ⟨e1, e2⟩ := List.append_inj e (by rw [head_len, head_len])
  obtain ⟨e3, _⟩ := List.append_inj e1 (by rw [headL_length, headL_length])
  obtain ⟨e4, e5⟩ := headL_inj a1 b1 a2 b2 e3
  have hs : t.size = t'.size := by omega
  rw [List.append_assoc (bytesOf t), List.append_assoc (bytesOf t')] at e2
  obtain ⟨e6, e7⟩ := List.append_inj e2 (by rw [bytesOf_length, bytesOf_length, hs])
  obtain ⟨_, e8⟩ := List.append_inj e7 (by rw [four_len, four_len])
  exact ⟨e4, bytesOf_inj e6, e8⟩
instance (v : Int) (t : ByteArray) : Decidable (fit_ v t) := by unfold fit_; infer_instance
end Go.Proofs.Ytcoodlncjnekoaa.F
