/- DiskExact plainly: the document's row of bytes, of each whether it is safe. No condition. -/
namespace Go.Proofs.Ytcoodlncjnekoaa.E
/-- The bytes, the first s of them safe. -/
def lay (l : List Int) (s : Nat) : List (Int × Bool) := (l.take s).map (fun b => (b, true)) ++ (l.drop s).map (fun b => (b, false))
theorem lay_len (l : List Int) (s : Nat) : (lay l s).length = l.length := by simp [lay]; omega
theorem lay_get (l : List Int) (s i : Nat) : (lay l s)[i]? = l[i]?.map (fun b => (b, decide (i < s))) := by
  unfold lay
  rw [List.getElem?_append]
  simp only [List.length_map, List.length_take, List.getElem?_map]
  split
  · rename_i h
    rw [List.getElem?_take_of_lt (by omega), decide_eq_true (by omega)]
  · rename_i h
    rw [List.getElem?_drop]
    by_cases hs : i < l.length
    · have : s ≤ i := by omega
      rw [show s + (i - min s l.length) = i from by omega, decide_eq_false (by omega)]
    · rw [List.getElem?_eq_none (by omega), List.getElem?_eq_none (by omega)]
      rfl
theorem lay_app (l t : List Int) (s : Nat) (hs : s ≤ l.length) : lay (l ++ t) s = lay l s ++ t.map (fun b => (b, false)) := by
  unfold lay
  rw [List.take_append_of_le_length hs, List.drop_append_of_le_length hs]
  simp
theorem lay_all (l : List Int) : lay l l.length = l.map (fun b => (b, true)) := by simp [lay]
theorem lay_zero (l : List Int) : lay l 0 = l.map (fun b => (b, false)) := by simp [lay]
/-- What a cut has taken behind k bytes. -/
theorem take_step (l : List Int) (k n : Nat) (b : Int) (h : l[k]? = some b) : l.take (min (k + 1) n) = l.take (min k n) ++ if k < n then [b] else [] := by
  by_cases hk : k < n
  · rw [if_pos hk, show min (k + 1) n = k + 1 from by omega, show min k n = k from by omega, List.take_add_one, h]
    rfl
  · rw [if_neg hk, show min (k + 1) n = n from by omega, show min k n = n from by omega, List.append_nil]
/-- The first k are safe now, the others as they were. -/
def mix (l : List Int) (s k : Nat) : List (Int × Bool) := (l.take k).map (fun b => (b, true)) ++ (lay l s).drop k
theorem mix_zero (l : List Int) (s : Nat) : mix l s 0 = lay l s := by simp [mix]
theorem mix_all (l : List Int) (s : Nat) : mix l s l.length = lay l l.length := by
  rw [lay_all]
  simp [mix, List.drop_eq_nil_of_le, lay_len]
theorem mix_len (l : List Int) (s k : Nat) : (mix l s k).length = l.length := by simp [mix, lay_len]; omega
theorem mix_set (l : List Int) (s k : Nat) (b : Int) (h : l[k]? = some b) : mix l s (k + 1) = (mix l s k).set k (b, true) := by
  have hk := (List.getElem?_eq_some_iff.1 h).1
  apply List.ext_getElem?
  intro i
  rw [List.getElem?_set]
  simp only [mix_len]
  unfold mix
  rw [List.getElem?_append, List.getElem?_append]
  simp only [List.length_map, List.length_take, List.getElem?_map, List.getElem?_drop]
  by_cases h1 : k = i
  · subst h1
    rw [if_pos (by omega), if_pos rfl, if_pos hk, List.getElem?_take_of_lt (by omega), h]
    rfl
  · rw [if_neg h1]
    by_cases h2 : i < k
    · rw [if_pos (by omega), if_pos (by omega), List.getElem?_take_of_lt (by omega), List.getElem?_take_of_lt (by omega)]
    · rw [if_neg (by omega), if_neg (by omega)]
      congr 1
      omega
/-- How many are safe. -/
theorem count_step (s k : Nat) : min (k + 1) s = min k s + if k < s then 1 else 0 := by
  split <;> omega
end Go.Proofs.Ytcoodlncjnekoaa.E
