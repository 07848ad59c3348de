/- Numbers for texts, plainly: the things that a list of texts brings, each once, in the order in which they come first; each text's number. Conditions: none. -/
import Derived.Test.YtaeijlkogenblaaIxS
namespace Go.Proofs.Ytaeijlkogenblaa.F
open Go.Proofs.Ytaeijlkogenblaa.IxS Go.Proofs.YtaeijlkogenblaaW.PrintWords
theorem eqk_iff (x b : ByteArray) : eqk x b = true ↔ x = b := MapKept.bytes_beq x b
theorem any_iff (acc : List ByteArray) (x : ByteArray) : acc.any (fun b => eqk x b) = true ↔ x ∈ acc := by
  rw [List.any_eq_true]
  constructor
  · rintro ⟨b, hb, he⟩; rw [(eqk_iff _ _).1 he]; exact hb
  · intro h; exact ⟨x, h, (eqk_iff _ _).2 rfl⟩
def put (acc : List ByteArray) (x : ByteArray) : List ByteArray := if acc.any (fun b => eqk x b) then acc else acc ++ [x]
def ded (L : List ByteArray) : List ByteArray := L.foldl put []
theorem ded_snoc (L : List ByteArray) (x : ByteArray) : ded (L ++ [x]) = put (ded L) x := by simp [ded]
theorem put_pre (acc : List ByteArray) (x : ByteArray) : acc <+: put acc x := by 
  unfold put
  split
  · exact List.prefix_refl _
  · exact List.prefix_append _ _
theorem fold_pre (M acc : List ByteArray) : acc <+: M.foldl put acc := by
  induction M generalizing acc with
  | nil => exact List.prefix_refl _
  | cons x M ih => exact (put_pre acc x).trans (ih _)
theorem ded_take_pre (L : List ByteArray) (i : Nat) : ded (L.take i) <+: ded L := by
  have h : ded L = (L.drop i).foldl put (ded (L.take i)) := by unfold ded; rw [← List.foldl_append, List.take_append_drop]
  rw [h]
  exact fold_pre _ _
theorem ded_len (L : List ByteArray) : (ded L).length ≤ L.length := by
  have h : ∀ (M acc : List ByteArray), (M.foldl put acc).length ≤ acc.length + M.length := by
    intro M
    induction M with
    | nil => intro acc; simp
    | cons x M ih =>
      intro acc
      have h1 := ih (put acc x)
      have h2 : (put acc x).length ≤ acc.length + 1 := by unfold put; split <;> simp
      simp only [List.foldl_cons, List.length_cons]
      omega
  simpa [ded] using h L []
theorem ded_mem (L : List ByteArray) (x : ByteArray) : x ∈ ded L ↔ x ∈ L := by
  have h : ∀ (M acc : List ByteArray), x ∈ M.foldl put acc ↔ x ∈ acc ∨ x ∈ M := by
    intro M
    induction M with
    | nil => intro acc; simp
    | cons y M ih =>
      intro acc
      rw [List.foldl_cons, ih]
      unfold put
      split
      · rename_i hy
        rw [any_iff] at hy
        simp only [List.mem_cons]
        constructor
        · rintro (h | h)
          · exact .inl h
          · exact .inr (.inr h)
        · rintro (h | rfl | h)
          · exact .inl h
          · exact .inl hy
          · exact .inr h
      · simp only [List.mem_append, List.mem_cons, List.not_mem_nil, or_false, or_assoc]
  simpa [ded] using h L []
theorem ded_nodup (L : List ByteArray) : (ded L).Nodup := by
  have h : ∀ (M acc : List ByteArray), acc.Nodup → (M.foldl put acc).Nodup := by
    intro M
    induction M with
    | nil => intro acc h; exact h
    | cons y M ih =>
      intro acc ha
      refine ih _ ?_
      unfold put
      split
      · exact ha
      · rename_i hy
        rw [any_iff] at hy
        rw [List.nodup_append]
        exact ⟨ha, by simp, fun a h1 b h2 e => hy (by simp at h2; rw [← h2, ← e]; exact h1)⟩
  exact h L [] List.nodup_nil
/-- x's place among the things. -/
def pos (ds : List ByteArray) (x : ByteArray) : Nat := ((ds.findIdx? (fun b => eqk x b))).getD 0
theorem find_of (ds : List ByteArray) (x : ByteArray) (h : x ∈ ds) : ds.findIdx? (fun b => eqk x b) = some (pos ds x) ∧ pos ds x < ds.length ∧ ds[pos ds x]? = some x := by
  cases hf : ds.findIdx? (fun b => eqk x b) with
  | none => rw [List.findIdx?_eq_none_iff] at hf; have := hf x h; rw [(eqk_iff x x).2 rfl] at this; cases this
  | some i =>
    have e : pos ds x = i := by unfold pos; rw [hf]; rfl
    rw [e]
    obtain ⟨h1, h2, _⟩ := List.findIdx?_eq_some_iff_getElem.1 hf
    refine ⟨rfl, h1, ?_⟩
    rw [List.getElem?_eq_getElem h1, (eqk_iff _ _).1 h2]
theorem find_no (ds : List ByteArray) (x : ByteArray) (h : x ∉ ds) : ds.findIdx? (fun b => eqk x b) = none := by
  rw [List.findIdx?_eq_none_iff]
  intro b hb
  cases he : eqk x b with
  | false => rfl
  | true => exact absurd ((eqk_iff _ _).1 he ▸ hb) h
theorem pos_pre {ds es : List ByteArray} (h : ds <+: es) (x : ByteArray) (hx : x ∈ ds) : pos es x = pos ds x := by
  obtain ⟨r, rfl⟩ := h
  obtain ⟨h1, _, _⟩ := find_of ds x hx
  unfold pos
  rw [List.findIdx?_append, h1]
  rfl
theorem pos_inj (ds : List ByteArray) (x y : ByteArray) (hx : x ∈ ds) (hy : y ∈ ds) : pos ds x = pos ds y ↔ x = y := by
  constructor
  · intro h
    obtain ⟨_, _, h1⟩ := find_of ds x hx
    obtain ⟨_, _, h2⟩ := find_of ds y hy
    rw [h, h2] at h1
    injection h1 with h1
    exact h1.symm
  · rintro rfl; rfl
/-- The numbers that a list's texts get. -/
def nums_ (L : List ByteArray) (i : Nat) : List Int := (L.take i).map fun x => (pos (ded L) x : Int) + 1
theorem nums_succ (L : List ByteArray) (i : Nat) (h : i < L.length) : nums_ L (i + 1) = nums_ L i ++ [(pos (ded L) L[i] : Int) + 1] := by
  unfold nums_
  rw [List.take_succ_eq_append_getElem h, List.map_append]
  rfl
theorem nums_len (L : List ByteArray) (i : Nat) (h : i ≤ L.length) : (nums_ L i).length = i := by simp [nums_, h]
theorem nums_get (L : List ByteArray) (i j : Nat) (h : i ≤ L.length) (hj : j < i) : rdOf (0 : Int) (nums_ L i) j = (pos (ded L) (L.getD j ByteArray.empty) : Int) + 1 := by
  unfold rdOf nums_
  have hjl : j < L.length := by omega
  simp [List.getD_eq_getElem?_getD, hj, hjl]
/-- One more text: it has its number, or gets the next one. -/
theorem one_old (L : List ByteArray) (i : Nat) (h : i < L.length) (hm : L[i] ∈ ded (L.take i)) : ded (L.take (i + 1)) = ded (L.take i) ∧ (ded (L.take i)).findIdx? (fun b => eqk L[i] b) = some (pos (ded L) L[i]) ∧ pos (ded L) L[i] < (ded (L.take i)).length := by
  refine ⟨?_, ?_, ?_⟩
  · rw [List.take_succ_eq_append_getElem h, ded_snoc]; unfold put; rw [if_pos ((any_iff _ _).2 hm)]
  · rw [pos_pre (ded_take_pre L i) _ hm]; exact (find_of _ _ hm).1
  · rw [pos_pre (ded_take_pre L i) _ hm]; exact (find_of _ _ hm).2.1
theorem one_new (L : List ByteArray) (i : Nat) (h : i < L.length) (hm : L[i] ∉ ded (L.take i)) : ded (L.take (i + 1)) = ded (L.take i) ++ [L[i]] ∧ (ded (L.take i)).findIdx? (fun b => eqk L[i] b) = none ∧ pos (ded L) L[i] = (ded (L.take i)).length := by
  have h1 : ded (L.take (i + 1)) = ded (L.take i) ++ [L[i]] := by rw [List.take_succ_eq_append_getElem h, ded_snoc]; unfold put; rw [if_neg (fun h => hm ((any_iff _ _).1 h))]
  refine ⟨h1, find_no _ _ hm, ?_⟩
  have h2 := ded_take_pre L (i + 1)
  rw [h1] at h2
  rw [pos_pre h2 _ (by simp)]
  unfold pos
  rw [List.findIdx?_append, find_no _ _ hm]
  simp [(eqk_iff L[i] L[i]).2 rfl]
end Go.Proofs.Ytaeijlkogenblaa.F
