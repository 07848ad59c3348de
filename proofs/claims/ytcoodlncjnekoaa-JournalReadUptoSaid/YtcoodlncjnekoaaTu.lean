/- A record with one byte turned is read by nobody; what Read makes of one record with such a one behind it. Conditions: each theorem's own. -/
import Derived.Test.YtcoodlncjnekoaaRd
namespace Go.Proofs.Ytcoodlncjnekoaa.F
open Go.RowKit Go.Proofs.YtcoodlncjnekoaaW.PrintWords Go.Proofs.YtcoodlncjnekoaaW.PrintLast Go.Proofs.YtcoodlncjnekoaaW.PrintMore Go.Proofs.JournalPlain
set_option linter.unusedVariables false
theorem xor_cancel {a b c : Nat} (h : a ^^^ c = b ^^^ c) : a = b := by
  have := congrArg (· ^^^ c) h
  simpa [Nat.xor_assoc, Nat.xor_self] using this
theorem S_inj0 {z : Nat} (hz : z < 4294967296) (h : S z = 0) : z = 0 := by
  unfold S at h
  split at h
  · have : z / 2 = C := xor_cancel (c := C) (by rw [h, Nat.xor_self])
    have hC : C = 3988292384 := rfl
    omega
  · omega
theorem S_inj {x y : Nat} (hx : x < 4294967296) (hy : y < 4294967296) (h : S x = S y) : x = y := by
  have h1 : S (x ^^^ y) = 0 := by rw [S_lin, h, Nat.xor_self]
  have h2 := S_inj0 (Nat.xor_lt_two_pow (n := 32) hx hy) h1
  exact xor_cancel (c := y) (by rw [h2, Nat.xor_self])
theorem Sn_inj (n : Nat) : ∀ {x y : Nat}, x < 4294967296 → y < 4294967296 → Sn n x = Sn n y → x = y := by
  induction n with
  | zero => intro x y _ _ h; exact h
  | succ n ih => intro x y hx hy h; exact S_inj hx hy (ih (S_lt hx) (S_lt hy) h)
theorem byteStep_inj {r r' c : Nat} (hr : r < 4294967296) (hr' : r' < 4294967296) (hc : c < 256) (h : byteStep r c = byteStep r' c) : r = r' :=
  xor_cancel (Sn_inj 8 (Nat.xor_lt_two_pow (n := 32) (by omega) (by omega)) (Nat.xor_lt_two_pow (n := 32) (by omega) (by omega)) h)
theorem fold_inj (l : List Nat) (hl : ∀ c ∈ l, c < 256) : ∀ {r r' : Nat}, r < 4294967296 → r' < 4294967296 → l.foldl byteStep r = l.foldl byteStep r' → r = r' := by
  induction l with
  | nil => intro r r' _ _ h; exact h
  | cons c l ih =>
    intro r r' hr hr' h
    have hc := hl c List.mem_cons_self
    exact byteStep_inj hr hr' hc (ih (fun d hd => hl d (List.mem_cons_of_mem _ hd)) (byteStep_lt hr hc) (byteStep_lt hr' hc) h)
/-- One byte turned: another sum. -/
theorem crc_one (a b : List Nat) (x y : Nat) (ha : ∀ c ∈ a, c < 256) (hb : ∀ c ∈ b, c < 256) (hx : x < 256) (hy : y < 256) (h : crc (a ++ x :: b) = crc (a ++ y :: b)) : x = y := by
  unfold crc at h
  rw [Nat.xor_comm, Nat.xor_comm 4294967295] at h
  have h2 := xor_cancel h
  rw [List.foldl_append, List.foldl_append, List.foldl_cons, List.foldl_cons] at h2
  have hr := fold_lt a ha ones (by decide)
  generalize List.foldl byteStep ones a = r at h2 hr
  have h3 := fold_inj b hb (byteStep_lt hr hx) (byteStep_lt hr hy) h2
  unfold byteStep at h3
  have h4 := Sn_inj 8 (Nat.xor_lt_two_pow (n := 32) (by omega) (by omega)) (Nat.xor_lt_two_pow (n := 32) (by omega) (by omega)) h3
  rw [Nat.xor_comm, Nat.xor_comm _ y] at h4
  exact xor_cancel h4
theorem nb_bytesOf (s : ByteArray) : nb s = (bytesOf s).map Int.toNat := by
  unfold nb bytesOf
  rw [List.map_map]
  rfl
theorem crc_set (s s' : ByteArray) (i : Nat) (y : Int) (hi : i < (bytesOf s).length) (hy : 0 ≤ y ∧ y < 256) (h : bytesOf s' = (bytesOf s).set i y) (hc : crcI s' = crcI s) : y = (bytesOf s)[i] := by
  have e1 : bytesOf s = (bytesOf s).take i ++ (bytesOf s)[i] :: (bytesOf s).drop (i + 1) := by rw [← List.drop_eq_getElem_cons hi, List.take_append_drop]
  have e2 : bytesOf s' = (bytesOf s).take i ++ y :: (bytesOf s).drop (i + 1) := by rw [h, List.set_eq_take_append_cons_drop, if_pos hi]
  have hr := bytesOf_range s
  have hx := hr _ (List.getElem_mem hi)
  have n1 : nb s = ((bytesOf s).take i).map Int.toNat ++ ((bytesOf s)[i]).toNat :: ((bytesOf s).drop (i + 1)).map Int.toNat := by
    rw [nb_bytesOf]; conv => lhs; rw [e1]
    rw [List.map_append, List.map_cons]
  have n2 : nb s' = ((bytesOf s).take i).map Int.toNat ++ y.toNat :: ((bytesOf s).drop (i + 1)).map Int.toNat := by
    rw [nb_bytesOf, e2, List.map_append, List.map_cons]
  have hcc : crc (nb s') = crc (nb s) := by unfold crcI at hc; omega
  rw [n1, n2] at hcc
  have := crc_one _ _ _ _ ?_ ?_ (by omega) (by omega) hcc
  · omega
  · intro c hc
    obtain ⟨b, hb, rfl⟩ := List.mem_map.1 hc
    have := hr b (List.mem_of_mem_take hb)
    omega
  · intro c hc
    obtain ⟨b, hb, rfl⟩ := List.mem_map.1 hc
    have := hr b (List.mem_of_mem_drop hb)
    omega
theorem set_same {l : List Int} {i : Nat} {y : Int} (hi : i < l.length) (h : l.set i y = l) : l[i] = y := by
  have h2 := congrArg (fun z => z[i]?) h
  simp only [List.getElem?_set_self hi, List.getElem?_eq_getElem hi, Option.some.injEq] at h2
  exact h2.symm
theorem turned_none (v1 : Int) (t1 : ByteArray) (h1 : fit_ v1 t1) (kk : Nat) (hk : kk < (recL v1 t1).length) (y : Int) (hy : 0 ≤ y ∧ y < 256) (hne : (recL v1 t1)[kk] ≠ y) (X : ByteArray) (m : List Int) (hX : bytesOf X = (recL v1 t1).set kk y ++ m) : ∀ v t, ¬ Has X v t := by
  intro v t hh
  obtain ⟨g1, g2, g3, g4, g5, g6, g7, g8, g9, g10⟩ := (has_iff X v t).1 hh
  obtain ⟨a1, a2⟩ := fit_u32 h1
  have hlen : (recL v1 t1).length = t1.size + 17 := recL_length v1 t1
  obtain ⟨n1, hn1⟩ : ∃ n1, n1 = t1.size := ⟨_, rfl⟩
  obtain ⟨H, hH⟩ : ∃ H, H = headL v1 (t1.size : Int) := ⟨_, rfl⟩
  obtain ⟨c, hc⟩ : ∃ c, c = crcI (strOfNums H) := ⟨_, rfl⟩
  have hsp : recL v1 t1 = (H ++ fourL c) ++ (bytesOf t1 ++ fourL (crcI t1)) := by rw [hc, hH]; exact recL_split v1 t1
  have lH : H.length = 9 := by rw [hH]; rfl
  have lB := bytesOf_length t1
  have hcr : 0 ≤ c ∧ c < 4294967296 := by rw [hc]; exact crcI_range _
  have hbH : bytesOf (strOfNums H) = H := by rw [hH]; exact bytesOf_son _ (headL_range _ _)
  -- the first nine
  have t9 : bytesOf (X.extract 0 9) = (H.set kk y) := by
    rw [bytesOf_take, hX, List.take_append_of_le_length (by rw [List.length_set]; omega), List.take_set, hsp, List.append_assoc, List.take_left' lH]
  have d9 : 9 ≤ kk ∨ ¬ 9 ≤ kk ∧ (bytesOf X).drop 9 = fourL c ++ ((bytesOf t1 ++ fourL (crcI t1)) ++ m) := by
    by_cases hk9 : 9 ≤ kk
    · exact .inl hk9
    · refine .inr ⟨hk9, ?_⟩
      rw [hX, List.drop_append_of_le_length (by rw [List.length_set]; omega), List.drop_set_of_lt (by omega), hsp, List.append_assoc H, List.drop_left' lH, List.append_assoc]
  rcases d9 with hk9 | ⟨hk9, d9⟩
  rotate_left
  · · obtain ⟨e9, _, _⟩ := num_of_drop X 9 c hcr _ d9
      have hi : kk < (bytesOf (strOfNums H)).length := by rw [hbH]; omega
      have := crc_set (strOfNums H) (X.extract 0 9) kk y hi hy (by rw [hbH]; exact t9) (by rw [← g3, e9, hc])
      refine hne ?_
      rw [this]
      simp only [hbH]
      simp only [hsp, List.append_assoc]
      rw [List.getElem_append_left (by omega)]
  have e9 : X.extract 0 9 = strOfNums H := by
    apply bytesOf_inj
    rw [t9, hbH, List.set_eq_of_length_le (by omega)]
  have hdX : ∀ j, j ≤ kk → (bytesOf X).drop j = ((recL v1 t1).drop j).set (kk - j) y ++ m := by
    intro j hj
    rw [hX, List.drop_append_of_le_length (by rw [List.length_set]; omega), List.set_drop, show j + (kk - j) = kk by omega]
  have hd9 := hdX 9 hk9
  have r9 : (recL v1 t1).drop 9 = fourL c ++ (bytesOf t1 ++ fourL (crcI t1)) := by rw [hsp, List.append_assoc H, List.drop_left' lH]
  rw [r9] at hd9
  rw [e9, ← hc] at g3
  have f9 := drop_four X 9 (by omega)
  by_cases hk13 : kk < 13
  · rw [hd9, List.set_append_left _ _ (by rw [four_len]; omega), List.append_assoc, g3] at f9
    obtain ⟨q, _⟩ := List.append_inj f9 (by rw [List.length_set])
    have := set_same (by rw [four_len]; omega) q
    refine hne ?_
    rw [← this]
    simp only [hsp, List.append_assoc]
    rw [List.getElem_append_right (by omega), List.getElem_append_left (by rw [four_len]; omega)]
    simp only [lH]
  -- the head is as it was
  have hhead : headL (num X 1) (num X 5) = H := by
    rw [← take_head X (by omega) g2, ← bytesOf_take, e9, hbH]
  rw [hH] at hhead
  have hr1 := num_range X 1
  have hr5 := num_range X 5
  obtain ⟨q1, q5⟩ := headL_inj hr1 a1 hr5 a2 hhead
  have q5n : (num X 5).toNat = n1 := by rw [q5, hn1]; rfl
  rw [q5n] at g8 g9 g10
  have r13 : (recL v1 t1).drop 13 = bytesOf t1 ++ fourL (crcI t1) := by rw [hsp, List.drop_left' (by rw [hH]; rfl)]
  have hd13 := hdX 13 (by omega)
  rw [r13] at hd13
  have et : bytesOf t = ((bytesOf X).drop 13).take n1 := by rw [g9, bytesOf_extract, List.drop_take, show 13 + n1 - 13 = n1 by omega]
  have en := drop_four X (13 + n1) (by omega)
  by_cases hkt : kk - 13 < n1
  · rw [hd13, List.set_append_left _ _ (by omega), List.append_assoc, List.take_left' (by rw [List.length_set, lB, hn1])] at et
    have dn : (bytesOf X).drop (13 + n1) = fourL (crcI t1) ++ m := by
      rw [← List.drop_drop, hd13, List.set_append_left _ _ (by omega), List.append_assoc, List.drop_left' (by rw [List.length_set, lB, hn1])]
    obtain ⟨nn, _, _⟩ := num_of_drop X _ _ (crcI_range t1) _ dn
    have := crc_set t1 t (kk - 13) y (by omega) hy et (by rw [← g10, nn])
    refine hne ?_
    rw [this]
    simp only [hsp]
    rw [List.getElem_append_right (by simp only [List.length_append, lH, four_len]; omega), List.getElem_append_left (by simp only [List.length_append, lH, four_len]; omega)]
    simp only [List.length_append, lH, four_len]
  · have ett : t = t1 := by
      apply bytesOf_inj
      rw [et, hd13, List.set_append_right _ _ (by omega), List.append_assoc, List.take_left' (by rw [lB, hn1])]
    have dn : (bytesOf X).drop (13 + n1) = (fourL (crcI t1)).set (kk - 13 - n1) y ++ m := by
      rw [← List.drop_drop, hd13, List.set_append_right _ _ (by omega), List.append_assoc, List.drop_left' (by rw [lB, hn1]), lB, hn1]
    rw [dn, g10, ett] at en
    obtain ⟨q, _⟩ := List.append_inj en (by rw [List.length_set])
    have := set_same (by rw [four_len]; omega) q
    refine hne ?_
    rw [← this]
    simp only [hsp]
    rw [List.getElem_append_right (by simp only [List.length_append, lH, four_len]; omega), List.getElem_append_right (by simp only [List.length_append, lH, four_len]; omega)]
    simp only [List.length_append, lH, four_len, lB, hn1]
end Go.Proofs.Ytcoodlncjnekoaa.F
