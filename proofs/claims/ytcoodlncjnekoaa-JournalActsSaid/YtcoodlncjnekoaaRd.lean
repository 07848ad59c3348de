import Derived.Test.YtcoodlncjnekoaaRec
/- What the code reads at the beginning of some bytes. Conditions: each theorem's own. -/
namespace Go.Proofs.Ytcoodlncjnekoaa.F
open Go.RowKit Go.Proofs.YtcoodlncjnekoaaW.PrintWords Go.Proofs.YtcoodlncjnekoaaW.PrintLast Go.Proofs.YtcoodlncjnekoaaW.PrintMore Go.Proofs.JournalPlain
set_option linter.unusedVariables false
theorem or32 (x y : Nat) (hx : x < 4294967296) (hy : y < 4294967296) : Go.bits .or .u32 (x : Int) (y : Int) = ((x ||| y : Nat) : Int) := by
  have h := Nat.or_lt_two_pow (n := 32) hx hy
  show IntKind.u32.wrap (((BitVec.ofInt 32 (x : Int) ||| BitVec.ofInt 32 (y : Int)).toNat : Nat) : Int) = _
  rw [BitVec.ofInt_natCast, BitVec.ofInt_natCast, BitVec.toNat_or, BitVec.toNat_ofNat, BitVec.toNat_ofNat, Nat.mod_eq_of_lt (show x < 2 ^ 32 by omega), Nat.mod_eq_of_lt (show y < 2 ^ 32 by omega)]
  exact wrap_u32 _ h
theorem or_add (a b i : Nat) (h : a < 2 ^ i) : a ||| (b * 2 ^ i) = a + b * 2 ^ i := by
  have := Nat.shiftLeft_add_eq_or_of_lt h b
  rw [Nat.shiftLeft_eq] at this
  rw [Nat.or_comm, ← this, Nat.add_comm]
def at_ (s : ByteArray) (i : Nat) : Int := (bytesOf s).getD i 0
theorem bt_at_ (s : ByteArray) (i : Nat) : bt s (i : Int) = at_ s i := by
  rw [← rd_bytesOf]
  unfold rd at_
  rfl
theorem at_range (s : ByteArray) (i : Nat) : 0 ≤ at_ s i ∧ at_ s i < 256 := by
  unfold at_
  rw [List.getD_eq_getElem?_getD]
  cases h : (bytesOf s)[i]? with
  | none => exact ⟨by decide, by decide⟩
  | some v => exact bytesOf_range s v (List.mem_of_getElem? h)
/-- The number at a place. -/
def num (s : ByteArray) (i : Nat) : Int := at_ s i + 256 * at_ s (i + 1) + 65536 * at_ s (i + 2) + 16777216 * at_ s (i + 3)
theorem num_range (s : ByteArray) (i : Nat) : 0 ≤ num s i ∧ num s i < 4294967296 := by
  unfold num
  have := at_range s i
  have := at_range s (i + 1)
  have := at_range s (i + 2)
  have := at_range s (i + 3)
  omega
theorem number_f (s : ByteArray) (h : 4 ≤ s.size) : journal_number.f s = some (num s 0) := by
  unfold journal_number.f
  rw [if_pos (by omega), if_pos (by omega), if_pos (by omega), if_pos (by omega)]
  have b0 := bt_at_ s 0
  have b1 := bt_at_ s 1
  have b2 := bt_at_ s 2
  have b3 := bt_at_ s 3
  rw [show ((0 : Nat) : Int) = 0 from rfl] at b0
  rw [show ((1 : Nat) : Int) = 1 from rfl] at b1
  rw [show ((2 : Nat) : Int) = 2 from rfl] at b2
  rw [show ((3 : Nat) : Int) = 3 from rfl] at b3
  rw [b0, b1, b2, b3]
  unfold num
  obtain ⟨r0, q0⟩ := at_range s 0
  obtain ⟨r1, q1⟩ := at_range s 1
  obtain ⟨r2, q2⟩ := at_range s 2
  obtain ⟨r3, q3⟩ := at_range s 3
  obtain ⟨a, ha⟩ := Int.eq_ofNat_of_zero_le r0
  obtain ⟨b, hb⟩ := Int.eq_ofNat_of_zero_le r1
  obtain ⟨c, hc⟩ := Int.eq_ofNat_of_zero_le r2
  obtain ⟨d, hd⟩ := Int.eq_ofNat_of_zero_le r3
  simp only [Nat.zero_add]
  rw [ha, hb, hc, hd]
  rw [ha] at q0
  rw [hb] at q1
  rw [hc] at q2
  rw [hd] at q3
  rw [show (a : Int) % 4294967296 = ((a : Nat) : Int) by omega, show ((b : Int) % 4294967296) * 256 % 4294967296 = ((b * 2 ^ 8 : Nat) : Int) by omega, show ((c : Int) % 4294967296) * 65536 % 4294967296 = ((c * 2 ^ 16 : Nat) : Int) by omega, show ((d : Int) % 4294967296) * 16777216 % 4294967296 = ((d * 2 ^ 24 : Nat) : Int) by omega]
  rw [or32 _ _ (by omega) (by omega), or_add _ _ 8 (by omega), or32 _ _ (by omega) (by omega), or_add _ _ 16 (by omega), or32 _ _ (by omega) (by omega), or_add _ _ 24 (by omega)]
  congr 1
  omega
theorem at_extract (s : ByteArray) (i j : Nat) (hi : i ≤ s.size) : at_ (s.extract i s.size) j = at_ s (i + j) := by
  unfold at_
  rw [bytesOf_extract, List.take_of_length_le (by rw [bytesOf_length]; exact Nat.le_refl _), List.getD_eq_getElem?_getD, List.getD_eq_getElem?_getD, List.getElem?_drop]
theorem num_extract (s : ByteArray) (i j : Nat) (hi : i ≤ s.size) : num (s.extract i s.size) j = num s (i + j) := by
  unfold num
  rw [at_extract s i _ hi, at_extract s i _ hi, at_extract s i _ hi, at_extract s i _ hi]
  rfl
theorem size_extract (s : ByteArray) (i j : Nat) : (s.extract i j).size = min j s.size - i := ByteArray.size_extract
theorem number_at (s : ByteArray) (i : Nat) (hi : i + 4 ≤ s.size) : journal_number.f (s.extract i s.size) = some (num s i) := by
  rw [number_f _ (by rw [size_extract]; omega), num_extract s i 0 (by omega)]
  rfl
theorem fourL_num (s : ByteArray) (i : Nat) : fourL (num s i) = [at_ s i, at_ s (i + 1), at_ s (i + 2), at_ s (i + 3)] := by
  have := at_range s i
  have := at_range s (i + 1)
  have := at_range s (i + 2)
  have := at_range s (i + 3)
  unfold fourL num
  simp only [List.cons.injEq, and_true]
  omega
theorem drop_four (s : ByteArray) (i : Nat) (hi : i + 4 ≤ s.size) : (bytesOf s).drop i = fourL (num s i) ++ (bytesOf s).drop (i + 4) := by
  have hl := bytesOf_length s
  rw [fourL_num]
  have hd : ∀ j, j < s.size → (bytesOf s).drop j = at_ s j :: (bytesOf s).drop (j + 1) := by
    intro j hj
    rw [List.drop_eq_getElem_cons (by omega)]
    congr 1
    unfold at_
    simp [List.getD_eq_getElem?_getD, show j < (bytesOf s).length by omega]
  rw [hd i (by omega), hd (i + 1) (by omega), hd (i + 2) (by omega), hd (i + 3) (by omega)]
  rfl
theorem num_of_drop (s : ByteArray) (i : Nat) (n : Int) (hn : 0 ≤ n ∧ n < 4294967296) (m : List Int) (h : (bytesOf s).drop i = fourL n ++ m) : num s i = n ∧ (bytesOf s).drop (i + 4) = m ∧ i + 4 ≤ s.size := by
  have hl : ((bytesOf s).drop i).length = 4 + m.length := by rw [h, List.length_append]; rfl
  rw [List.length_drop, bytesOf_length] at hl
  have h2 := drop_four s i (by omega)
  rw [h] at h2
  obtain ⟨e1, e2⟩ := List.append_inj h2 (by rfl)
  exact ⟨(fourL_inj hn (num_range s i) e1).symm, e2.symm, by omega⟩
/-- A record stands at the beginning. -/
def Has (s : ByteArray) (v : Int) (t : ByteArray) : Prop := fit_ v t ∧ ∃ m, bytesOf s = recL v t ++ m
theorem bytesOf_take (s : ByteArray) (i : Nat) : bytesOf (s.extract 0 i) = (bytesOf s).take i := by rw [bytesOf_extract, List.drop_zero]
theorem take_head (s : ByteArray) (h : 9 ≤ s.size) (h0 : at_ s 0 = 165) : (bytesOf s).take 9 = headL (num s 1) (num s 5) := by
  have e1 := drop_four s 1 (by omega)
  have e2 := drop_four s 5 (by omega)
  have hl := bytesOf_length s
  have e0 : bytesOf s = 165 :: (bytesOf s).drop 1 := by
    conv => lhs; rw [← List.drop_zero (l := bytesOf s), List.drop_eq_getElem_cons (by omega)]
    congr 1
    rw [← h0]
    unfold at_
    simp [List.getD_eq_getElem?_getD, show 0 < (bytesOf s).length by omega]
  rw [e1, e2] at e0
  rw [e0]
  rfl
/-- The tests, all in one: a record stands here just if they hold. -/
theorem has_iff (s : ByteArray) (v : Int) (t : ByteArray) : Has s v t ↔ (17 ≤ s.size ∧ at_ s 0 = 165 ∧ num s 9 = crcI (s.extract 0 9) ∧ v = num s 1 ∧ 1 ≤ v ∧ v ≤ 2147483647 ∧ num s 5 ≤ 65536 ∧ 13 + (num s 5).toNat + 4 ≤ s.size ∧ t = s.extract 13 (13 + (num s 5).toNat) ∧ num s (13 + (num s 5).toNat) = crcI t) := by
  have hl := bytesOf_length s
  constructor
  · rintro ⟨hf, m, hm⟩
    obtain ⟨a1, a2⟩ := fit_u32 hf
    have hlen : s.size = t.size + 17 + m.length := by rw [← hl, hm, List.length_append, recL_length]
    have h0 : at_ s 0 = 165 := by unfold at_; rw [hm]; rfl
    have d1 : (bytesOf s).drop 1 = fourL v ++ (fourL (t.size : Int) ++ (fourL (crcI (strOfNums (headL v (t.size : Int)))) ++ (bytesOf t ++ (fourL (crcI t) ++ m)))) := by rw [hm, recL_split]; simp [headL]
    obtain ⟨n1, d5, _⟩ := num_of_drop s 1 v a1 _ d1
    obtain ⟨n5, d9, _⟩ := num_of_drop s 5 _ a2 _ d5
    obtain ⟨n9, d13, _⟩ := num_of_drop s 9 _ (crcI_range _) _ d9
    have hh : s.extract 0 9 = strOfNums (headL v (t.size : Int)) := by
      apply bytesOf_inj
      rw [bytesOf_take, take_head s (by omega) h0, bytesOf_son _ (headL_range _ _), n1, n5]
    have ht : t = s.extract 13 (13 + t.size) := by
      apply bytesOf_inj
      rw [bytesOf_extract, List.drop_take, d13, show 13 + t.size - 13 = (bytesOf t).length by rw [bytesOf_length]; omega, List.take_left]
    have dn : (bytesOf s).drop (13 + t.size) = fourL (crcI t) ++ m := by rw [← List.drop_drop, d13, ← bytesOf_length t, List.drop_left]
    obtain ⟨nn, _, _⟩ := num_of_drop s _ _ (crcI_range _) _ dn
    rw [n5, Int.toNat_natCast]
    exact ⟨by omega, h0, by rw [n9, hh], n1.symm, hf.1, hf.2.1, by have := hf.2.2; omega, by omega, ht, nn⟩
  · rintro ⟨h1, h2, h3, h4, h5, h6, h7, h8, h9, h10⟩
    have hr := num_range s 5
    have hsz : t.size = (num s 5).toNat := by rw [h9, size_extract]; omega
    have hsI : (t.size : Int) = num s 5 := by omega
    refine ⟨⟨h5, h6, by omega⟩, (bytesOf s).drop (13 + (num s 5).toNat + 4), ?_⟩
    have hh : strOfNums (headL v (t.size : Int)) = s.extract 0 9 := by
      apply bytesOf_inj
      rw [bytesOf_take, take_head s (by omega) h2, bytesOf_son _ (headL_range _ _), h4, hsI]
    have e9 := drop_four s 9 (by omega)
    have en := drop_four s (13 + (num s 5).toNat) (by omega)
    have et : (bytesOf s).drop 13 = bytesOf t ++ (bytesOf s).drop (13 + (num s 5).toNat) := by
      rw [h9, bytesOf_extract, List.drop_take, show 13 + (num s 5).toNat - 13 = (num s 5).toNat by omega, ← List.drop_drop, List.take_append_drop]
    rw [recL_split, hh, ← h3, ← h10, hsI, h4, ← take_head s (by omega) h2]
    conv => lhs; rw [← List.take_append_drop 9 (bytesOf s), e9, et, en]
    simp [List.append_assoc]
theorem has_unique {s : ByteArray} {v v' : Int} {t t' : ByteArray} (h : Has s v t) (h' : Has s v' t') : v = v' ∧ t = t' := by
  obtain ⟨hf, m, hm⟩ := h
  obtain ⟨hf', m', hm'⟩ := h'
  obtain ⟨a, b, _⟩ := rec_unique hf hf' m m' (by rw [← hm, hm'])
  exact ⟨a, b⟩
theorem first_has (s : ByteArray) (hs : s.size ≤ 1000000000000000000) (v : Int) (t : ByteArray) (h : Has s v t) (k : Nat) (hk : 700000 ≤ k) : journal_first.f k s = some (v, t, (t.size : Int) + 17) := by
  obtain ⟨h1, h2, h3, h4, h5, h6, h7, h8, h9, h10⟩ := (has_iff s v t).1 h
  have hr := num_range s 5
  have hr1 := num_range s 1
  obtain ⟨j, rfl⟩ := Nat.exists_eq_add_of_le' (show 2 ≤ k by omega)
  have b0 := bt_at_ s 0
  rw [show ((0 : Nat) : Int) = 0 from rfl] at b0
  have sz : t.size = (num s 5).toNat := by rw [h9, size_extract]; omega
  have s1 := sum_f (s.extract 0 9) (by rw [size_extract]; omega) (j + 2) (by unfold K1; rw [size_extract]; omega)
  have s2 : journal_sum.f j t = some (crcI t) := sum_f t (by omega) j (by unfold K1; omega)
  unfold journal_first.f
  rw [if_neg (by omega), if_pos (by omega), b0, if_pos h2, if_pos (by omega), number_at s 9 (by omega), Option.bind_some, if_pos (by decide), s1, Option.bind_some]
  have e : (num s 9 != ((crc (nb (s.extract 0 9)) : Nat) : Int)) = false := by
    rw [bne_eq_false_iff_eq, h3]; rfl
  rw [e, journal_first.j0, if_neg (by decide), if_pos (by omega), number_at s 1 (by omega), Option.bind_some, if_pos (by omega), number_at s 5 (by omega), Option.bind_some, w64 (num s 1) (by omega) (by omega), w64 (num s 5) (by omega) (by omega), if_neg (by omega), if_neg (by omega), if_neg (by omega)]
  rw [w64 (13 + _) (by omega) (by omega), w64 (13 + num s 5 + 4) (by omega) (by omega), decide_eq_false (by omega), journal_first.j1, if_neg (by decide), w64 (13 + num s 5) (by omega) (by omega), if_pos (by omega), if_pos (by omega), if_pos (by omega), show (13 + num s 5).toNat = 13 + (num s 5).toNat by omega, number_at s _ (by omega), Option.bind_some, ← h9, s2, Option.bind_some, if_pos h10, w64 _ (by omega) (by omega)]
  rw [← h4]
  congr 3
  omega
theorem first_none (s : ByteArray) (hs : s.size ≤ 1000000000000000000) (h : ∀ v t, ¬ Has s v t) (k : Nat) (hk : 700000 ≤ k) : journal_first.f k s = some (0, (⟨#[]⟩ : ByteArray), 0) := by
  have hr := num_range s 5
  have hr1 := num_range s 1
  obtain ⟨j, rfl⟩ := Nat.exists_eq_add_of_le' (show 2 ≤ k by omega)
  have b0 := bt_at_ s 0
  rw [show ((0 : Nat) : Int) = 0 from rfl] at b0
  unfold journal_first.f
  by_cases c1 : (s.size : Int) < 17
  · rw [if_pos c1, journal_first.j0, if_pos rfl]
  rw [if_neg c1, if_pos (by omega), b0]
  by_cases c2 : at_ s 0 = 165
  rotate_left
  · rw [if_neg c2, journal_first.j0, if_pos rfl]
  have s1 := sum_f (s.extract 0 9) (by rw [size_extract]; omega) (j + 2) (by unfold K1; rw [size_extract]; omega)
  rw [if_pos c2, if_pos (by omega), number_at s 9 (by omega), Option.bind_some, if_pos (by decide), s1, Option.bind_some]
  by_cases c3 : num s 9 = crcI (s.extract 0 9)
  rotate_left
  · have e : (num s 9 != ((crc (nb (s.extract 0 9)) : Nat) : Int)) = true := by rw [bne_iff_ne]; exact c3
    rw [e, journal_first.j0, if_pos rfl]
  have e : (num s 9 != ((crc (nb (s.extract 0 9)) : Nat) : Int)) = false := by rw [bne_eq_false_iff_eq, c3]; rfl
  rw [e, journal_first.j0, if_neg (by decide), if_pos (by omega), number_at s 1 (by omega), Option.bind_some, if_pos (by omega), number_at s 5 (by omega), Option.bind_some, w64 (num s 1) (by omega) (by omega), w64 (num s 5) (by omega) (by omega)]
  by_cases c4 : num s 1 < 1
  · rw [if_pos c4, journal_first.j1, if_pos rfl]
  by_cases c5 : num s 1 > 2147483647
  · rw [if_neg c4, if_pos c5, journal_first.j1, if_pos rfl]
  by_cases c6 : num s 5 > 65536
  · rw [if_neg c4, if_neg c5, if_pos c6, journal_first.j1, if_pos rfl]
  rw [if_neg c4, if_neg c5, if_neg c6, w64 (13 + _) (by omega) (by omega), w64 (13 + num s 5 + 4) (by omega) (by omega)]
  by_cases c7 : (s.size : Int) < 13 + num s 5 + 4
  · rw [decide_eq_true c7, journal_first.j1, if_pos rfl]
  obtain ⟨t, ht⟩ : ∃ t, t = s.extract 13 (13 + (num s 5).toNat) := ⟨_, rfl⟩
  have sz : t.size = (num s 5).toNat := by rw [ht, size_extract]; omega
  have s2 : journal_sum.f j t = some (crcI t) := sum_f t (by omega) j (by unfold K1; omega)
  rw [decide_eq_false c7, journal_first.j1, if_neg (by decide), w64 (13 + num s 5) (by omega) (by omega), if_pos (by omega), if_pos (by omega), if_pos (by omega), show (13 + num s 5).toNat = 13 + (num s 5).toNat by omega, number_at s _ (by omega), Option.bind_some, ← ht, s2, Option.bind_some]
  by_cases c8 : num s (13 + (num s 5).toNat) = crcI t
  · exact absurd ((has_iff s (num s 1) t).2 ⟨by omega, c2, c3, rfl, by omega, by omega, by omega, by omega, ht, c8⟩) (h _ _)
  · rw [if_neg c8]
/-! reading on -/
theorem Read_step (k : Nat) (s : ByteArray) (hs : s.size ≤ 1000000000000000000) (acc : List S23) (at0 : Nat) (v : Int) (t : ByteArray) (h : Has (s.extract at0 s.size) v t) (ha : at0 ≤ s.size) (hl : acc.length < 5864062014805) (hk : 700000 ≤ k) : journal_Read.l0 (k + 1) s acc (at0 : Int) = journal_Read.l0 k s (acc ++ [⟨v, t⟩]) ((at0 + (t.size + 17) : Nat) : Int) := by
  have hb : t.size + 17 ≤ s.size := by
    obtain ⟨h1, _, _, _, _, _, _, h8, h9, _⟩ := (has_iff _ v t).1 h
    rw [size_extract] at h1 h8
    have hr := num_range (s.extract at0 s.size) 5
    have : t.size ≤ (num (s.extract at0 s.size) 5).toNat := by rw [h9, size_extract]; omega
    omega
  rw [journal_Read.l0, if_pos (by omega), if_pos (by omega), Int.toNat_natCast, first_has _ (by rw [size_extract]; omega) v t h k hk, Option.bind_some, if_neg (by show ¬ ((t.size : Int) + 17 = 0); omega), if_pos hl, w64 _ (by show _ ≤ (at0 : Int) + ((t.size : Int) + 17); omega) (by show (at0 : Int) + ((t.size : Int) + 17) ≤ _; omega)]
  rfl
theorem Read_end (k : Nat) (s : ByteArray) (hs : s.size ≤ 1000000000000000000) (acc : List S23) (at0 : Nat) (h : ∀ v t, ¬ Has (s.extract at0 s.size) v t) (ha : at0 ≤ s.size) (hk : 700000 ≤ k) : journal_Read.l0 (k + 1) s acc (at0 : Int) = some (acc, (at0 : Int)) := by
  rw [journal_Read.l0, if_pos (by omega), if_pos (by omega), Int.toNat_natCast, first_none _ (by rw [size_extract]; omega) h k hk, Option.bind_some, if_pos rfl]
end Go.Proofs.Ytcoodlncjnekoaa.F
