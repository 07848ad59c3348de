import Derived.Test.YtcoodlncjnekoaaCrc
import Derived.Test.YtcoodlncjnekoaaF5
/- The code's sum and the document's are the CRC of Crc; four bytes; the record. Conditions: each theorem's own. -/
namespace Go.Proofs.Ytcoodlncjnekoaa.F
open Go.RowKit Go.Proofs.YtcoodlncjnekoaaW.PrintWords Go.Proofs.YtcoodlncjnekoaaW.PrintLast Go.Proofs.YtcoodlncjnekoaaW.PrintMore Go.Proofs.JournalPlain
set_option linter.unusedVariables false
theorem wrap_u32 (n : Nat) (h : n < 2 ^ 32) : IntKind.u32.wrap (n : Int) = (n : Int) := by
  simp only [IntKind.wrap, IntKind.bits, IntKind.signed]
  simp
  omega
theorem xor32 (x y : Nat) (hx : x < 4294967296) (hy : y < 4294967296) : Go.bits .xor .u32 (x : Int) (y : Int) = ((x ^^^ y : Nat) : Int) := by
  have h := Nat.xor_lt_two_pow (n := 32) hx hy
  show IntKind.u32.wrap (((BitVec.ofInt 32 (x : Int) ^^^ BitVec.ofInt 32 (y : Int)).toNat : Nat) : Int) = _
  rw [BitVec.ofInt_natCast, BitVec.ofInt_natCast, BitVec.toNat_xor, BitVec.toNat_ofNat, BitVec.toNat_ofNat, Nat.mod_eq_of_lt (show x < 2 ^ 32 by omega), Nat.mod_eq_of_lt (show y < 2 ^ 32 by omega)]
  exact wrap_u32 _ h
theorem and1 (x : Nat) (hx : x < 4294967296) : Go.bits .and .u32 (x : Int) 1 = ((x % 2 : Nat) : Int) := by
  rw [show (1 : Int) = ((1 : Nat) : Int) from rfl]
  show IntKind.u32.wrap (((BitVec.ofInt 32 (x : Int) &&& BitVec.ofInt 32 ((1 : Nat) : Int)).toNat : Nat) : Int) = _
  rw [BitVec.ofInt_natCast, BitVec.ofInt_natCast, BitVec.toNat_and, BitVec.toNat_ofNat, BitVec.toNat_ofNat, Nat.mod_eq_of_lt (show x < 2 ^ 32 by omega), Nat.mod_eq_of_lt (show 1 < 2 ^ 32 by omega), Nat.and_one_is_mod]
  exact wrap_u32 _ (by omega)
theorem xor64 (x y : Nat) (hx : x < 9223372036854775808) (hy : y < 9223372036854775808) : Go.bits .xor .i64 (x : Int) (y : Int) = ((x ^^^ y : Nat) : Int) := by
  have h := Nat.xor_lt_two_pow (n := 63) hx hy
  show IntKind.i64.wrap (((BitVec.ofInt 64 (x : Int) ^^^ BitVec.ofInt 64 (y : Int)).toNat : Nat) : Int) = _
  rw [BitVec.ofInt_natCast, BitVec.ofInt_natCast, BitVec.toNat_xor, BitVec.toNat_ofNat, BitVec.toNat_ofNat, Nat.mod_eq_of_lt (show x < 2 ^ 64 by omega), Nat.mod_eq_of_lt (show y < 2 ^ 64 by omega)]
  rw [IntKind.wrap_i64]
  omega
def nb (s : ByteArray) : List Nat := s.data.toList.map UInt8.toNat
theorem nb_len (s : ByteArray) : (nb s).length = s.size := by rw [nb, List.length_map, data_length]
theorem nb_lt (s : ByteArray) : ∀ c ∈ nb s, c < 256 := by
  intro c hc
  obtain ⟨b, _, rfl⟩ := List.mem_map.1 hc
  exact b.toNat_lt
theorem bt_nb (s : ByteArray) (i : Nat) : bt s (i : Int) = (((nb s).getD i 0 : Nat) : Int) := by
  unfold bt nb
  rw [List.getD_eq_getElem?_getD, List.getElem?_map]
  by_cases h : i < s.size
  · have h' : i < s.data.toList.length := by rw [data_length]; exact h
    simp only [Int.toNat_natCast, h, dif_pos, List.getElem?_eq_getElem h', Option.map_some, Option.getD_some]
    rfl
  · have h' : ¬ i < s.data.toList.length := by rw [data_length]; exact h
    simp only [Int.toNat_natCast, h, List.getElem?_eq_none (Nat.le_of_not_lt h')]
    rfl
theorem w64 (n : Int) (h1 : -9223372036854775808 ≤ n) (h2 : n ≤ 9223372036854775807) : wrap64 n = n := by unfold wrap64; omega
/-! the code's -/
theorem sum_l1 (s : ByteArray) (x4 : Int) : ∀ j, j ≤ 8 → ∀ k : Nat, ∀ r : Nat, r < 4294967296 → journal_sum.l1 (k + j + 1) s (r : Int) x4 ((8 - j : Nat) : Int) = journal_sum.l0 k s ((Sn j r : Nat) : Int) (wrap64 (x4 + 1)) := by
  intro j
  induction j with
  | zero =>
    intro _ k r hr
    simp only [journal_sum.l1]
    rw [if_neg (by decide)]
    rfl
  | succ j ih =>
    intro hj k r hr
    rw [show k + (j + 1) + 1 = (k + j + 1) + 1 by omega, journal_sum.l1]
    rw [if_pos (by omega), and1 r hr, w64 _ (by omega) (by omega), show ((8 - (j + 1) : Nat) : Int) + 1 = ((8 - j : Nat) : Int) by omega]
    have h2 : ((r : Int) / 2) = ((r / 2 : Nat) : Int) := by omega
    rw [h2, show (3988292384 : Int) = ((C : Nat) : Int) from rfl, xor32 _ _ (by omega) (by decide)]
    by_cases hc : r % 2 = 1
    · rw [if_pos (by omega), ih (by omega) k _ (Nat.xor_lt_two_pow (n := 32) (by omega) (by decide))]
      simp only [Sn, S, if_pos hc]
    · rw [if_neg (by omega), ih (by omega) k _ (by omega)]
      simp only [Sn, S, if_neg hc]
theorem sum_l0 (s : ByteArray) (hs : s.size ≤ 9223372036854775806) : ∀ m, m ≤ s.size → ∀ k : Nat, ∀ r : Nat, r < 4294967296 → journal_sum.l0 (k + 1 + 10 * m) s (r : Int) ((s.size - m : Nat) : Int) = some ((4294967295 ^^^ ((nb s).drop (s.size - m)).foldl byteStep r : Nat) : Int) := by
  intro m
  induction m with
  | zero =>
    intro _ k r hr
    simp only [journal_sum.l0]
    rw [if_neg (by omega), show (4294967295 : Int) = ((4294967295 : Nat) : Int) from rfl, xor32 _ _ (by decide) hr, Nat.sub_zero, List.drop_of_length_le (by rw [nb_len]; omega)]
    rfl
  | succ m ih =>
    intro hm k r hr
    rw [show k + 1 + 10 * (m + 1) = (k + 1 + 10 * m + 9) + 1 by omega]
    simp only [journal_sum.l0]
    have hlt : s.size - (m + 1) < (nb s).length := by rw [nb_len]; omega
    have hb : (nb s)[s.size - (m + 1)] < 256 := nb_lt s _ (List.getElem_mem _)
    rw [if_pos (by omega), if_pos (by omega), bt_nb]
    have hg : (nb s).getD (s.size - (m + 1)) 0 = (nb s)[s.size - (m + 1)] := by simp [List.getD_eq_getElem?_getD, hlt]
    rw [hg, show (((nb s)[s.size - (m + 1)] : Nat) : Int) % 4294967296 = (((nb s)[s.size - (m + 1)] : Nat) : Int) by omega, xor32 _ _ hr (by omega)]
    have hx : r ^^^ (nb s)[s.size - (m + 1)] < 4294967296 := Nat.xor_lt_two_pow (n := 32) (by omega) (by omega)
    have h1 := sum_l1 s ((s.size - (m + 1) : Nat) : Int) 8 (Nat.le_refl _) (k + 1 + 10 * m) _ hx
    rw [show ((8 - 8 : Nat) : Int) = 0 from rfl] at h1
    rw [show k + 1 + 10 * m + 9 = k + 1 + 10 * m + 8 + 1 by omega, h1, w64 _ (by omega) (by omega), show (((s.size - (m + 1) : Nat) : Int) + 1) = ((s.size - m : Nat) : Int) by omega, ih (by omega) k _ (Sn_lt 8 hx)]
    rw [List.drop_eq_getElem_cons hlt, List.foldl_cons, show s.size - (m + 1) + 1 = s.size - m by omega]
    rfl
def K1 (s : ByteArray) : Nat := 10 * s.size + 1
theorem sum_f (s : ByteArray) (hs : s.size ≤ 9223372036854775806) (k : Nat) (hk : K1 s ≤ k) : journal_sum.f k s = some ((crc (nb s) : Nat) : Int) := by
  unfold K1 at hk
  obtain ⟨j, rfl⟩ := Nat.exists_eq_add_of_le hk
  have h := sum_l0 s hs s.size (Nat.le_refl _) j 4294967295 (by decide)
  rw [Nat.sub_self] at h
  unfold journal_sum.f
  rw [show 10 * s.size + 1 + j = j + 1 + 10 * s.size by omega]
  exact h
/-! the document's -/
theorem turned_l0 (x : Nat) (hx : x < 4294967296) : ∀ m, m ≤ 32 → ∀ k, gatehouseref22_turned.l0 (k + 1 + m) ((x / 2 ^ (32 - m) : Nat) : Int) 32 ((turn x (32 - m) : Nat) : Int) ((32 - m : Nat) : Int) = some ((turn x 32 : Nat) : Int) := by
  intro m
  induction m with
  | zero =>
    intro _ k
    simp only [gatehouseref22_turned.l0]
    rw [if_neg (by decide)]
  | succ m ih =>
    intro hm k
    rw [show k + 1 + (m + 1) = k + 1 + m + 1 by omega]
    simp only [gatehouseref22_turned.l0]
    have ht := turn_lt x (32 - (m + 1))
    have ht2 : turn x (32 - (m + 1)) < 2147483648 := Nat.lt_of_lt_of_le ht (show 2 ^ (32 - (m + 1)) ≤ 2 ^ 31 from Nat.pow_le_pow_right (by decide) (by omega))
    have hq : x / 2 ^ (32 - (m + 1)) ≤ x := Nat.div_le_self _ _
    obtain ⟨q, hq2⟩ : ∃ q, q = x / 2 ^ (32 - (m + 1)) := ⟨_, rfl⟩
    have hd : Int.tdiv (q : Int) 2 = ((q / 2 : Nat) : Int) := by rw [Int.tdiv_eq_ediv_of_nonneg (by omega)]; omega
    have hmd : Int.tmod (q : Int) 2 = ((q % 2 : Nat) : Int) := by rw [Int.tmod_eq_emod_of_nonneg (by omega)]; omega
    rw [← hq2] at hq ⊢
    rw [if_pos (by omega), hd, hmd, w64 ((q / 2 : Nat) : Int) (by omega) (by omega), w64 (2 * _) (by omega) (by omega), w64 _ (by omega) (by omega), w64 _ (by omega) (by omega)]
    have e1 : q / 2 = x / 2 ^ (32 - m) := by rw [hq2, Nat.div_div_eq_div_mul, ← Nat.pow_succ, show (32 - (m + 1)).succ = 32 - m by omega]
    have e2 : 2 * ((turn x (32 - (m + 1)) : Nat) : Int) + ((q % 2 : Nat) : Int) = ((turn x (32 - m) : Nat) : Int) := by
      rw [show 32 - m = (32 - (m + 1)) + 1 by omega]
      show _ = ((2 * turn x (32 - (m + 1)) + x / 2 ^ (32 - (m + 1)) % 2 : Nat) : Int)
      rw [← hq2]
      omega
    rw [e1, e2, show ((32 - (m + 1) : Nat) : Int) + 1 = ((32 - m : Nat) : Int) by omega, ih (by omega) k]
theorem turned_f (x : Nat) (hx : x < 4294967296) (k : Nat) (hk : 33 ≤ k) : gatehouseref22_turned.f k (x : Int) 32 = some ((turn x 32 : Nat) : Int) := by
  obtain ⟨j, rfl⟩ := Nat.exists_eq_add_of_le hk
  have h := turned_l0 x hx 32 (Nat.le_refl _) j
  rw [show j + 1 + 32 = 33 + j by omega, Nat.sub_self, Nat.pow_zero, Nat.div_one] at h
  exact h
def bb (s : ByteArray) (i : Nat) : Nat := aug (bits8 (nb s)) (8 * s.size) i
theorem bb_01 (s : ByteArray) (i : Nat) : bb s i = 0 ∨ bb s i = 1 := aug_01 _ _ (bits8_01 _) i
theorem step_lt (s : ByteArray) (i : Nat) : divs (bb s) i < 4294967296 := (mir_divs _ (bb_01 s) i).1
theorem Sum_j1 (s : ByteArray) (hs : s.size ≤ 1000000000000000000) (i : Nat) (N : Int) (y k : Nat) (hy : y = 0 ∨ y = 1) (hi : i ≤ 8 * s.size + 32) (he : bb s i = if i < 32 then 1 - y else y) :
    gatehouseref22_Sum.j1 (k + 1) s ((divs (bb s) i : Nat) : Int) N (i : Int) (y : Int) = gatehouseref22_Sum.l0 k s ((divs (bb s) (i + 1) : Nat) : Int) N ((i + 1 : Nat) : Int) := by
  have hd := step_lt s i
  have h1 : divs (bb s) (i + 1) = JournalPlain.step (divs (bb s) i) (bb s i) := rfl
  rw [h1, he]
  unfold JournalPlain.step
  simp only [gatehouseref22_Sum.j1]
  rw [w64 (2 * _) (by omega) (by omega), w64 (1 - (y : Int)) (by omega) (by omega), w64 (_ + (1 - (y : Int))) (by omega) (by omega), w64 (_ + (y : Int)) (by omega) (by omega), w64 ((i : Int) + 1) (by omega) (by omega)]
  have e3 : (4374732215 : Int) = ((4374732215 : Nat) : Int) := rfl
  have e1 : 2 * ((divs (bb s) i : Nat) : Int) + (1 - (y : Int)) = ((2 * divs (bb s) i + (1 - y) : Nat) : Int) := by omega
  have e2 : 2 * ((divs (bb s) i : Nat) : Int) + (y : Int) = ((2 * divs (bb s) i + y : Nat) : Int) := by omega
  have e4 : (i : Int) + 1 = ((i + 1 : Nat) : Int) := by omega
  rw [e1, e2, e3, e4, xor64 _ _ (by omega) (by decide), xor64 _ _ (by omega) (by decide)]
  by_cases h32 : i < 32
  · rw [if_pos (by omega)]
    simp only [if_pos h32]
    split
    · rw [if_pos (by omega)]
    · rw [if_neg (by omega)]
  · rw [if_neg (by omega)]
    simp only [if_neg h32]
    split
    · rw [if_pos (by omega)]
    · rw [if_neg (by omega)]
theorem Sum_l0 (s : ByteArray) (hs : s.size ≤ 1000000000000000000) : ∀ m, m ≤ 8 * s.size + 32 → ∀ k, gatehouseref22_Sum.l0 (k + 34 + 2 * m) s ((divs (bb s) (8 * s.size + 32 - m) : Nat) : Int) ((8 * s.size + 32 : Nat) : Int) ((8 * s.size + 32 - m : Nat) : Int) = some ((crc (nb s) : Nat) : Int) := by
  intro m
  induction m with
  | zero =>
    intro _ k
    rw [Nat.mul_zero, Nat.add_zero, show k + 34 = (k + 33) + 1 by omega]
    simp only [gatehouseref22_Sum.l0]
    rw [if_neg (by omega), Nat.sub_zero, turned_f _ (step_lt s _) _ (by omega)]
    have h := crc_div (nb s) (nb_lt s)
    rw [nb_len] at h
    have ht := turn_lt (divs (bb s) (8 * s.size + 32)) 32
    have hb : bb s = aug (bits8 (nb s)) (8 * s.size) := rfl
    rw [← hb] at h
    rw [← h]
    show some _ = some _
    rw [w64 _ (by omega) (by omega)]
    congr 1
    omega
  | succ m ih =>
    intro hm k
    obtain ⟨i, hi⟩ : ∃ i, i = 8 * s.size + 32 - (m + 1) := ⟨_, rfl⟩
    rw [← hi, show k + 34 + 2 * (m + 1) = (k + 34 + 2 * m + 1) + 1 by omega]
    simp only [gatehouseref22_Sum.l0]
    have nxt := ih (by omega) k
    rw [show 8 * s.size + 32 - m = i + 1 by omega] at nxt
    rw [if_pos (by omega), w64 (8 * (s.size : Int)) (by omega) (by omega)]
    have hd : Int.tdiv (i : Int) 8 = ((i / 8 : Nat) : Int) := by rw [Int.tdiv_eq_ediv_of_nonneg (by omega)]; omega
    have hmd : Int.tmod (i : Int) 8 = ((i % 8 : Nat) : Int) := by rw [Int.tmod_eq_emod_of_nonneg (by omega)]; omega
    by_cases hlt : i < 8 * s.size
    · rw [if_pos (by omega), hd, hmd, w64 ((i / 8 : Nat) : Int) (by omega) (by omega), if_pos (by omega), if_pos (by omega), if_pos (by omega), bt_nb]
      have hc : (nb s).getD (i / 8) 0 < 256 := by
        rw [List.getD_eq_getElem?_getD]
        cases hh : (nb s)[i / 8]? with
        | none => exact (by decide : (0 : Nat) < 256)
        | some v => exact nb_lt s v (List.mem_of_getElem? hh)
      have hb0 : bits8 (nb s) i = ((nb s).getD (i / 8) 0 / 2 ^ (i % 8)) % 2 := rfl
      generalize (nb s).getD (i / 8) 0 = c at hc hb0 ⊢
      have hsh : shr .u8 (c : Int) ((i % 8 : Nat) : Int) = ((c / 2 ^ (i % 8) : Nat) : Int) := by
        unfold shr
        rw [Int.toNat_natCast, show min (i % 8) IntKind.u8.bits = i % 8 from Nat.min_eq_left (by show i % 8 ≤ 8; omega)]
        simp
      have hle : c / 2 ^ (i % 8) ≤ c := Nat.div_le_self _ _
      rw [hsh]
      generalize c / 2 ^ (i % 8) = v at hb0 hle ⊢
      rw [w64 _ (by omega) (by omega), show Int.tmod (v : Int) 2 = ((v % 2 : Nat) : Int) by rw [Int.tmod_eq_emod_of_nonneg (by omega)]; omega]
      rw [Sum_j1 s hs i _ (v % 2) _ (Nat.mod_two_eq_zero_or_one _) (by omega) ?_]
      · exact nxt
      · show aug (bits8 (nb s)) (8 * s.size) i = _
        unfold aug
        simp only [if_pos hlt, hb0]
    · rw [if_neg (by omega)]
      have := Sum_j1 s hs i ((8 * s.size + 32 : Nat) : Int) 0 (k + 34 + 2 * m) (.inl rfl) (by omega) (by
        show aug (bits8 (nb s)) (8 * s.size) i = _
        unfold aug
        simp only [if_neg hlt])
      rw [show ((0 : Nat) : Int) = 0 from rfl] at this
      rw [this]
      exact nxt
def K2 (s : ByteArray) : Nat := 34 + 2 * (8 * s.size + 32)
theorem Sum_f (s : ByteArray) (hs : s.size ≤ 1000000000000000000) (k : Nat) (hk : K2 s ≤ k) : gatehouseref22_Sum.f k s = some ((crc (nb s) : Nat) : Int) := by
  unfold K2 at hk
  obtain ⟨j, rfl⟩ := Nat.exists_eq_add_of_le hk
  have h := Sum_l0 s hs (8 * s.size + 32) (Nat.le_refl _) j
  rw [Nat.sub_self] at h
  unfold gatehouseref22_Sum.f
  rw [w64 (8 * (s.size : Int)) (by omega) (by omega), w64 _ (by omega) (by omega), show 34 + 2 * (8 * s.size + 32) + j = j + 34 + 2 * (8 * s.size + 32) by omega]
  exact h
end Go.Proofs.Ytcoodlncjnekoaa.F
