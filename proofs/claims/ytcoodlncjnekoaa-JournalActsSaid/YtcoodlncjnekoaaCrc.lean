import Derived.RowKit
/- The CRC-32, two ways: bit by bit with the polynomial turned, and as the remainder of a division. Plain law; no condition. -/
namespace Go.Proofs.JournalPlain
def C : Nat := 3988292384
def S (r : Nat) : Nat := if r % 2 = 1 then (r / 2) ^^^ C else r / 2
def Sn : Nat → Nat → Nat
  | 0, x => x
  | n + 1, x => Sn n (S x)
theorem S_zero : S 0 = 0 := rfl
theorem S_lin (x y : Nat) : S (x ^^^ y) = S x ^^^ S y := by
  unfold S
  have hm := @Nat.xor_mod_two_eq_one x y
  have hd : (x ^^^ y) / 2 = x / 2 ^^^ y / 2 := Nat.xor_div_two
  rw [hd]
  rcases Nat.mod_two_eq_zero_or_one x with hx | hx <;> rcases Nat.mod_two_eq_zero_or_one y with hy | hy
  · rw [if_neg (by omega), if_neg (by omega), if_neg (by omega)]
  · rw [if_pos (by omega), if_neg (by omega), if_pos (by omega), Nat.xor_assoc]
  · rw [if_pos (by omega), if_pos (by omega), if_neg (by omega), Nat.xor_assoc, Nat.xor_assoc, Nat.xor_comm C]
  · rw [if_neg (by omega), if_pos (by omega), if_pos (by omega)]
    rw [Nat.xor_assoc, ← Nat.xor_assoc C, Nat.xor_comm C, Nat.xor_assoc, Nat.xor_self, Nat.xor_zero]
theorem Sn_lin (n : Nat) : ∀ x y : Nat, Sn n (x ^^^ y) = Sn n x ^^^ Sn n y := by
  induction n with
  | zero => intro x y; rfl
  | succ n ih => intro x y; simp only [Sn]; rw [S_lin, ih]
theorem Sn_add (m n : Nat) : ∀ x, Sn (m + n) x = Sn n (Sn m x) := by
  induction m with
  | zero => intro x; rw [Nat.zero_add]; rfl
  | succ m ih => intro x; rw [Nat.succ_add]; simp only [Sn]; exact ih _
theorem Sn_zero (n : Nat) : Sn n 0 = 0 := by
  induction n with
  | zero => rfl
  | succ n ih => simp only [Sn]; rw [S_zero]; exact ih
theorem Sn_succ (n x : Nat) : Sn (n + 1) x = S (Sn n x) := by rw [Sn_add n 1]; rfl
theorem S_lt {x : Nat} (h : x < 4294967296) : S x < 4294967296 := by
  unfold S
  split
  · exact Nat.xor_lt_two_pow (n := 32) (by omega) (by decide)
  · omega
/-- Bit by bit, from init. -/
def dd (b : Nat → Nat) (init : Nat) : Nat → Nat
  | 0 => init
  | i + 1 => S (dd b init i ^^^ b i)
/-- The division, turned. -/
def rr (b : Nat → Nat) : Nat → Nat
  | 0 => 0
  | i + 1 => S (rr b i) ^^^ (b i * 2147483648)
/-- The bits that the division is given: the first 32 turned, 32 zeros behind. -/
def aug (b : Nat → Nat) (n i : Nat) : Nat := let x := if i < n then b i else 0; if i < 32 then 1 - x else x
def mm : Nat → Nat
  | 0 => 0
  | i + 1 => mm i ^^^ Sn (31 - i) 2147483648
theorem mm32 : mm 32 = 4294967295 := by decide +kernel
theorem top32 : Sn 32 2147483648 = S 1 := by decide +kernel
def ones : Nat := 4294967295
theorem rr_dd (b : Nat → Nat) (n : Nat) (hb : ∀ i, b i = 0 ∨ b i = 1) : ∀ i, i ≤ n + 32 → Sn (n + 32 - i) (rr (aug b n) i) = (Sn (n - i) (dd b ones (min i n)) ^^^ Sn n ones) ^^^ Sn n (mm (min i 32)) := by
  intro i
  induction i with
  | zero =>
    intro _
    simp only [rr, Sn_zero, Nat.zero_min, dd, mm, Nat.sub_zero, Nat.xor_self]
  | succ i ih =>
    intro hi
    have h1 := ih (by omega)
    have e : n + 32 - i = (n + 32 - (i + 1)) + 1 := by omega
    rw [e] at h1
    simp only [Sn] at h1
    show Sn (n + 32 - (i + 1)) (S (rr (aug b n) i) ^^^ (aug b n i * 2147483648)) = _
    rw [Sn_lin, h1]
    clear h1 ih
    have ml : i < 32 → Sn n (mm (min (i + 1) 32)) = Sn n (mm (min i 32)) ^^^ Sn (n + 32 - (i + 1)) 2147483648 := by
      intro h
      rw [Nat.min_eq_left (by omega), Nat.min_eq_left (by omega)]
      show Sn n (mm i ^^^ Sn (31 - i) 2147483648) = _
      rw [Sn_lin, ← Sn_add, show 31 - i + n = n + 32 - (i + 1) by omega]
    have mg : ¬ i < 32 → Sn n (mm (min (i + 1) 32)) = Sn n (mm (min i 32)) := by
      intro h
      rw [Nat.min_eq_right (by omega), Nat.min_eq_right (by omega)]
    have dl : i < n → Sn (n - (i + 1)) (dd b ones (min (i + 1) n)) = Sn (n - i) (dd b ones (min i n)) ^^^ Sn (n + 32 - (i + 1)) (b i * 2147483648) := by
      intro h
      rw [Nat.min_eq_left (by omega), Nat.min_eq_left (by omega)]
      show Sn (n - (i + 1)) (S (dd b ones i ^^^ b i)) = _
      rw [S_lin, Sn_lin]
      have e2 : n - i = (n - (i + 1)) + 1 := by omega
      rw [e2]
      simp only [Sn]
      congr 1
      rcases hb i with h0 | h0 <;> rw [h0]
      · rw [S_zero, Nat.zero_mul, Sn_zero, Sn_zero]
      · rw [Nat.one_mul, show n + 32 - (i + 1) = 32 + (n - (i + 1)) by omega, Sn_add, top32]
    have dg : ¬ i < n → Sn (n - (i + 1)) (dd b ones (min (i + 1) n)) = Sn (n - i) (dd b ones (min i n)) := by
      intro h
      rw [Nat.min_eq_right (by omega), Nat.min_eq_right (by omega), show n - (i + 1) = 0 by omega, show n - i = 0 by omega]
    have x3 : ∀ p q r s : Nat, ((p ^^^ q) ^^^ r) ^^^ s = ((p ^^^ s) ^^^ q) ^^^ r := by
      intro p q r s
      rw [Nat.xor_assoc, Nat.xor_assoc, Nat.xor_assoc, Nat.xor_assoc, ← Nat.xor_assoc q, Nat.xor_comm (q ^^^ r)]
    have x4 : ∀ p q r s : Nat, ((p ^^^ q) ^^^ r) ^^^ s = (p ^^^ q) ^^^ (r ^^^ s) := fun p q r s => Nat.xor_assoc _ _ _
    unfold aug
    by_cases h1 : i < n <;> by_cases h2 : i < 32
    · simp only [if_pos h1, if_pos h2]
      rw [dl h1, ml h2]
      have : ∀ y, Sn y ((1 - b i) * 2147483648) = Sn y (b i * 2147483648) ^^^ Sn y 2147483648 := by
        intro y
        rcases hb i with h0 | h0 <;> rw [h0]
        · rw [Nat.zero_mul, Sn_zero, Nat.zero_xor]
        · rw [Nat.one_mul, Nat.xor_self, Nat.sub_self, Nat.zero_mul, Sn_zero]
      rw [this, ← Nat.xor_assoc, x3 _ _ _ (Sn _ (b i * 2147483648)), x4]
    · simp only [if_pos h1, if_neg h2]
      rw [dl h1, mg h2, x3]
    · simp only [if_neg h1, if_pos h2]
      rw [dg h1, ml h2, Nat.sub_zero, Nat.one_mul, x4]
    · simp only [if_neg h1, if_neg h2]
      rw [dg h1, mg h2, Nat.zero_mul, Sn_zero, Nat.xor_zero]
theorem rr_is (b : Nat → Nat) (n : Nat) (hb : ∀ i, b i = 0 ∨ b i = 1) : rr (aug b n) (n + 32) = dd b ones n := by
  have h := rr_dd b n hb (n + 32) (Nat.le_refl _)
  rw [Nat.sub_self, Nat.min_eq_right (by omega), Nat.min_eq_right (by omega), show n - (n + 32) = 0 by omega, mm32] at h
  simp only [Sn] at h
  rw [h, Nat.xor_assoc]
  unfold ones
  rw [Nat.xor_self, Nat.xor_zero]
/-- Eight bits of one byte at once. -/
def bitOf (c j : Nat) : Nat := (c / 2 ^ j) % 2
theorem byte_bits : ∀ c : Fin 256, dd (bitOf c.val) 0 8 = Sn 8 c.val := by decide +kernel
theorem dd_lin (b : Nat → Nat) (x y : Nat) : ∀ i, dd b (x ^^^ y) i = Sn i x ^^^ dd b y i := by
  intro i
  induction i with
  | zero => rfl
  | succ i ih =>
    show S (dd b (x ^^^ y) i ^^^ b i) = Sn (i + 1) x ^^^ S (dd b y i ^^^ b i)
    rw [ih, Sn_succ, ← S_lin, Nat.xor_assoc]
theorem dd_byte (c x : Nat) (hc : c < 256) : dd (bitOf c) x 8 = Sn 8 (x ^^^ c) := by
  have h := dd_lin (bitOf c) x 0 8
  rw [Nat.xor_zero] at h
  rw [h, byte_bits ⟨c, hc⟩, Sn_lin]
theorem dd_shift (b : Nat → Nat) (x m : Nat) : ∀ i, dd b x (m + i) = dd (fun j => b (m + j)) (dd b x m) i := by
  intro i
  induction i with
  | zero => rfl
  | succ i ih =>
    show S (dd b x (m + i) ^^^ b (m + i)) = _
    rw [ih]
    rfl
theorem dd_congr (b b' : Nat → Nat) (x : Nat) : ∀ i, (∀ j, j < i → b j = b' j) → dd b x i = dd b' x i := by
  intro i
  induction i with
  | zero => intro _; rfl
  | succ i ih =>
    intro h
    show S (dd b x i ^^^ b i) = S (dd b' x i ^^^ b' i)
    rw [ih (fun j hj => h j (by omega)), h i (by omega)]
/-- Byte by byte. -/
def byteStep (r c : Nat) : Nat := Sn 8 (r ^^^ c)
def bits8 (l : List Nat) (i : Nat) : Nat := bitOf (l.getD (i / 8) 0) (i % 8)
theorem bits8_01 (l : List Nat) (i : Nat) : bits8 l i = 0 ∨ bits8 l i = 1 := Nat.mod_two_eq_zero_or_one _
theorem dd_bytes (l : List Nat) (hl : ∀ c ∈ l, c < 256) (x : Nat) : ∀ j, j ≤ l.length → dd (bits8 l) x (8 * j) = (l.take j).foldl byteStep x := by
  intro j
  induction j with
  | zero => intro _; rfl
  | succ j ih =>
    intro hj
    rw [show 8 * (j + 1) = 8 * j + 8 by omega, dd_shift, ih (by omega), List.take_succ_eq_append_getElem (by omega), List.foldl_append]
    show _ = byteStep _ l[j]
    rw [dd_congr _ (bitOf l[j]) _ 8]
    · exact dd_byte _ _ (hl _ (List.getElem_mem _))
    · intro i hi
      show bitOf (l.getD ((8 * j + i) / 8) 0) ((8 * j + i) % 8) = _
      rw [show (8 * j + i) / 8 = j by omega, show (8 * j + i) % 8 = i by omega]
      simp [List.getD_eq_getElem?_getD, show j < l.length by omega]
theorem Sn_lt (n : Nat) : ∀ {x : Nat}, x < 4294967296 → Sn n x < 4294967296 := by
  induction n with
  | zero => intro x h; exact h
  | succ n ih => intro x h; exact ih (S_lt h)
theorem byteStep_lt {r c : Nat} (hr : r < 4294967296) (hc : c < 256) : byteStep r c < 4294967296 := Sn_lt 8 (Nat.xor_lt_two_pow (n := 32) (by omega) (by omega))
theorem fold_lt (l : List Nat) (hl : ∀ c ∈ l, c < 256) : ∀ r, r < 4294967296 → l.foldl byteStep r < 4294967296 := by
  induction l with
  | nil => intro r h; exact h
  | cons c l ih => intro r h; exact ih (fun d hd => hl d (List.mem_cons_of_mem _ hd)) _ (byteStep_lt h (hl c List.mem_cons_self))
/-- The sum. -/
def crc (l : List Nat) : Nat := 4294967295 ^^^ l.foldl byteStep ones
theorem crc_lt (l : List Nat) (hl : ∀ c ∈ l, c < 256) : crc l < 4294967296 := Nat.xor_lt_two_pow (n := 32) (by omega) (fold_lt l hl _ (by decide))
theorem crc_rr (l : List Nat) (hl : ∀ c ∈ l, c < 256) : l.foldl byteStep ones = rr (aug (bits8 l) (8 * l.length)) (8 * l.length + 32) := by
  rw [rr_is _ _ (bits8_01 l), dd_bytes l hl _ _ (Nat.le_refl _), List.take_length]
/-! the other way about: the first coefficient the highest -/
def Mir (x y : Nat) : Prop := x < 4294967296 ∧ y < 4294967296 ∧ ∀ i, i < 32 → x.testBit i = y.testBit (31 - i)
def step (x b : Nat) : Nat := if 4294967296 ≤ 2 * x + b then (2 * x + b) ^^^ 4374732215 else 2 * x + b
theorem poly_bits : ∀ i : Fin 32, (4374732215 : Nat).testBit i.val = (3988292384 : Nat).testBit (31 - i.val) := by decide +kernel
theorem top_bit : ∀ i : Fin 31, (2147483648 : Nat).testBit i.val = false := by decide +kernel
theorem bit_of_ge {x : Nat} (h : x < 4294967296) : x.testBit 31 = decide (2147483648 ≤ x) := by
  rw [Nat.testBit_eq_decide_div_mod_eq]
  congr 1
  apply propext
  constructor
  · intro h1; omega
  · intro h1; omega
theorem twice_bit (x b i : Nat) (hb : b = 0 ∨ b = 1) : (2 * x + b).testBit (i + 1) = x.testBit i := by
  rw [Nat.testBit_succ]
  congr 1
  omega
theorem Mir.step {x y b : Nat} (h : Mir x y) (hb : b = 0 ∨ b = 1) : Mir (step x b) (S y ^^^ (b * 2147483648)) := by
  obtain ⟨hx, hy, hm⟩ := h
  have h31 : x.testBit 31 = y.testBit 0 := hm 31 (by omega)
  have hge : decide (2147483648 ≤ x) = decide (y % 2 = 1) := by rw [← bit_of_ge hx, h31, Nat.testBit_zero]
  have hiff : 2147483648 ≤ x ↔ y % 2 = 1 := by
    constructor
    · intro h; exact of_decide_eq_true (by rw [← hge]; exact decide_eq_true h)
    · intro h; exact of_decide_eq_true (by rw [hge]; exact decide_eq_true h)
  have hS : S y < 4294967296 := S_lt hy
  have hbl : b * 2147483648 < 4294967296 := by omega
  have hbb : ∀ i, i < 32 → (b * 2147483648).testBit (31 - i) = if i = 0 then decide (b = 1) else false := by
    intro i hi
    rcases hb with h0 | h0 <;> rw [h0]
    · simp
    · rw [Nat.one_mul]
      by_cases h : i = 0
      · subst h; decide
      · rw [if_neg h]; exact top_bit ⟨31 - i, by omega⟩
  have lo : ∀ i, i < 32 → (2 * x + b).testBit i = if i = 0 then decide (b = 1) else x.testBit (i - 1) := by
    intro i hi
    cases i with
    | zero => rw [if_pos rfl, Nat.testBit_zero]; congr 1; apply propext; omega
    | succ i => rw [if_neg (by omega), twice_bit _ _ _ hb]; rfl
  have hy2 : ∀ i, i < 32 → (y / 2).testBit (31 - i) = if i = 0 then false else x.testBit (i - 1) := by
    intro i hi
    rw [Nat.testBit_div_two]
    cases i with
    | zero => rw [if_pos rfl]; exact Nat.testBit_lt_two_pow (by omega)
    | succ i => rw [if_neg (by omega), Nat.add_sub_cancel, hm i (by omega), show 31 - (i + 1) + 1 = 31 - i by omega]
  refine ⟨?_, Nat.xor_lt_two_pow (n := 32) hS hbl, ?_⟩
  · unfold JournalPlain.step
    split
    · rename_i hg
      apply Nat.lt_pow_two_of_testBit (n := 32)
      intro i hi
      rw [Nat.testBit_xor]
      by_cases h32 : i = 32
      · subst h32
        rw [show (4374732215 : Nat).testBit 32 = true by decide +kernel, Nat.testBit_eq_decide_div_mod_eq]
        rw [show (2 * x + b) / 2 ^ 32 % 2 = 1 by omega]
        rfl
      · rw [Nat.testBit_lt_two_pow (x := 2 * x + b), Nat.testBit_lt_two_pow (x := 4374732215)]
        · rfl
        · exact Nat.lt_of_lt_of_le (by decide : 4374732215 < 2 ^ 33) (Nat.pow_le_pow_right (by decide) (by omega))
        · exact Nat.lt_of_lt_of_le (show 2 * x + b < 2 ^ 33 by omega) (Nat.pow_le_pow_right (by decide) (by omega))
    · omega
  · intro i hi
    rw [Nat.testBit_xor, hbb i hi]
    unfold JournalPlain.step S
    by_cases hg : 4294967296 ≤ 2 * x + b
    · rw [if_pos hg, if_pos (hiff.1 (by omega)), Nat.testBit_xor, Nat.testBit_xor, lo i hi, hy2 i hi]
      have hp : (4374732215 : Nat).testBit i = C.testBit (31 - i) := poly_bits ⟨i, hi⟩
      rw [hp]
      by_cases h0 : i = 0
      · subst h0; simp [Bool.xor_comm]
      · simp [h0]
    · rw [if_neg hg, if_neg (fun h => hg (by have := hiff.2 h; omega)), lo i hi, hy2 i hi]
      by_cases h0 : i = 0
      · subst h0; simp
      · simp [h0]
def divs (b : Nat → Nat) : Nat → Nat
  | 0 => 0
  | i + 1 => step (divs b i) (b i)
theorem mir_divs (b : Nat → Nat) (hb : ∀ i, b i = 0 ∨ b i = 1) : ∀ i, Mir (divs b i) (rr b i) := by
  intro i
  induction i with
  | zero => exact ⟨show (0 : Nat) < 4294967296 by decide, show (0 : Nat) < 4294967296 by decide, fun i _ => by simp [divs, rr]⟩
  | succ i ih => exact Mir.step ih (hb i)
/-- Turned bit by bit. -/
def turn (x : Nat) : Nat → Nat
  | 0 => 0
  | i + 1 => 2 * turn x i + (x / 2 ^ i) % 2
theorem turn_bit (x : Nat) : ∀ i j, (turn x i).testBit j = (decide (j < i) && x.testBit (i - 1 - j)) := by
  intro i
  induction i with
  | zero => intro j; simp [turn]
  | succ i ih =>
    intro j
    show (2 * turn x i + (x / 2 ^ i) % 2).testBit j = _
    cases j with
    | zero =>
      rw [Nat.testBit_zero, Nat.add_sub_cancel, Nat.sub_zero, Nat.testBit_eq_decide_div_mod_eq]
      simp
    | succ j =>
      rw [twice_bit _ _ _ (Nat.mod_two_eq_zero_or_one _), ih]
      congr 1
      · simp
      · congr 1; omega
theorem turn_mir {x y : Nat} (h : Mir x y) : turn x 32 = y := by
  apply Nat.eq_of_testBit_eq
  intro i
  rw [turn_bit]
  by_cases hi : i < 32
  · rw [h.2.2 (32 - 1 - i) (by omega)]
    simp [hi]
    congr 1
    omega
  · simp [hi]
    exact (Nat.testBit_lt_two_pow (Nat.lt_of_lt_of_le h.2.1 (show 2 ^ 32 ≤ 2 ^ i from Nat.pow_le_pow_right (by decide) (by omega))))
theorem turn_lt (x : Nat) : ∀ i, turn x i < 2 ^ i := by
  intro i
  induction i with
  | zero => simp [turn]
  | succ i ih =>
    show 2 * turn x i + (x / 2 ^ i) % 2 < 2 ^ (i + 1)
    rw [Nat.pow_succ]
    omega
theorem aug_01 (b : Nat → Nat) (n : Nat) (hb : ∀ i, b i = 0 ∨ b i = 1) (i : Nat) : aug b n i = 0 ∨ aug b n i = 1 := by
  unfold aug
  have := hb i
  dsimp only
  split <;> split <;> omega
theorem not_xor {x : Nat} (h : x < 4294967296) : 4294967295 - x = 4294967295 ^^^ x := by
  apply Nat.eq_of_testBit_eq
  intro i
  rw [Nat.testBit_xor]
  have h2 := Nat.testBit_two_pow_sub_succ (n := 32) (x := x) (by omega) i
  rw [show 2 ^ 32 - (x + 1) = 4294967295 - x by omega] at h2
  rw [h2]
  have h3 := Nat.testBit_two_pow_sub_one 32 i
  rw [show 2 ^ 32 - 1 = 4294967295 by decide] at h3
  rw [h3]
  by_cases hi : i < 32
  · simp [hi]
  · simp [hi]
    exact Nat.testBit_lt_two_pow (Nat.lt_of_lt_of_le h (show 2 ^ 32 ≤ 2 ^ i from Nat.pow_le_pow_right (by decide) (by omega)))
/-- The document's sum is the code's. -/
theorem crc_div (l : List Nat) (hl : ∀ c ∈ l, c < 256) : 4294967295 - turn (divs (aug (bits8 l) (8 * l.length)) (8 * l.length + 32)) 32 = crc l := by
  rw [turn_mir (mir_divs _ (aug_01 _ _ (bits8_01 l)) _), ← crc_rr l hl, not_xor (fold_lt l hl _ (by decide))]
  rfl
end Go.Proofs.JournalPlain
