/- The document's Size: how wide the model's decoder finds a character. No condition beside each theorem's own. -/
import Derived.Test.YtgfdinclnacpjaaF3
import Derived.Lib.TrimUEq
import Derived.Lib.DecodeN
import Derived.Lib.Hide
import Derived.Shelf.Unicode.DecodeSlow
namespace Go.Proofs.Ytgfdinclnacpjaa.F
open Go.RowKit Go.Lib Go.Proofs.YtgfdinclnacpjaaW.PrintWords
set_option linter.unusedVariables false
theorem lift_f {α : Type} {g : Nat → Option α} (hm : ∀ k, LeO (g k) (g (k + 1))) {n : Nat} {r : α} (h : g n = some r) : ∀ e, g (n + e) = some r
  | 0 => h
  | e + 1 => hm (n + e) r (lift_f hm h e)
def secN (b0 : Nat) : Int × Int × Int := if b0 < 128 then (0, 0, 1) else if 194 ≤ b0 ∧ b0 < 224 then (128, 191, 2) else if b0 = 224 then (160, 191, 3) else if b0 = 237 then (128, 159, 3) else if 225 ≤ b0 ∧ b0 < 240 then (128, 191, 3) else if b0 = 240 then (144, 191, 4) else if 241 ≤ b0 ∧ b0 < 244 then (128, 191, 4) else if b0 = 244 then (128, 143, 4) else (0, 0, 0)
theorem second_256 : ∀ b : Fin 256, gatehouseref02_second.f 3 ((b.val : Nat) : Int) = some (secN b.val) := by decide +kernel
theorem second_f (b : Nat) (hb : b < 256) (e : Nat) : gatehouseref02_second.f (3 + e) (b : Int) = some (secN b) :=
  lift_f (g := fun k => gatehouseref02_second.f k (b : Int)) (fun k => gatehouseref02_second.mono _ k) (second_256 ⟨b, hb⟩) e
theorem wr_add (a b : Nat) (h : a + b ≤ 1000000000) : wrap64 ((a : Int) + (b : Int)) = ((a + b : Nat) : Int) := by unfold wrap64; omega
theorem bt_of (s : ByteArray) (i : Nat) (h : i < s.size) : bt s i = ((s[i]'h).toNat : Int) := by
  unfold bt
  simp [h]
theorem bt_get (s : ByteArray) (i : Nat) (h : i < s.size) : bt s (i : Nat) = ((s.get! i).toNat : Int) := by
  rw [bt_of _ _ h, Utf8W.get!_of_lt s i h]
theorem l0s (k : Nat) (s : ByteArray) (pos n i lo hi : Nat) (hi2 : i < n) (hn : n ≤ 4) (hs : s.size ≤ 1048576) (hp : pos < s.size) :
    gatehouseref02_Size.l0 (k + 1) s (pos : Nat) (lo : Nat) (hi : Nat) (n : Nat) (i : Nat) = if pos + i < s.size ∧ lo ≤ (s.get! (pos + i)).toNat ∧ (s.get! (pos + i)).toNat ≤ hi then gatehouseref02_Size.l0 k s (pos : Nat) 128 191 (n : Nat) ((i + 1 : Nat) : Int) else some (1, false) := by
  have w1 := Lib.hid (wr_add pos i (by omega))
  have w2 := Lib.hid (wr_add i 1 (by omega))
  rw [gatehouseref02_Size.l0, if_pos (by omega), w1.out]
  unfold gatehouseref02_within.f
  by_cases c1 : pos + i < s.size
  · rw [if_pos (show ((pos + i : Nat) : Int) < (s.size : Int) by omega), if_pos (show (0 : Int) ≤ ((pos + i : Nat) : Int) by omega), bt_get s (pos + i) c1]
    obtain ⟨b, hb⟩ : ∃ b, b = (s.get! (pos + i)).toNat := ⟨_, rfl⟩
    rw [← hb]
    by_cases c2 : lo ≤ b
    · rw [if_pos (show (b : Int) ≥ (lo : Int) by omega)]
      by_cases c3 : b ≤ hi
      · rw [if_pos ⟨c1, c2, c3⟩, decide_eq_true (show (b : Int) ≤ (hi : Int) by omega)]
        show gatehouseref02_Size.l0 k s (pos : Nat) 128 191 (n : Nat) (wrap64 ((i : Int) + ((1 : Nat) : Int))) = _
        rw [w2.out]
      · rw [if_neg (show ¬ (pos + i < s.size ∧ lo ≤ b ∧ b ≤ hi) from fun h => c3 h.2.2), decide_eq_false (show ¬ (b : Int) ≤ (hi : Int) by omega)]
        rfl
    · rw [if_neg (show ¬ (b : Int) ≥ (lo : Int) by omega), if_neg (fun h => c2 h.2.1)]
      rfl
  · rw [if_neg (show ¬ ((pos + i : Nat) : Int) < (s.size : Int) by omega), if_neg (fun h => c1 h.1)]
    rfl
theorem l0e (k : Nat) (s : ByteArray) (pos n lo hi : Int) : gatehouseref02_Size.l0 (k + 1) s pos lo hi n n = some (n, true) := by
  rw [gatehouseref02_Size.l0, if_neg (by omega)]
theorem size_w (s : ByteArray) (pos : Nat) (h : pos < s.size) (hs : s.size ≤ 1048576) (e : Nat) : ∃ b, gatehouseref02_Size.f (5 + e) s (pos : Nat) = some (((Utf8.decode s pos).2 : Int), b) := by
  have hlt : ∀ i, (s.get! i).toNat < 256 := fun i => UInt8.toNat_lt _
  unfold gatehouseref02_Size.f
  rw [if_pos (by omega), if_pos (by omega), bt_get s pos h, decode_at]
  obtain ⟨b0, h0⟩ : ∃ b, b = (s.get! pos).toNat := ⟨_, rfl⟩
  obtain ⟨b1, h1⟩ : ∃ b, b = (s.get! (pos + 1)).toNat := ⟨_, rfl⟩
  obtain ⟨b2, h2⟩ : ∃ b, b = (s.get! (pos + 2)).toNat := ⟨_, rfl⟩
  obtain ⟨b3, h3⟩ : ∃ b, b = (s.get! (pos + 3)).toNat := ⟨_, rfl⟩
  have l0 : b0 < 256 := h0 ▸ hlt _
  have l1 : b1 < 256 := h1 ▸ hlt _
  have l2 : b2 < 256 := h2 ▸ hlt _
  have l3 : b3 < 256 := h3 ▸ hlt _
  have s1 := fun k n lo hi (hn : 1 < n) (hn4 : n ≤ 4) => l0s k s pos n 1 lo hi hn hn4 hs h
  have s2 := fun k n lo hi (hn : 2 < n) (hn4 : n ≤ 4) => l0s k s pos n 2 lo hi hn hn4 hs h
  have s3 := fun k n lo hi (hn : 3 < n) (hn4 : n ≤ 4) => l0s k s pos n 3 lo hi hn hn4 hs h
  rw [← h1] at s1
  rw [← h2] at s2
  rw [← h3] at s3
  rw [← h0, ← h1, ← h2, ← h3]
  have hsec := second_f b0 l0 (2 + e)
  rw [show 3 + (2 + e) = 5 + e by omega] at hsec
  rw [hsec]
  show ∃ b, (if (secN b0).2.2 = 0 then some (1, false) else gatehouseref02_Size.l0 (5 + e) s (pos : Nat) (secN b0).1 (secN b0).2.1 (secN b0).2.2 1) = _
  rw [show 5 + e = e + 4 + 1 by omega]
  clear h0 h1 h2 h3 hlt hsec
  have two : ∀ lo hi : Nat, slowN (s.size - pos) b0 b1 b2 b3 2 lo hi = decodeN (s.size - pos) b0 b1 b2 b3 → ∃ b, gatehouseref02_Size.l0 (e + 4 + 1) s (pos : Nat) (lo : Nat) (hi : Nat) 2 1 = some (((decodeN (s.size - pos) b0 b1 b2 b3).2 : Int), b) := by
    intro lo hi hsl
    rw [← hsl]
    refine Exists.imp (fun b hb => (s1 (e + 4) 2 lo hi (by decide) (by decide)).trans hb) ?_
    unfold slowN
    by_cases c : pos + 1 < s.size ∧ lo ≤ b1 ∧ b1 ≤ hi
    · rw [if_pos c, if_neg (by omega), if_neg (by omega), if_pos (by decide)]
      exact ⟨true, l0e (e + 3) s pos 2 128 191⟩
    · rw [if_neg c]
      by_cases c2 : s.size - pos < 2
      · rw [if_pos c2]; exact ⟨false, rfl⟩
      · rw [if_neg c2, if_pos (by omega)]; exact ⟨false, rfl⟩
  have three : ∀ lo hi : Nat, slowN (s.size - pos) b0 b1 b2 b3 3 lo hi = decodeN (s.size - pos) b0 b1 b2 b3 → ∃ b, gatehouseref02_Size.l0 (e + 4 + 1) s (pos : Nat) (lo : Nat) (hi : Nat) 3 1 = some (((decodeN (s.size - pos) b0 b1 b2 b3).2 : Int), b) := by
    intro lo hi hsl
    rw [← hsl]
    refine Exists.imp (fun b hb => (s1 (e + 4) 3 lo hi (by decide) (by decide)).trans hb) ?_
    unfold slowN
    by_cases c : pos + 1 < s.size ∧ lo ≤ b1 ∧ b1 ≤ hi
    · rw [if_pos c]
      refine Exists.imp (fun b hb => (s2 (e + 3) 3 128 191 (by decide) (by decide)).trans hb) ?_
      by_cases d : pos + 2 < s.size ∧ 128 ≤ b2 ∧ b2 ≤ 191
      · rw [if_pos d, if_neg (by omega), if_neg (by omega), if_neg (by decide), if_neg (by omega), if_pos (by decide)]
        exact ⟨true, l0e (e + 2) s pos 3 128 191⟩
      · rw [if_neg d]
        by_cases c2 : s.size - pos < 3
        · rw [if_pos c2]; exact ⟨false, rfl⟩
        · rw [if_neg c2, if_neg (by omega), if_neg (by decide), if_pos (by omega)]; exact ⟨false, rfl⟩
    · rw [if_neg c]
      by_cases c2 : s.size - pos < 3
      · rw [if_pos c2]; exact ⟨false, rfl⟩
      · rw [if_neg c2, if_pos (by omega)]; exact ⟨false, rfl⟩
  have four : ∀ lo hi : Nat, slowN (s.size - pos) b0 b1 b2 b3 4 lo hi = decodeN (s.size - pos) b0 b1 b2 b3 → ∃ b, gatehouseref02_Size.l0 (e + 4 + 1) s (pos : Nat) (lo : Nat) (hi : Nat) 4 1 = some (((decodeN (s.size - pos) b0 b1 b2 b3).2 : Int), b) := by
    intro lo hi hsl
    rw [← hsl]
    refine Exists.imp (fun b hb => (s1 (e + 4) 4 lo hi (by decide) (by decide)).trans hb) ?_
    unfold slowN
    by_cases c : pos + 1 < s.size ∧ lo ≤ b1 ∧ b1 ≤ hi
    · rw [if_pos c]
      refine Exists.imp (fun b hb => (s2 (e + 3) 4 128 191 (by decide) (by decide)).trans hb) ?_
      by_cases d : pos + 2 < s.size ∧ 128 ≤ b2 ∧ b2 ≤ 191
      · rw [if_pos d]
        refine Exists.imp (fun b hb => (s3 (e + 2) 4 128 191 (by decide) (by decide)).trans hb) ?_
        by_cases d3 : pos + 3 < s.size ∧ 128 ≤ b3 ∧ b3 ≤ 191
        · rw [if_pos d3, if_neg (by omega), if_neg (by omega), if_neg (by decide), if_neg (by omega), if_neg (by decide), if_neg (by omega)]
          exact ⟨true, l0e (e + 1) s pos 4 128 191⟩
        · rw [if_neg d3]
          by_cases c2 : s.size - pos < 4
          · rw [if_pos c2]; exact ⟨false, rfl⟩
          · rw [if_neg c2, if_neg (by omega), if_neg (by decide), if_neg (by omega), if_neg (by decide), if_pos (by omega)]; exact ⟨false, rfl⟩
      · rw [if_neg d]
        by_cases c2 : s.size - pos < 4
        · rw [if_pos c2]; exact ⟨false, rfl⟩
        · rw [if_neg c2, if_neg (by omega), if_neg (by decide), if_pos (by omega)]; exact ⟨false, rfl⟩
    · rw [if_neg c]
      by_cases c2 : s.size - pos < 4
      · rw [if_pos c2]; exact ⟨false, rfl⟩
      · rw [if_neg c2, if_pos (by omega)]; exact ⟨false, rfl⟩
  clear s1 s2 s3
  unfold secN
  by_cases c0 : b0 < 128
  · rw [if_pos c0, if_neg (by decide)]
    have : decodeN (s.size - pos) b0 b1 b2 b3 = (b0, 1) := by unfold decodeN; rw [if_pos c0]
    rw [this]
    exact ⟨true, l0e (e + 4) s pos 1 0 0⟩
  rw [if_neg c0]
  by_cases c1 : 194 ≤ b0 ∧ b0 < 224
  · rw [if_pos c1, if_neg (by decide)]
    exact two 128 191 (slow_C2 _ _ _ _ _ (by omega) l1 l2 l3 c1)
  rw [if_neg c1]
  by_cases c2 : b0 = 224
  · rw [if_pos c2, if_neg (by decide)]
    exact three 160 191 (slow_E0 _ _ _ _ _ (by omega) l1 l2 l3 c2)
  rw [if_neg c2]
  by_cases c3 : b0 = 237
  · rw [if_pos c3, if_neg (by decide)]
    exact three 128 159 (slow_ED _ _ _ _ _ (by omega) l1 l2 l3 c3)
  rw [if_neg c3]
  by_cases c4 : 225 ≤ b0 ∧ b0 < 240
  · rw [if_pos c4, if_neg (by decide)]
    exact three 128 191 (slow_E1 _ _ _ _ _ (by omega) l1 l2 l3 (by omega))
  rw [if_neg c4]
  by_cases c5 : b0 = 240
  · rw [if_pos c5, if_neg (by decide)]
    exact four 144 191 (slow_F0 _ _ _ _ _ (by omega) l1 l2 l3 c5)
  rw [if_neg c5]
  by_cases c6 : 241 ≤ b0 ∧ b0 < 244
  · rw [if_pos c6, if_neg (by decide)]
    exact four 128 191 (slow_F1 _ _ _ _ _ (by omega) l1 l2 l3 c6)
  rw [if_neg c6]
  by_cases c7 : b0 = 244
  · rw [if_pos c7, if_neg (by decide)]
    exact four 128 143 (slow_F4 _ _ _ _ _ (by omega) l1 l2 l3 c7)
  rw [if_neg c7, if_pos rfl]
  have : decodeN (s.size - pos) b0 b1 b2 b3 = (65533, 1) := by
    have hv : ∀ v : Nat, b0 / 32 = 6 → ¬ (v ≥ 128) ∨ False ∨ v ≥ 0 := fun v _ => .inr (.inr (by omega))
    unfold decodeN
    rw [if_neg c0]
    by_cases d1 : b0 / 32 = 6 ∧ 1 < s.size - pos ∧ b1 / 64 = 2
    · rw [if_pos d1, if_neg (by omega)]
    · rw [if_neg d1, if_neg (by omega)]
      by_cases d2 : b0 / 8 = 30 ∧ (1 < s.size - pos ∧ b1 / 64 = 2) ∧ (2 < s.size - pos ∧ b2 / 64 = 2) ∧ (3 < s.size - pos ∧ b3 / 64 = 2)
      · rw [if_pos d2, if_neg (by omega)]
      · rw [if_neg d2]
  rw [this]
  exact ⟨false, rfl⟩
end Go.Proofs.Ytgfdinclnacpjaa.F
