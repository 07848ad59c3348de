/- The document's Char and the model's decoder: one. No condition beside each theorem's own. -/
import Derived.Test.YtaeijlkogenblaaDoorAp
import Derived.Shelf.Unicode.DecodeSlow
import Derived.Lib.TrimUEq
import Derived.Lib.DecodeN
namespace Go.Proofs.YtaeijlkogenblaaDoor.F
open Go.RowKit Go.Lib Go.Proofs.YtaeijlkogenblaaDoorW.PrintWords
set_option linter.unusedVariables false
/-- What Char answers: the decoder's rune and width, or twice nothing. -/
def charN (d : Nat × Nat) : Int × Int := if d.1 = 65533 ∧ d.2 = 1 then (0, 0) else ((d.1 : Int), (d.2 : Int))
/-- The last test of Char. -/
def charEnd (v least n : Nat) : Int × Int := if v < least then (0, 0) else if 1114111 < v then (0, 0) else if 55296 ≤ v then (if v ≤ 57343 then (0, 0) else ((v : Int), (n : Int))) else ((v : Int), (n : Int))
theorem l0_end (k : Nat) (s : ByteArray) (pos n v least : Nat) : gatehouseref01_Char.l0 (k + 1) s (pos : Nat) (n : Nat) (v : Nat) (least : Nat) (n : Nat) = some (charEnd v least n) := by
  simp only [gatehouseref01_Char.l0]
  rw [if_neg (by omega)]
  unfold charEnd
  by_cases c1 : v < least
  · rw [if_pos c1, if_pos (by omega)]
  · rw [if_neg c1, if_neg (by omega)]
    by_cases c2 : 1114111 < v
    · rw [if_pos c2, if_pos (by omega)]
    · rw [if_neg c2, if_neg (by omega)]
      by_cases c3 : 55296 ≤ v
      · rw [if_pos c3, if_pos (by omega)]
        by_cases c4 : v ≤ 57343
        · rw [if_pos c4, if_pos (by omega)]
        · rw [if_neg c4, if_neg (by omega)]
      · rw [if_neg c3, if_neg (by omega)]
theorem wr_add (a b : Nat) (h : a + b ≤ 1000000000) : wrap64 ((a : Int) + (b : Int)) = ((a + b : Nat) : Int) := by unfold wrap64; omega
theorem wr_val (v c : Nat) (hv : v ≤ 10000000) (hc : c < 256) (h1 : 128 ≤ c) : wrap64 ((wrap64 ((wrap64 (64 * (v : Int))) + (wrap64 (c : Int)))) - 128) = ((64 * v + (c - 128) : Nat) : Int) := by unfold wrap64; omega
theorem wr_id (c : Nat) (h : c ≤ 1000000000) : wrap64 (c : Int) = (c : Int) := by unfold wrap64; omega
theorem l0_step (k : Nat) (s : ByteArray) (pos n v least i : Nat) (hi : i < n) (hn : n ≤ 4) (hp : pos + i < s.size) (hs : s.size ≤ 32) (hv : v ≤ 10000000) (c : Nat) (hc : bt s ((pos + i : Nat) : Int) = (c : Int)) (hc2 : c < 256) :
    gatehouseref01_Char.l0 (k + 1) s (pos : Nat) (n : Nat) (v : Nat) (least : Nat) (i : Nat) = if c < 128 then some (0, 0) else if 191 < c then some (0, 0) else gatehouseref01_Char.l0 k s (pos : Nat) (n : Nat) ((64 * v + (c - 128) : Nat) : Int) (least : Nat) ((i + 1 : Nat) : Int) := by
  simp only [gatehouseref01_Char.l0]
  rw [if_pos (by omega), wr_add pos i (by omega), if_pos (by omega), if_pos (by omega), hc, wr_id c (by omega)]
  by_cases c1 : c < 128
  · rw [if_pos c1, if_pos (by omega)]
  · rw [if_neg c1, if_neg (by omega)]
    by_cases c2 : 191 < c
    · rw [if_pos c2, if_pos (by omega)]
    · rw [if_neg c2, if_neg (by omega)]
      have e := wr_val v c hv hc2 (by omega)
      rw [wr_id c (by omega)] at e
      rw [e, show ((i : Nat) : Int) + 1 = ((i : Nat) : Int) + ((1 : Nat) : Int) from rfl, wr_add i 1 (by omega)]
theorem wr_sub (a b : Nat) (h : b ≤ a) (ha : a ≤ 1000000000) : wrap64 ((a : Int) - (b : Int)) = ((a - b : Nat) : Int) := by unfold wrap64; omega
theorem j4_f (k : Nat) (s : ByteArray) (pos left n v least : Nat) : gatehouseref01_Char.j4 (k + 1) s (pos : Nat) (left : Nat) (n : Nat) (v : Nat) (least : Nat) = if left < n then some (0, 0) else gatehouseref01_Char.l0 k s (pos : Nat) (n : Nat) (v : Nat) (least : Nat) 1 := by
  simp only [gatehouseref01_Char.j4]
  by_cases c : left < n
  · rw [if_pos c, if_pos (by omega)]
  · rw [if_neg c, if_neg (by omega)]
/-- The chain of Char's cases. -/
theorem char_chain (k : Nat) (s : ByteArray) (pos b0 : Nat) (h : pos < s.size) (hs : s.size ≤ 32) (hb : bt s (pos : Int) = (b0 : Int)) (hb2 : b0 < 256) :
    gatehouseref01_Char.f (k + 12) s (pos : Nat) = if 248 ≤ b0 then some (0, 0) else if 240 ≤ b0 then gatehouseref01_Char.j4 (k + 10) s (pos : Nat) ((s.size - pos : Nat) : Int) ((4 : Nat) : Int) ((b0 - 240 : Nat) : Int) ((65536 : Nat) : Int)
      else if 224 ≤ b0 then gatehouseref01_Char.j4 (k + 9) s (pos : Nat) ((s.size - pos : Nat) : Int) ((3 : Nat) : Int) ((b0 - 224 : Nat) : Int) ((2048 : Nat) : Int)
      else if 192 ≤ b0 then gatehouseref01_Char.j4 (k + 8) s (pos : Nat) ((s.size - pos : Nat) : Int) ((2 : Nat) : Int) ((b0 - 192 : Nat) : Int) ((128 : Nat) : Int)
      else if 128 ≤ b0 then some (0, 0) else gatehouseref01_Char.j4 (k + 8) s (pos : Nat) ((s.size - pos : Nat) : Int) ((1 : Nat) : Int) ((b0 : Nat) : Int) ((0 : Nat) : Int) := by
  have w0 := Lib.hid (wr_id b0 (by omega))
  have w1 := Lib.hid (wr_sub s.size pos (by omega) (by omega))
  have w2 := Lib.hid (fun (a : Nat) (h : a ≤ b0) => wr_sub b0 a h (by omega))
  unfold gatehouseref01_Char.f
  rw [if_neg (by omega), w1.out, decide_eq_false (by omega)]
  rw [gatehouseref01_Char.j0, if_neg (by decide), if_pos (by omega), if_pos (by omega), hb, w0.out]
  by_cases c240 : 240 ≤ b0
  · rw [if_pos (by omega), gatehouseref01_Char.j1]
    by_cases c248 : 248 ≤ b0
    · rw [if_pos c248, decide_eq_false (by omega), if_neg (by decide), if_pos (by omega), decide_eq_false (by omega), gatehouseref01_Char.j2, if_neg (by decide), if_pos (by omega), decide_eq_false (by omega), gatehouseref01_Char.j3, if_neg (by decide), if_pos (by omega)]
    · rw [if_neg c248, if_pos c240, decide_eq_true (by omega), if_pos rfl]
      exact congrArg (fun z => gatehouseref01_Char.j4 (k + 10) s (pos : Nat) ((s.size - pos : Nat) : Int) 4 z 65536) (w2.out 240 c240)
  · rw [if_neg (show ¬ 248 ≤ b0 by omega), if_neg c240, if_neg (by omega), gatehouseref01_Char.j1, if_neg (by decide)]
    by_cases c224 : 224 ≤ b0
    · rw [if_pos c224, if_pos (by omega), decide_eq_true (by omega), gatehouseref01_Char.j2, if_pos rfl]
      exact congrArg (fun z => gatehouseref01_Char.j4 (k + 9) s (pos : Nat) ((s.size - pos : Nat) : Int) 3 z 2048) (w2.out 224 c224)
    · rw [if_neg c224, if_neg (by omega), gatehouseref01_Char.j2, if_neg (by decide)]
      by_cases c192 : 192 ≤ b0
      · rw [if_pos c192, if_pos (by omega), decide_eq_true (by omega), gatehouseref01_Char.j3, if_pos rfl]
        exact congrArg (fun z => gatehouseref01_Char.j4 (k + 8) s (pos : Nat) ((s.size - pos : Nat) : Int) 2 z 128) (w2.out 192 c192)
      · rw [if_neg c192, if_neg (by omega), gatehouseref01_Char.j3, if_neg (by decide)]
        by_cases c128 : 128 ≤ b0
        · rw [if_pos c128, if_pos (by omega)]
        · rw [if_neg c128, if_neg (by omega)]
          rfl
theorem end_char (v least n : Nat) (hn : n ≠ 1) : charEnd v least n = charN (if v ≥ least ∧ (v < 55296 ∨ (57344 ≤ v ∧ v ≤ 1114111)) then (v, n) else (65533, 1)) := by
  unfold charEnd
  by_cases c1 : v < least
  · rw [if_pos c1, if_neg (by omega)]
    rfl
  · rw [if_neg c1]
    by_cases c2 : 1114111 < v
    · rw [if_pos c2, if_neg (by omega)]
      rfl
    · rw [if_neg c2]
      by_cases c3 : 55296 ≤ v
      · rw [if_pos c3]
        by_cases c4 : v ≤ 57343
        · rw [if_pos c4, if_neg (by omega)]
          rfl
        · rw [if_neg c4, if_pos (by omega)]
          unfold charN
          rw [if_neg (by rintro ⟨_, h⟩; exact hn h)]
      · rw [if_neg c3, if_pos (by omega)]
        unfold charN
        rw [if_neg (by rintro ⟨_, h⟩; exact hn h)]
set_option maxHeartbeats 1000000 in
set_option maxRecDepth 10000 in
theorem char_f (k : Nat) (s : ByteArray) (pos : Nat) (h : pos < s.size) (hs : s.size ≤ 32) : gatehouseref01_Char.f (k + 12) s (pos : Nat) = some (charN (Utf8.decode s pos)) := by
  have hb : ∀ i, pos + i < s.size → bt s ((pos + i : Nat) : Int) = ((s.get! (pos + i)).toNat : Int) := by
    intro i hi
    rw [bt_of _ _ hi, Utf8W.get!_of_lt s (pos + i) hi]
  have hlt : ∀ i, (s.get! i).toNat < 256 := fun i => UInt8.toNat_lt _
  rw [decode_at]
  obtain ⟨b0, h0⟩ : ∃ b, b = (s.get! pos).toNat := ⟨_, rfl⟩
  obtain ⟨b1, h1⟩ : ∃ b, b = (s.get! (pos + 1)).toNat := ⟨_, rfl⟩
  obtain ⟨b2, h2⟩ : ∃ b, b = (s.get! (pos + 2)).toNat := ⟨_, rfl⟩
  obtain ⟨b3, h3⟩ : ∃ b, b = (s.get! (pos + 3)).toNat := ⟨_, rfl⟩
  have l0 : b0 < 256 := h0 ▸ hlt _
  have l1 : b1 < 256 := h1 ▸ hlt _
  have l2 : b2 < 256 := h2 ▸ hlt _
  have l3 : b3 < 256 := h3 ▸ hlt _
  have e0 : bt s (pos : Int) = (b0 : Int) := by rw [h0]; exact hb 0 h
  have e1 : pos + 1 < s.size → bt s ((pos + 1 : Nat) : Int) = (b1 : Int) := fun hh => by rw [h1]; exact hb 1 hh
  have e2 : pos + 2 < s.size → bt s ((pos + 2 : Nat) : Int) = (b2 : Int) := fun hh => by rw [h2]; exact hb 2 hh
  have e3 : pos + 3 < s.size → bt s ((pos + 3 : Nat) : Int) = (b3 : Int) := fun hh => by rw [h3]; exact hb 3 hh
  rw [← h0, ← h1, ← h2, ← h3, char_chain k s pos b0 h hs e0 l0]
  clear h0 h1 h2 h3 hb hlt e0
  by_cases c248 : 248 ≤ b0
  · rw [if_pos c248]
    have : decodeN (s.size - pos) b0 b1 b2 b3 = (65533, 1) := by
      unfold decodeN
      rw [if_neg (by omega), if_neg (by omega), if_neg (by omega), if_neg (by omega)]
    rw [this]
    rfl
  rw [if_neg c248]
  by_cases c240 : 240 ≤ b0
  · rw [if_pos c240, j4_f]
    by_cases cl : s.size - pos < 4
    · rw [if_pos cl]
      have : decodeN (s.size - pos) b0 b1 b2 b3 = (65533, 1) := by
        unfold decodeN
        rw [if_neg (by omega), if_neg (by omega), if_neg (by omega), if_neg (by omega)]
      rw [this]
      rfl
    · rw [if_neg cl]
      have st := l0_step (k + 8) s pos 4 (b0 - 240) 65536 1 (by omega) (by omega) (by omega) hs (by omega) b1 (e1 (by omega)) l1
      refine Eq.trans st ?_
      by_cases d1 : b1 < 128
      · rw [if_pos d1]
        have : decodeN (s.size - pos) b0 b1 b2 b3 = (65533, 1) := by
          unfold decodeN
          rw [if_neg (by omega), if_neg (by omega), if_neg (by omega), if_neg (by omega)]
        rw [this]
        rfl
      rw [if_neg d1]
      by_cases d2 : 191 < b1
      · rw [if_pos d2]
        have : decodeN (s.size - pos) b0 b1 b2 b3 = (65533, 1) := by
          unfold decodeN
          rw [if_neg (by omega), if_neg (by omega), if_neg (by omega), if_neg (by omega)]
        rw [this]
        rfl
      rw [if_neg d2]
      have st2 := l0_step (k + 7) s pos 4 (64 * (b0 - 240) + (b1 - 128)) 65536 2 (by omega) (by omega) (by omega) hs (by omega) b2 (e2 (by omega)) l2
      refine Eq.trans st2 ?_
      by_cases d3 : b2 < 128
      · rw [if_pos d3]
        have : decodeN (s.size - pos) b0 b1 b2 b3 = (65533, 1) := by
          unfold decodeN
          rw [if_neg (by omega), if_neg (by omega), if_neg (by omega), if_neg (by omega)]
        rw [this]
        rfl
      rw [if_neg d3]
      by_cases d4 : 191 < b2
      · rw [if_pos d4]
        have : decodeN (s.size - pos) b0 b1 b2 b3 = (65533, 1) := by
          unfold decodeN
          rw [if_neg (by omega), if_neg (by omega), if_neg (by omega), if_neg (by omega)]
        rw [this]
        rfl
      rw [if_neg d4]
      have st3 := l0_step (k + 6) s pos 4 (64 * (64 * (b0 - 240) + (b1 - 128)) + (b2 - 128)) 65536 3 (by omega) (by omega) (by omega) hs (by omega) b3 (e3 (by omega)) l3
      refine Eq.trans st3 ?_
      by_cases d5 : b3 < 128
      · rw [if_pos d5]
        have : decodeN (s.size - pos) b0 b1 b2 b3 = (65533, 1) := by
          unfold decodeN
          rw [if_neg (by omega), if_neg (by omega), if_neg (by omega), if_neg (by omega)]
        rw [this]
        rfl
      rw [if_neg d5]
      by_cases d6 : 191 < b3
      · rw [if_pos d6]
        have : decodeN (s.size - pos) b0 b1 b2 b3 = (65533, 1) := by
          unfold decodeN
          rw [if_neg (by omega), if_neg (by omega), if_neg (by omega), if_neg (by omega)]
        rw [this]
        rfl
      rw [if_neg d6]
      refine Eq.trans (l0_end (k + 5) s pos 4 (64 * (64 * (64 * (b0 - 240) + (b1 - 128)) + (b2 - 128)) + (b3 - 128)) 65536) ?_
      congr 1
      rw [end_char _ _ _ (by decide)]
      have ev : 64 * (64 * (64 * (b0 - 240) + (b1 - 128)) + (b2 - 128)) + (b3 - 128) = b0 % 8 * 262144 + b1 % 64 * 4096 + b2 % 64 * 64 + b3 % 64 := by omega
      rw [ev]
      unfold decodeN
      rw [if_neg (show ¬ b0 < 128 by omega), if_neg (show ¬ (b0 / 32 = 6 ∧ 1 < s.size - pos ∧ b1 / 64 = 2) by omega), if_neg (show ¬ (b0 / 16 = 14 ∧ (1 < s.size - pos ∧ b1 / 64 = 2) ∧ (2 < s.size - pos ∧ b2 / 64 = 2)) by omega), if_pos (show b0 / 8 = 30 ∧ (1 < s.size - pos ∧ b1 / 64 = 2) ∧ (2 < s.size - pos ∧ b2 / 64 = 2) ∧ (3 < s.size - pos ∧ b3 / 64 = 2) by omega)]
  rw [if_neg c240]
  by_cases c224 : 224 ≤ b0
  · rw [if_pos c224, j4_f]
    by_cases cl : s.size - pos < 3
    · rw [if_pos cl]
      have : decodeN (s.size - pos) b0 b1 b2 b3 = (65533, 1) := by
        unfold decodeN
        rw [if_neg (by omega), if_neg (by omega), if_neg (by omega), if_neg (by omega)]
      rw [this]
      rfl
    · rw [if_neg cl]
      have st := l0_step (k + 7) s pos 3 (b0 - 224) 2048 1 (by omega) (by omega) (by omega) hs (by omega) b1 (e1 (by omega)) l1
      refine Eq.trans st ?_
      by_cases d1 : b1 < 128
      · rw [if_pos d1]
        have : decodeN (s.size - pos) b0 b1 b2 b3 = (65533, 1) := by
          unfold decodeN
          rw [if_neg (by omega), if_neg (by omega), if_neg (by omega), if_neg (by omega)]
        rw [this]
        rfl
      rw [if_neg d1]
      by_cases d2 : 191 < b1
      · rw [if_pos d2]
        have : decodeN (s.size - pos) b0 b1 b2 b3 = (65533, 1) := by
          unfold decodeN
          rw [if_neg (by omega), if_neg (by omega), if_neg (by omega), if_neg (by omega)]
        rw [this]
        rfl
      rw [if_neg d2]
      have st2 := l0_step (k + 6) s pos 3 (64 * (b0 - 224) + (b1 - 128)) 2048 2 (by omega) (by omega) (by omega) hs (by omega) b2 (e2 (by omega)) l2
      refine Eq.trans st2 ?_
      by_cases d3 : b2 < 128
      · rw [if_pos d3]
        have : decodeN (s.size - pos) b0 b1 b2 b3 = (65533, 1) := by
          unfold decodeN
          rw [if_neg (by omega), if_neg (by omega), if_neg (by omega), if_neg (by omega)]
        rw [this]
        rfl
      rw [if_neg d3]
      by_cases d4 : 191 < b2
      · rw [if_pos d4]
        have : decodeN (s.size - pos) b0 b1 b2 b3 = (65533, 1) := by
          unfold decodeN
          rw [if_neg (by omega), if_neg (by omega), if_neg (by omega), if_neg (by omega)]
        rw [this]
        rfl
      rw [if_neg d4]
      refine Eq.trans (l0_end (k + 5) s pos 3 (64 * (64 * (b0 - 224) + (b1 - 128)) + (b2 - 128)) 2048) ?_
      congr 1
      rw [end_char _ _ _ (by decide)]
      have ev : 64 * (64 * (b0 - 224) + (b1 - 128)) + (b2 - 128) = b0 % 16 * 4096 + b1 % 64 * 64 + b2 % 64 := by omega
      rw [ev]
      unfold decodeN
      rw [if_neg (show ¬ b0 < 128 by omega), if_neg (show ¬ (b0 / 32 = 6 ∧ 1 < s.size - pos ∧ b1 / 64 = 2) by omega), if_pos (show b0 / 16 = 14 ∧ (1 < s.size - pos ∧ b1 / 64 = 2) ∧ (2 < s.size - pos ∧ b2 / 64 = 2) by omega)]
  rw [if_neg c224]
  by_cases c192 : 192 ≤ b0
  · rw [if_pos c192, j4_f]
    by_cases cl : s.size - pos < 2
    · rw [if_pos cl]
      have : decodeN (s.size - pos) b0 b1 b2 b3 = (65533, 1) := by
        unfold decodeN
        rw [if_neg (by omega), if_neg (by omega), if_neg (by omega), if_neg (by omega)]
      rw [this]
      rfl
    · rw [if_neg cl]
      have st := l0_step (k + 6) s pos 2 (b0 - 192) 128 1 (by omega) (by omega) (by omega) hs (by omega) b1 (e1 (by omega)) l1
      refine Eq.trans st ?_
      have en := l0_end (k + 5) s pos 2 (64 * (b0 - 192) + (b1 - 128)) 128
      by_cases d1 : b1 < 128
      · rw [if_pos d1]
        have : decodeN (s.size - pos) b0 b1 b2 b3 = (65533, 1) := by
          unfold decodeN
          rw [if_neg (by omega), if_neg (by omega), if_neg (by omega), if_neg (by omega)]
        rw [this]
        rfl
      · rw [if_neg d1]
        by_cases d2 : 191 < b1
        · rw [if_pos d2]
          have : decodeN (s.size - pos) b0 b1 b2 b3 = (65533, 1) := by
            unfold decodeN
            rw [if_neg (by omega), if_neg (by omega), if_neg (by omega), if_neg (by omega)]
          rw [this]
          rfl
        · rw [if_neg d2]
          refine Eq.trans en ?_
          congr 1
          have ev : 64 * (b0 - 192) + (b1 - 128) = b0 % 32 * 64 + b1 % 64 := by omega
          have dd : decodeN (s.size - pos) b0 b1 b2 b3 = if b0 % 32 * 64 + b1 % 64 ≥ 128 then (b0 % 32 * 64 + b1 % 64, 2) else (65533, 1) := by
            unfold decodeN
            rw [if_neg (show ¬ b0 < 128 by omega), if_pos (show b0 / 32 = 6 ∧ 1 < s.size - pos ∧ b1 / 64 = 2 by omega)]
          obtain ⟨v, hv⟩ : ∃ v, v = b0 % 32 * 64 + b1 % 64 := ⟨_, rfl⟩
          have hv2 : v < 2048 := by omega
          rw [dd, ev, ← hv]
          clear e1 e2 e3 st en dd ev hv
          by_cases d3 : v < 128
          · rw [if_neg (show ¬ v ≥ 128 by omega)]
            unfold charEnd
            rw [if_pos d3]
            rfl
          · rw [if_pos (show v ≥ 128 by omega)]
            unfold charEnd charN
            rw [if_neg d3, if_neg (by omega), if_neg (by omega), if_neg (by intro h; exact absurd h.2 (show ¬ (2 : Nat) = 1 by decide))]
  rw [if_neg c192]
  by_cases c128 : 128 ≤ b0
  · rw [if_pos c128]
    have : decodeN (s.size - pos) b0 b1 b2 b3 = (65533, 1) := by
      unfold decodeN
      rw [if_neg (by omega), if_neg (by omega), if_neg (by omega), if_neg (by omega)]
    rw [this]
    rfl
  · rw [if_neg c128, j4_f, if_neg (by omega)]
    have en := l0_end (k + 6) s pos 1 b0 0
    refine Eq.trans en ?_
    have : decodeN (s.size - pos) b0 b1 b2 b3 = (b0, 1) := by
      unfold decodeN
      rw [if_pos (by omega)]
    rw [this]
    unfold charEnd charN
    rw [if_neg (by omega), if_neg (by omega), if_neg (by omega), if_neg (by omega)]
end Go.Proofs.YtaeijlkogenblaaDoor.F
