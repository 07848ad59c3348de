/- Places in a text: the document's list of characters and the program's way: plain. No condition beside each theorem's own. -/
import Derived.Test.YtgfdinclnacpjaaSz
import Derived.Lib.LastIndexByte
import Derived.Lib.RuneCount
import Derived.Lib.Bytealg
import Derived.Lib.MapLaws
namespace Go.Proofs.Ytgfdinclnacpjaa.F
open Go.RowKit Go.Lib Go.Proofs.YtgfdinclnacpjaaW.PrintWords
set_option linter.unusedVariables false
def by_ (s : ByteArray) (j : Nat) : Nat := (s.data[j]!).toNat
theorem by_get (s : ByteArray) (j : Nat) : (s.get! j).toNat = by_ s j := by cases s; rfl
def wd (s : ByteArray) (pos : Nat) : Nat := (Utf8.decode s pos).2
theorem wd_pos (s : ByteArray) (pos : Nat) (h : pos < s.size) : 1 ≤ wd s pos := Lib.decode_width_pos s pos h
theorem wd_le (s : ByteArray) (pos : Nat) (h : pos < s.size) : pos + wd s pos ≤ s.size := by
  have hl : s.data.toList.length = s.size := Array.length_toList
  have := decodeL_le (s.data.toList.drop pos) (by
    intro hh
    have h2 := congrArg List.length hh
    rw [List.length_drop, hl] at h2
    simp at h2
    omega)
  rw [decodeL_drop, List.length_drop, hl] at this
  unfold wd
  omega
theorem inner (s : ByteArray) (pos : Nat) (h : pos < s.size) (j : Nat) (h1 : pos < j) (h2 : j < pos + wd s pos) : by_ s j ≠ 10 ∧ by_ s pos ≠ 10 := by
  unfold wd at h2
  rw [decode_at] at h2
  rw [by_get, by_get, by_get, by_get] at h2
  unfold decodeN at h2
  by_cases c0 : by_ s pos < 128
  · rw [if_pos c0] at h2
    exact absurd h2 (by show ¬ j < pos + 1; omega)
  rw [if_neg c0] at h2
  refine ⟨?_, by omega⟩
  by_cases c1 : by_ s pos / 32 = 6 ∧ 1 < s.size - pos ∧ by_ s (pos + 1) / 64 = 2
  · rw [if_pos c1] at h2
    have h3 : j < pos + 2 := by
      split at h2
      · exact h2
      · exact Nat.lt_of_lt_of_le h2 (by show pos + 1 ≤ pos + 2; omega)
    obtain rfl : j = pos + 1 := by omega
    omega
  rw [if_neg c1] at h2
  by_cases c2 : by_ s pos / 16 = 14 ∧ (1 < s.size - pos ∧ by_ s (pos + 1) / 64 = 2) ∧ (2 < s.size - pos ∧ by_ s (pos + 2) / 64 = 2)
  · rw [if_pos c2] at h2
    have h3 : j < pos + 3 := by
      split at h2
      · exact h2
      · exact Nat.lt_of_lt_of_le h2 (by show pos + 1 ≤ pos + 3; omega)
    rcases (show j = pos + 1 ∨ j = pos + 2 by omega) with rfl | rfl <;> omega
  rw [if_neg c2] at h2
  by_cases c3 : by_ s pos / 8 = 30 ∧ (1 < s.size - pos ∧ by_ s (pos + 1) / 64 = 2) ∧ (2 < s.size - pos ∧ by_ s (pos + 2) / 64 = 2) ∧ (3 < s.size - pos ∧ by_ s (pos + 3) / 64 = 2)
  · rw [if_pos c3] at h2
    have h3 : j < pos + 4 := by
      split at h2
      · exact h2
      · exact Nat.lt_of_lt_of_le h2 (by show pos + 1 ≤ pos + 4; omega)
    rcases (show j = pos + 1 ∨ j = pos + 2 ∨ j = pos + 3 by omega) with rfl | rfl | rfl <;> omega
  rw [if_neg c3] at h2
  exact absurd h2 (by show ¬ j < pos + 1; omega)
/-- How many newlines lie among the first bytes. -/
def cn (s : ByteArray) (p : Nat) : Nat := (s.data.toList.take p).count 10
theorem cn_step (s : ByteArray) (p : Nat) (h : p < s.size) : cn s (p + 1) = cn s p + (if by_ s p = 10 then 1 else 0) := by
  have hl : p < s.data.toList.length := by rw [Array.length_toList]; exact h
  have hb : by_ s p = (s.data.toList[p]).toNat := by
    unfold by_
    have hp : p < s.data.size := h
    rw [getElem!_pos s.data p hp, Array.getElem_toList]
  unfold cn
  rw [List.take_succ_eq_append_getElem hl, List.count_append]
  rw [hb]
  obtain ⟨x, hx⟩ : ∃ x, x = s.data.toList[p] := ⟨_, rfl⟩
  rw [← hx]
  by_cases c : x = 10
  · subst c
    rw [if_pos (show (10 : UInt8).toNat = 10 from rfl)]
    rfl
  · have c2 : ¬ x.toNat = 10 := fun hh => c (UInt8.toNat_inj.1 (by show x.toNat = 10; exact hh))
    rw [if_neg c2]
    have : [x].count 10 = 0 := List.count_eq_zero.2 (by simpa using fun hh => c hh.symm)
    rw [this]
theorem cn_flat (s : ByteArray) (p : Nat) : ∀ q, p ≤ q → q ≤ s.size → (∀ j, p ≤ j → j < q → by_ s j ≠ 10) → cn s q = cn s p := by
  intro q
  induction q with
  | zero => intro h _ _; rw [show p = 0 by omega]
  | succ q ih =>
    intro h h2 h3
    rcases Nat.lt_or_ge q p with c | c
    · rw [show p = q + 1 by omega]
    · rw [cn_step s q (by omega), if_neg (h3 q c (by omega)), ih c (by omega) (fun j a b => h3 j a (by omega)), Nat.add_zero]
/-- The place behind c characters from f on. -/
def wk (s : ByteArray) (f : Nat) : Nat → Nat
  | 0 => f
  | c + 1 => wk s f c + wd s (wk s f c)
/-- f begins the line that pos lies in, c characters ahead of it. -/
structure St (s : ByteArray) (pos f c : Nat) : Prop where
  le : f ≤ pos
  sz : pos ≤ s.size
  at_ : wk s f c = pos
  lt : ∀ i, i < c → wk s f i < pos
  flat : ∀ j, f ≤ j → j < pos → by_ s j ≠ 10
  head : f = 0 ∨ (1 ≤ f ∧ by_ s (f - 1) = 10)
theorem St.zero (s : ByteArray) : St s 0 0 0 := ⟨Nat.le_refl _, Nat.zero_le _, rfl, fun i h => absurd h (Nat.not_lt_zero _), fun j _ h => absurd h (Nat.not_lt_zero _), .inl rfl⟩
theorem St.more {s : ByteArray} {pos f c : Nat} (h : St s pos f c) (hp : pos < s.size) (hn : by_ s pos ≠ 10) : St s (pos + wd s pos) f (c + 1) := by
  have h1 := wd_pos s pos hp
  have h2 := wd_le s pos hp
  refine ⟨by have := h.le; omega, h2, by show wk s f c + wd s (wk s f c) = _; rw [h.at_], fun i hi => ?_, fun j a b => ?_, h.head⟩
  · rcases Nat.lt_or_ge i c with c1 | c1
    · have := h.lt i c1
      omega
    · obtain rfl : i = c := by omega
      rw [h.at_]
      omega
  · rcases Nat.lt_or_ge j pos with c1 | c1
    · exact h.flat j a c1
    · rcases Nat.lt_or_ge pos j with c2 | c2
      · exact (inner s pos hp j c2 b).1
      · obtain rfl : j = pos := by omega
        exact hn
theorem St.line {s : ByteArray} {pos f c : Nat} (h : St s pos f c) (hp : pos < s.size) (hn : by_ s pos = 10) : wd s pos = 1 ∧ St s (pos + 1) (pos + 1) 0 := by
  have h1 := wd_pos s pos hp
  refine ⟨?_, ⟨Nat.le_refl _, hp, rfl, fun i h => absurd h (Nat.not_lt_zero _), fun j a b => absurd b (by omega), .inr ⟨by omega, hn⟩⟩⟩
  rcases Nat.lt_or_ge 1 (wd s pos) with c | c
  · exact absurd hn (inner s pos hp (pos + 1) (by omega) (by omega)).2
  · omega
/-- The document's list of characters from a place on. -/
def charsL (s : ByteArray) : Nat → Nat → Nat → Nat → List S31
  | 0, pos, line, col => [⟨⟨#[]⟩, (line : Int), (col : Int), (pos : Int)⟩]
  | k + 1, pos, line, col => if pos < s.size then ⟨s.extract pos (pos + wd s pos), (line : Int), (col : Int), (pos : Int)⟩ :: (if by_ s pos = 10 then charsL s k (pos + wd s pos) (line + 1) 1 else charsL s k (pos + wd s pos) line (col + 1)) else [⟨⟨#[]⟩, (line : Int), (col : Int), (pos : Int)⟩]
/-- What the document finds in a list of characters. -/
def fnd (q : Int) : List S31 → Int × Int
  | [] => (0, 0)
  | e :: L => if q < e.f3 + (e.f0.size : Int) then (e.f1, e.f2) else if q = e.f3 then (e.f1, e.f2) else fnd q L
theorem fnd_chars (s : ByteArray) (q : Nat) (hq : q ≤ s.size) : ∀ k pos f c, St s pos f c → pos ≤ q → s.size ≤ pos + k →
    ∃ pos2 f2 c2, St s pos2 f2 c2 ∧ pos2 ≤ q ∧ (∀ j, pos2 ≤ j → j < q → by_ s j ≠ 10) ∧ (q < s.size → q < pos2 + wd s pos2) ∧ (q = s.size → pos2 = q) ∧ fnd (q : Int) (charsL s k pos (1 + cn s pos) (c + 1)) = (((1 + cn s q : Nat) : Int), ((c2 + 1 : Nat) : Int)) := by
  intro k
  induction k with
  | zero =>
    intro pos f c h h1 h2
    have e : pos = q := by have := h.sz; omega
    subst e
    refine ⟨pos, f, c, h, Nat.le_refl _, fun j a b => absurd b (by omega), fun hh => absurd hh (by omega), fun _ => rfl, ?_⟩
    unfold charsL fnd
    rw [if_neg (by show ¬ ((pos : Int) < (pos : Int) + ((0 : Nat) : Int)); omega), if_pos rfl]
  | succ k ih =>
    intro pos f c h h1 h2
    by_cases hp : pos < s.size
    · have w1 := wd_pos s pos hp
      have w2 := wd_le s pos hp
      have hx : (s.extract pos (pos + wd s pos)).size = wd s pos := by rw [ByteArray.size_extract]; omega
      unfold charsL
      rw [if_pos hp]
      unfold fnd
      rw [hx]
      by_cases c1 : q < pos + wd s pos
      · rw [if_pos (show (q : Int) < (pos : Int) + ((wd s pos : Nat) : Int) by omega)]
        have hflat : ∀ j, pos ≤ j → j < q → by_ s j ≠ 10 := fun j a b => by
          rcases Nat.lt_or_ge pos j with d | d
          · exact (inner s pos hp j d (by omega)).1
          · obtain rfl : j = pos := by omega
            exact (inner s j hp (j + 1) (by omega) (by omega)).2
        refine ⟨pos, f, c, h, h1, hflat, fun _ => c1, fun hh => absurd c1 (by omega), ?_⟩
        rw [cn_flat s pos q h1 hq hflat]
      · rw [if_neg (show ¬ (q : Int) < (pos : Int) + ((wd s pos : Nat) : Int) by omega), if_neg (show ¬ (q : Int) = (pos : Int) by omega)]
        by_cases c2 : by_ s pos = 10
        · rw [if_pos c2]
          obtain ⟨e1, h3⟩ := h.line hp c2
          have := ih (pos + 1) (pos + 1) 0 h3 (by omega) (by omega)
          rw [cn_step s pos hp, if_pos c2] at this
          rw [e1]
          exact this
        · rw [if_neg c2]
          have h3 := h.more hp c2
          have := ih (pos + wd s pos) f (c + 1) h3 (by omega) (by omega)
          have e : cn s (pos + wd s pos) = cn s pos := cn_flat s pos _ (by omega) w2 (fun j a b => by
            rcases Nat.lt_or_ge pos j with d | d
            · exact (inner s pos hp j d b).1
            · obtain rfl : j = pos := by omega
              exact c2)
          rw [e] at this
          exact this
    · have e : pos = q := by have := h.sz; omega
      subst e
      refine ⟨pos, f, c, h, Nat.le_refl _, fun j a b => absurd b (by omega), fun hh => absurd hh (by omega), fun _ => rfl, ?_⟩
      unfold charsL
      rw [if_neg hp]
      unfold fnd
      rw [if_neg (by show ¬ ((pos : Int) < (pos : Int) + ((0 : Nat) : Int)); omega), if_pos rfl]
theorem bt_by (s : ByteArray) (i : Nat) (h : i < s.size) : bt s (i : Nat) = (by_ s i : Int) := by rw [bt_get s i h, by_get]
theorem c_step (k : Nat) (s : ByteArray) (acc : List S31) (line col pos w w2 : Int) (b : Bool) (h1 : pos < (s.size : Int)) (hz : gatehouseref02_Size.f k s pos = some (w, b)) (f2 : 0 ≤ pos) (hw : wrap64 (pos + w) = w2) (f3 : pos ≤ w2) (f4 : w2 ≤ (s.size : Int)) (f5 : acc.length < 3518437208883) :
    gatehouseref02_Chars.l0 (k + 1) s acc line col pos = if bt s pos = 10 then gatehouseref02_Chars.l0 k s (acc ++ [(⟨s.extract pos.toNat w2.toNat, line, col, pos⟩ : S31)]) (wrap64 (line + 1)) 1 w2 else gatehouseref02_Chars.l0 k s (acc ++ [(⟨s.extract pos.toNat w2.toNat, line, col, pos⟩ : S31)]) line (wrap64 (col + 1)) w2 := by
  rw [gatehouseref02_Chars.l0, if_pos h1, hz]
  show (if 0 ≤ pos then (if pos ≤ wrap64 (pos + w) then (if wrap64 (pos + w) ≤ (s.size : Int) then (if acc.length < 3518437208883 then (if bt s pos = 10 then gatehouseref02_Chars.l0 k s (acc ++ [(⟨s.extract pos.toNat (wrap64 (pos + w)).toNat, line, col, pos⟩ : S31)]) (wrap64 (line + 1)) 1 (wrap64 (pos + w)) else gatehouseref02_Chars.l0 k s (acc ++ [(⟨s.extract pos.toNat (wrap64 (pos + w)).toNat, line, col, pos⟩ : S31)]) line (wrap64 (col + 1)) (wrap64 (pos + w))) else none) else none) else none) else none) = _
  rw [hw, if_pos f2, if_pos f3, if_pos f4, if_pos f5]
theorem rchars (s : ByteArray) (hs : s.size ≤ 1048576) : ∀ k pos line col (acc : List S31) e, pos ≤ s.size → s.size ≤ pos + k → line + k ≤ 10000000 → col + k ≤ 10000000 → acc.length + k ≤ 10000000 →
    gatehouseref02_Chars.l0 (k + 6 + e) s acc (line : Nat) (col : Nat) (pos : Nat) = some (acc ++ charsL s k pos line col) := by
  intro k
  induction k with
  | zero =>
    intro pos line col acc e h1 h2 h3 h4 h5
    rw [show 0 + 6 + e = (5 + e) + 1 by omega, gatehouseref02_Chars.l0, if_neg (by omega), if_pos (Nat.lt_of_le_of_lt (Nat.le_trans (Nat.le_add_right _ _) h5) (by decide))]
    rfl
  | succ k ih =>
    intro pos line col acc e h1 h2 h3 h4 h5
    rw [show k + 1 + 6 + e = (k + 6 + e) + 1 by omega]
    by_cases hp : pos < s.size
    · have w1 := wd_pos s pos hp
      have w2 := wd_le s pos hp
      obtain ⟨b, hb⟩ := size_w s pos hp hs (k + 1 + e)
      rw [show 5 + (k + 1 + e) = k + 6 + e by omega] at hb
      have hb2 : gatehouseref02_Size.f (k + 6 + e) s (pos : Nat) = some ((wd s pos : Int), b) := hb
      have u1 := Lib.hid (wr_add pos (wd s pos) (by omega))
      have u2 := Lib.hid (wr_add line 1 (by omega))
      have u3 := Lib.hid (wr_add col 1 (by omega))
      have hlen : ∀ x : S31, (acc ++ [x]).length + k ≤ 10000000 := fun x => by rw [List.length_append]; show acc.length + 1 + k ≤ _; omega
      have f2 : (0 : Int) ≤ (pos : Int) := Int.natCast_nonneg _
      have f3 : (pos : Int) ≤ ((pos + wd s pos : Nat) : Int) := Int.ofNat_le.2 (Nat.le_add_right _ _)
      have f4 : ((pos + wd s pos : Nat) : Int) ≤ (s.size : Int) := Int.ofNat_le.2 w2
      have f5 : acc.length < 3518437208883 := Nat.lt_of_le_of_lt (Nat.le_trans (Nat.le_add_right _ _) h5) (by decide)
      rw [c_step (k + 6 + e) s acc line col pos (wd s pos : Int) _ b (Int.ofNat_lt.2 hp) hb2 f2 u1.out f3 f4 f5, bt_by s pos hp]
      have n1 : (pos : Int).toNat = pos := rfl
      have n2 : ((pos + wd s pos : Nat) : Int).toNat = pos + wd s pos := rfl
      rw [n1, n2]
      unfold charsL
      rw [if_pos hp]
      by_cases c : by_ s pos = 10
      · rw [if_pos (show (by_ s pos : Int) = 10 by omega), if_pos c, show (line : Int) + 1 = (line : Int) + ((1 : Nat) : Int) from rfl, u2.out]
        refine Eq.trans (ih (pos + wd s pos) (line + 1) 1 _ e w2 (by omega) (by omega) (by omega) (hlen _)) ?_
        rw [List.append_assoc]
        rfl
      · rw [if_neg (show ¬ (by_ s pos : Int) = 10 by omega), if_neg c, show (col : Int) + 1 = (col : Int) + ((1 : Nat) : Int) from rfl, u3.out]
        refine Eq.trans (ih (pos + wd s pos) line (col + 1) _ e w2 (by omega) (by omega) (by omega) (hlen _)) ?_
        rw [List.append_assoc]
        rfl
    · rw [gatehouseref02_Chars.l0, if_neg (fun h => hp (Int.ofNat_lt.1 h)), if_pos (Nat.lt_of_le_of_lt (Nat.le_trans (Nat.le_add_right _ _) h5) (by decide))]
      unfold charsL
      rw [if_neg hp]
theorem chars_small (s : ByteArray) (hs : s.size ≤ 1048576) : ∀ k pos line col, pos ≤ s.size → ∀ x ∈ charsL s k pos line col, 0 ≤ x.f3 ∧ x.f3 ≤ 1048576 ∧ x.f0.size ≤ 1048576 := by
  intro k
  induction k with
  | zero =>
    intro pos line col h x hx
    unfold charsL at hx
    obtain rfl : x = ⟨⟨#[]⟩, (line : Int), (col : Int), (pos : Int)⟩ := by simpa using hx
    exact ⟨by show (0 : Int) ≤ (pos : Int); omega, by show (pos : Int) ≤ 1048576; omega, by show 0 ≤ 1048576; omega⟩
  | succ k ih =>
    intro pos line col h x hx
    unfold charsL at hx
    by_cases hp : pos < s.size
    · have w2 := wd_le s pos hp
      rw [if_pos hp] at hx
      rcases List.mem_cons.1 hx with rfl | hx
      · refine ⟨by show (0 : Int) ≤ (pos : Int); omega, by show (pos : Int) ≤ 1048576; omega, ?_⟩
        show (s.extract pos (pos + wd s pos)).size ≤ 1048576
        rw [ByteArray.size_extract]
        omega
      · by_cases c : by_ s pos = 10
        · rw [if_pos c] at hx
          exact ih _ _ _ w2 x hx
        · rw [if_neg c] at hx
          exact ih _ _ _ w2 x hx
    · rw [if_neg hp] at hx
      obtain rfl : x = ⟨⟨#[]⟩, (line : Int), (col : Int), (pos : Int)⟩ := by simpa using hx
      exact ⟨by show (0 : Int) ≤ (pos : Int); omega, by show (pos : Int) ≤ 1048576; omega, by show 0 ≤ 1048576; omega⟩
theorem chars_len (s : ByteArray) : ∀ k pos line col, (charsL s k pos line col).length ≤ k + 1 := by
  intro k
  induction k with
  | zero => intro pos line col; exact Nat.le_refl _
  | succ k ih =>
    intro pos line col
    unfold charsL
    by_cases hp : pos < s.size
    · rw [if_pos hp, List.length_cons]
      by_cases c : by_ s pos = 10
      · rw [if_pos c]; have := ih (pos + wd s pos) (line + 1) 1; omega
      · rw [if_neg c]; have := ih (pos + wd s pos) line (col + 1); omega
    · rw [if_neg hp]
      simp
theorem rfind (q : Int) (L : List S31) (hL : L.length ≤ 10000000) (hx : ∀ x ∈ L, 0 ≤ x.f3 ∧ x.f3 ≤ 1048576 ∧ x.f0.size ≤ 1048576) : ∀ (rest pre : List S31), L = pre ++ rest → ∀ e, gatehouseref02_Place.l0 (rest.length + 1 + e) q L (pre.length : Nat) = some (fnd q rest)
  | [], pre, h, e => by
    have : L.length = pre.length := by rw [h]; simp
    rw [show ([] : List S31).length + 1 + e = e + 1 by simp; omega, gatehouseref02_Place.l0, if_neg (by omega)]
    rfl
  | x :: rest, pre, h, e => by
    have hl : L.length = pre.length + (rest.length + 1) := by rw [h]; simp
    have ih := rfind q L hL hx rest (pre ++ [x]) (by rw [h]; simp) e
    have hr : rd_T31 L (pre.length : Nat) = x := by
      unfold rd_T31
      rw [h]
      simp
    have hb := hx x (by rw [h]; simp)
    have u1 := Lib.hid (wr_add pre.length 1 (by omega))
    have u2 : wrap64 (x.f3 + (x.f0.size : Int)) = x.f3 + (x.f0.size : Int) := by unfold wrap64; omega
    have u2' := Lib.hid u2
    clear u2
    rw [List.length_append] at ih
    rw [show (x :: rest).length + 1 + e = (rest.length + 1 + e) + 1 by simp; omega, gatehouseref02_Place.l0, if_pos (by omega), if_pos (by omega), hr, u2'.out]
    unfold fnd
    by_cases c1 : q < x.f3 + (x.f0.size : Int)
    · rw [if_pos c1, if_pos c1]
    · rw [if_neg c1, if_neg c1]
      by_cases c2 : q = x.f3
      · rw [if_pos c2, if_pos c2]
      · rw [if_neg c2, if_neg c2, show ((pre.length : Nat) : Int) + 1 = ((pre.length : Nat) : Int) + ((1 : Nat) : Int) from rfl, u1.out]
        exact ih
/-- What the document answers. -/
def placeR (s : ByteArray) (q : Int) : Int × Int := if q < 0 then (0, 0) else if (s.size : Int) < q then (0, 0) else fnd q (charsL s s.size 0 1 1)
theorem rplace_f (M : Nat) (hM : 3000000 ≤ M) (s : ByteArray) (hs : s.size ≤ 1048576) (q : Int) : gatehouseref02_Place.f (M + 1) s q = some (placeR s q) := by
  unfold gatehouseref02_Place.f placeR
  by_cases c1 : q < 0
  · rw [if_pos c1, if_pos c1, gatehouseref02_Place.j0, if_pos rfl]
  · rw [if_neg c1, if_neg c1]
    by_cases c2 : (s.size : Int) < q
    · rw [if_pos c2, decide_eq_true (show q > (s.size : Int) from c2), gatehouseref02_Place.j0, if_pos rfl]
    · rw [if_neg c2, decide_eq_false (show ¬ q > (s.size : Int) from c2), gatehouseref02_Place.j0, if_neg (by decide)]
      have h := rchars s hs s.size 0 1 1 [] (M - 6 - s.size) (by omega) (by omega) (by omega) (by omega) (by show 0 + s.size ≤ _; omega)
      rw [show s.size + 6 + (M - 6 - s.size) = M by omega, List.nil_append] at h
      have h2 : gatehouseref02_Chars.f M s = some (charsL s s.size 0 1 1) := h
      rw [h2]
      have hlen := chars_len s s.size 0 1 1
      have h3 := rfind q (charsL s s.size 0 1 1) (by omega) (chars_small s hs s.size 0 1 1 (by omega)) (charsL s s.size 0 1 1) [] rfl (M - 1 - (charsL s s.size 0 1 1).length)
      rw [show (charsL s s.size 0 1 1).length + 1 + (M - 1 - (charsL s s.size 0 1 1).length) = M by omega] at h3
      exact h3
end Go.Proofs.Ytgfdinclnacpjaa.F
