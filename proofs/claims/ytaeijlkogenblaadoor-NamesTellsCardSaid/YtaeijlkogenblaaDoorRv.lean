/- The document's Valid, Keyword, Bare, Written are the program's. No condition beside each theorem's own. -/
import Derived.Test.YtaeijlkogenblaaDoorCd
import Derived.Test.YtaeijlkogenblaaDoorBk
namespace Go.Proofs.YtaeijlkogenblaaDoor.F
open Go.RowKit Go.Lib Go.Proofs.YtaeijlkogenblaaDoorW.PrintWords
set_option linter.unusedVariables false
/-- Every character from a place on is right, and none a control character. -/
def vl (s : ByteArray) : Nat → Nat → Bool
  | 0, _ => true
  | k + 1, pos => if pos < s.size then (if (Utf8.decode s pos).1 = 65533 ∧ (Utf8.decode s pos).2 = 1 then false else if (Utf8.decode s pos).1 < 32 then false else if 127 ≤ (Utf8.decode s pos).1 then (if (Utf8.decode s pos).1 ≤ 159 then false else vl s k (pos + (Utf8.decode s pos).2)) else vl s k (pos + (Utf8.decode s pos).2)) else true
theorem vl_eq (s : ByteArray) : ∀ k pos, s.size ≤ pos + k → vl s k pos = (Lib.validD (s.data.toList.drop pos) && okr s k pos)
  | 0, pos, h => by
    have : s.data.toList.drop pos = [] := List.drop_of_length_le (by rw [Array.length_toList]; exact h)
    rw [this]
    rfl
  | k + 1, pos, h => by
    by_cases hp : pos < s.size
    · have hne : s.data.toList.drop pos ≠ [] := by
        intro hh
        have := congrArg List.length hh
        rw [List.length_drop, Array.length_toList] at this
        have h2 : s.data.size = s.size := rfl
        simp at this
        omega
      have hw := width_pos s pos hp
      have ih := vl_eq s k (pos + (Utf8.decode s pos).2) (by omega)
      have hd := decodeL_drop s pos
      have hv := validD_step (s.data.toList.drop pos) hne
      rw [hd, List.drop_drop] at hv
      unfold vl okr
      rw [if_pos hp, if_pos hp, hv]
      by_cases c0 : (Utf8.decode s pos).1 = 65533 ∧ (Utf8.decode s pos).2 = 1
      · rw [if_pos c0, if_pos c0]
        rfl
      · rw [if_neg c0, if_neg c0]
        by_cases c1 : (Utf8.decode s pos).1 < 32
        · rw [if_pos c1, if_pos c1, Bool.and_false]
        · rw [if_neg c1, if_neg c1]
          by_cases c2 : 127 ≤ (Utf8.decode s pos).1
          · rw [if_pos c2, if_pos c2]
            by_cases c3 : (Utf8.decode s pos).1 ≤ 159
            · rw [if_pos c3, if_pos c3, Bool.and_false]
            · rw [if_neg c3, if_neg c3, ih]
          · rw [if_neg c2, if_neg c2, ih]
    · have : s.data.toList.drop pos = [] := List.drop_of_length_le (by rw [Array.length_toList]; exact Nat.not_lt.1 hp)
      rw [this]
      unfold vl okr
      rw [if_neg hp, if_neg hp]
      rfl
theorem char_n (d : Nat × Nat) (hw : 1 ≤ d.2) : ((charN d).2 = 0 ↔ (d.1 = 65533 ∧ d.2 = 1)) := by
  unfold charN
  by_cases c : d.1 = 65533 ∧ d.2 = 1
  · rw [if_pos c]; exact ⟨fun _ => c, fun _ => rfl⟩
  · rw [if_neg c]
    refine ⟨fun h => ?_, fun h => absurd h c⟩
    exfalso
    have : (d.2 : Int) = 0 := h
    omega
theorem rv_loop (s : ByteArray) (hs : s.size ≤ 32) : ∀ k pos, s.size ≤ pos + k → pos ≤ s.size → ∀ e, gatehouseref01_Valid.l0 (k + 13 + e) s (pos : Nat) = some (vl s k pos)
  | 0, pos, h, h2, e => by
    rw [show 0 + 13 + e = (12 + e) + 1 by omega, gatehouseref01_Valid.l0, if_neg (by omega)]
    rfl
  | k + 1, pos, h, h2, e => by
    rw [show k + 1 + 13 + e = (k + 13 + e) + 1 by omega, gatehouseref01_Valid.l0]
    by_cases hp : pos < s.size
    · have hw := width_pos s pos hp
      have hw2 : pos + (Utf8.decode s pos).2 ≤ s.size := by
        have := decodeL_le (s.data.toList.drop pos) (by
          intro hh
          have := congrArg List.length hh
          rw [List.length_drop, Array.length_toList] at this
          have h2 : s.data.size = s.size := rfl
          simp at this
          omega)
        rw [decodeL_drop, List.length_drop, Array.length_toList] at this
        have h3 : s.data.size = s.size := rfl
        omega
      have ih := rv_loop s hs k (pos + (Utf8.decode s pos).2) (by omega) hw2 e
      have hc := char_f (k + 1 + e) s pos hp hs
      rw [show k + 1 + e + 12 = k + 13 + e by omega] at hc
      have hcn := char_n (Utf8.decode s pos) hw
      rw [if_pos (by omega), hc]
      show (if (charN (Utf8.decode s pos)).2 = 0 then some false else (if (charN (Utf8.decode s pos)).1 < 32 then some false else (if (charN (Utf8.decode s pos)).1 ≥ 127 then (if (charN (Utf8.decode s pos)).1 ≤ 159 then some false else gatehouseref01_Valid.l0 (k + 13 + e) s (wrap64 ((pos : Int) + (charN (Utf8.decode s pos)).2))) else gatehouseref01_Valid.l0 (k + 13 + e) s (wrap64 ((pos : Int) + (charN (Utf8.decode s pos)).2))))) = _
      unfold vl
      rw [if_pos hp]
      by_cases c0 : (Utf8.decode s pos).1 = 65533 ∧ (Utf8.decode s pos).2 = 1
      · rw [if_pos (hcn.2 c0), if_pos c0]
      · rw [if_neg (fun h => c0 (hcn.1 h)), if_neg c0]
        have e1 : charN (Utf8.decode s pos) = (((Utf8.decode s pos).1 : Int), ((Utf8.decode s pos).2 : Int)) := by unfold charN; rw [if_neg c0]
        obtain ⟨⟨R, W⟩, hd⟩ : ∃ d, d = Utf8.decode s pos := ⟨_, rfl⟩
        rw [← hd] at e1 ih hw2 ⊢
        rw [e1]
        simp only at ih hw2 ⊢
        rw [wr_add pos W (by omega), ih]
        clear hc hcn e1 hd c0 ih
        by_cases c1 : R < 32
        · rw [if_pos c1, if_pos (by omega)]
        · rw [if_neg c1, if_neg (by omega)]
          by_cases c2 : 127 ≤ R
          · rw [if_pos c2, if_pos (by omega)]
            by_cases c3 : R ≤ 159
            · rw [if_pos c3, if_pos (by omega)]
            · rw [if_neg c3, if_neg (by omega)]
          · rw [if_neg c2, if_neg (by omega)]
    · rw [if_neg (by omega)]
      unfold vl
      rw [if_neg hp]
theorem rvalid_f (s : ByteArray) (e : Nat) : gatehouseref01_Valid.f (46 + e) s = some (validN s) := by
  unfold gatehouseref01_Valid.f validN
  by_cases h0 : s.size = 0
  · rw [if_pos h0, if_pos (by omega), show 46 + e = (45 + e) + 1 by omega, gatehouseref01_Valid.j0, if_pos rfl]
  · rw [if_neg h0, if_neg (by omega)]
    by_cases h1 : 32 < s.size
    · rw [if_pos h1, decide_eq_true (by omega), show 46 + e = (45 + e) + 1 by omega, gatehouseref01_Valid.j0, if_pos rfl]
    · rw [if_neg h1, decide_eq_false (by omega), show 46 + e = (45 + e) + 1 by omega, gatehouseref01_Valid.j0, if_neg (by decide)]
      have h := rv_loop s (by omega) s.size 0 (by omega) (by omega) (32 - s.size + e)
      rw [show s.size + 13 + (32 - s.size + e) = 45 + e by omega] at h
      refine Eq.trans h ?_
      rw [vl_eq s s.size 0 (by omega), List.drop_zero]
      cases hv : Lib.validD s.data.toList
      · rfl
      · rfl
theorem kw_loop (s : ByteArray) (K : List ByteArray) (hK : K.length ≤ 100) : ∀ (rest pre : List ByteArray), K = pre ++ rest → ∀ e, gatehouseref01_Keyword.l0 (rest.length + 1 + e) s K (pre.length : Nat) = some (rest.any (fun b => b.toList == s.toList))
  | [], pre, h, e => by
    rw [show ([] : List ByteArray).length + 1 + e = e + 1 by simp; omega, gatehouseref01_Keyword.l0]
    have : K.length = pre.length := by rw [h]; simp
    rw [if_neg (by omega)]
    rfl
  | b :: rest, pre, h, e => by
    have hl : K.length = pre.length + (rest.length + 1) := by rw [h]; simp
    have ih := kw_loop s K hK rest (pre ++ [b]) (by rw [h]; simp) e
    have hr : rdOf ByteArray.empty K (pre.length : Nat) = b := by
      unfold rdOf
      rw [h]
      simp
    have hw := Lib.hid (wr1 pre.length (by omega))
    rw [show (b :: rest).length + 1 + e = (rest.length + 1 + e) + 1 by simp; omega, gatehouseref01_Keyword.l0, if_pos (by omega), if_pos (by omega), hr, hw.out]
    rw [List.length_append] at ih
    rw [List.any_cons]
    by_cases c : b.toList = s.toList
    · rw [if_pos c, beq_iff_eq.2 c]
      rfl
    · rw [if_neg c, beq_eq_false_iff_ne.2 c]
      exact ih
theorem kw_step (s : ByteArray) (L : List UInt8) (B : Bool) : (if s.toList = L then some true else some B) = some ((⟨L.toArray⟩ : ByteArray).toList == s.toList || B) := by
  have e : (⟨L.toArray⟩ : ByteArray).toList = L := by rw [ByteArray.toList_eq]
  rw [e]
  by_cases c : s.toList = L
  · rw [if_pos c, beq_iff_eq.2 c.symm]
    rfl
  · rw [if_neg c, beq_eq_false_iff_ne.2 (fun h => c h.symm)]
    rfl
def kwL : List ByteArray := (gatehouseref01_Keywords.f).getD []
theorem kwL_f : gatehouseref01_Keywords.f = some kwL := rfl
theorem kwL_len : kwL.length = 16 := rfl
theorem rkey_f (s : ByteArray) (e : Nat) : gatehouseref01_Keyword.f (17 + e) s = some (keyN s) := by
  have hk := key_f s
  rw [← hk]
  have h := kw_loop s kwL (by decide) kwL [] rfl e
  rw [kwL_len] at h
  unfold gatehouseref01_Keyword.f
  rw [kwL_f]
  refine Eq.trans h ?_
  unfold names_Keyword.f
  simp only [kw_step]
  rfl
theorem letter_f (c : Int) : gatehouseref01_letter.f c = some (headI c) := head_f c
theorem rb_step (k : Nat) (s : ByteArray) (i : Nat) (h1 : 1 ≤ i) (hi : i < s.size) (hs : s.size ≤ 32) : gatehouseref01_Bare.l0 (k + 1) s (i : Nat) = if tailI (bt s i) = true then gatehouseref01_Bare.l0 k s ((i + 1 : Nat) : Int) else some false := by
  have hw := Lib.hid (wr1 i (by omega))
  rw [gatehouseref01_Bare.l0, if_pos (by omega), if_pos (by omega), if_pos (by omega), letter_f, hw.out]
  obtain ⟨c, hc⟩ : ∃ c, c = bt s (i : Int) := ⟨_, rfl⟩
  rw [← hc]
  obtain ⟨H, hH⟩ : ∃ H, H = headI c := ⟨_, rfl⟩
  obtain ⟨T, hT⟩ : ∃ T, T = tailI c := ⟨_, rfl⟩
  rw [← hT, ← hH]
  simp only [Option.bind_some]
  cases hb : H
  · by_cases c1 : c = 45
    · have e : T = true := by rw [hT]; unfold tailI; rw [← hH, hb, if_neg (by decide), if_pos c1]
      rw [if_pos c1, e]
      rfl
    · rw [if_neg c1]
      by_cases c2 : c ≥ 48
      · rw [if_pos c2]
        by_cases c3 : c ≤ 57
        · have e : T = true := by rw [hT]; unfold tailI; rw [← hH, hb, if_neg (by decide), if_neg c1, if_neg (by omega), if_neg (by omega)]
          rw [e, if_neg (by decide), if_pos c3]
          rfl
        · have e : T = false := by rw [hT]; unfold tailI; rw [← hH, hb, if_neg (by decide), if_neg c1, if_neg (by omega), if_pos (by omega)]
          rw [e, if_neg (by decide), if_neg c3]
          rfl
      · have e : T = false := by rw [hT]; unfold tailI; rw [← hH, hb, if_neg (by decide), if_neg c1, if_pos (by omega)]
        rw [if_neg c2, e]
  · have e : T = true := by rw [hT]; unfold tailI; rw [← hH, hb, if_pos rfl]
    rw [e]
    by_cases c1 : c = 45
    · rw [if_pos c1]
      rfl
    · rw [if_neg c1]
      by_cases c2 : c ≥ 48
      · rw [if_pos c2]
        rfl
      · rw [if_neg c2]
theorem rb_loop (s : ByteArray) (hs : s.size ≤ 32) : ∀ k i, 1 ≤ i → s.size ≤ i + k → ∀ e, gatehouseref01_Bare.l0 (k + 1 + e) s (i : Nat) = some (tl s k i)
  | 0, i, h1, h, e => by
    rw [show 0 + 1 + e = e + 1 by omega, gatehouseref01_Bare.l0, if_neg (by omega)]
    rfl
  | k + 1, i, h1, h, e => by
    by_cases hi : i < s.size
    · rw [show k + 1 + 1 + e = (k + 1 + e) + 1 by omega, rb_step _ s i h1 hi hs, rb_loop s hs k (i + 1) (by omega) (by omega) e]
      rw [show tl s (k + 1) i = if i < s.size then (if tailI (bt s i) = true then tl s k (i + 1) else false) else true from rfl, if_pos hi]
      cases tailI (bt s (i : Nat)) <;> rfl
    · rw [show k + 1 + 1 + e = (k + 1 + e) + 1 by omega, gatehouseref01_Bare.l0, if_neg (by omega)]
      unfold tl
      rw [if_neg hi]
theorem rbare_f (s : ByteArray) (e : Nat) : gatehouseref01_Bare.f (46 + e) s = some (bareN s) := by
  unfold gatehouseref01_Bare.f bareN
  rw [rvalid_f]
  cases hV : validN s
  · show gatehouseref01_Bare.j0 (46 + e) s true = _
    rw [show 46 + e = (45 + e) + 1 by omega, gatehouseref01_Bare.j0, if_pos rfl]
    rfl
  · have hz := valid_size hV
    have hk := rkey_f s (29 + e)
    rw [show 17 + (29 + e) = 46 + e by omega] at hk
    simp only [Option.bind_some, if_true]
    rw [hk]
    cases hK : keyN s
    · simp only [Option.bind_some]
      rw [show 46 + e = (45 + e) + 1 by omega, gatehouseref01_Bare.j0, if_neg (by decide), show 45 + e = (44 + e) + 1 by omega, gatehouseref01_Bare.l0, if_pos (by omega), if_neg (by decide), if_pos (by decide), letter_f]
      simp only [Option.bind_some]
      have h := rb_loop s hz.2 s.size 1 (by omega) (by omega) (43 - s.size + e)
      rw [show s.size + 1 + (43 - s.size + e) = 44 + e by omega] at h
      cases hH : headI (bt s 0)
      · rfl
      · rw [if_pos rfl, show wrap64 (0 + 1) = ((1 : Nat) : Int) from wr1 0 (by decide)]
        refine Eq.trans h ?_
        rfl
    · simp only [Option.bind_some]
      rw [show 46 + e = (45 + e) + 1 by omega, gatehouseref01_Bare.j0, if_pos rfl]
      rfl
theorem app_byte (a : List UInt8) (x : UInt8) : (⟨a.toArray⟩ : ByteArray) ++ (⟨#[x]⟩ : ByteArray) = ⟨(a ++ [x]).toArray⟩ := app_one a x
theorem ex_at (s : ByteArray) (i : Nat) (h : i < s.size) : s.extract i (i + 1) = ⟨#[s[i]'h]⟩ := by
  apply bytes_eq
  rw [ByteArray.data_extract]
  have hl : i < s.data.toList.length := by rw [Array.length_toList]; exact h
  rw [Array.toList_extract]
  simp only [List.extract]
  rw [show i + 1 - i = 1 by omega, List.drop_eq_getElem_cons hl]
  rfl
theorem rw_loop (s : ByteArray) (hs : s.size ≤ 32) : ∀ k i, s.size ≤ i + k → i ≤ s.size → ∀ e, gatehouseref01_Written.l0 (k + 1 + e) s ⟨(34 :: escL (s.data.toList.take i)).toArray⟩ (i : Nat) = some (⟨(quo s.data.toList).toArray⟩, true)
  | k, i, h, h2, e => by
    have hlen : (⟨(34 :: escL (s.data.toList.take i)).toArray⟩ : ByteArray).size ≤ 66 := by
      show (34 :: escL (s.data.toList.take i)).toArray.size ≤ 66
      rw [List.size_toArray, List.length_cons]
      have h3 := escL_len (s.data.toList.take i)
      have h4 : (s.data.toList.take i).length ≤ i := by rw [List.length_take]; omega
      omega
    obtain ⟨A, hA⟩ : ∃ A, A = (⟨(34 :: escL (s.data.toList.take i)).toArray⟩ : ByteArray) := ⟨_, rfl⟩
    rw [← hA] at hlen ⊢
    by_cases hi : i < s.size
    · cases k with
      | zero => exact absurd h (by omega)
      | succ k =>
        have ih := rw_loop s hs k (i + 1) (by omega) (by omega) e
        rw [escL_take s i hi] at ih
        have hw := Lib.hid (wr1 i (by omega))
        have hx := ex_at s i hi
        have hb := bt_of s i hi
        obtain ⟨x, hxx⟩ : ∃ x, x = s[i]'hi := ⟨_, rfl⟩
        rw [← hxx] at ih hx hb
        have hone : (⟨#[x]⟩ : ByteArray).size = 1 := rfl
        rw [show k + 1 + 1 + e = (k + 1 + e) + 1 by omega, gatehouseref01_Written.l0, if_pos (by omega), if_pos (by omega), hb, hw.out]
        have hn1 : ((i : Nat) : Int).toNat = i := rfl
        have hn2 : ((i + 1 : Nat) : Int).toNat = i + 1 := rfl
        rw [hn1, hn2, hx]
        by_cases c1 : x = 34
        · have e1 : esc1 x = [92, x] := esc1_two (.inl c1)
          rw [e1] at ih
          rw [if_pos (by rw [c1]; rfl), if_pos (by omega), if_pos (by omega), if_pos (by omega)]
          rw [ByteArray.size_append, hone, if_pos (by show A.size + 1 + 1 ≤ _; omega)]
          rw [hA, app_byte, app_byte]
          rw [show 34 :: (escL (List.take i s.data.toList) ++ [92, x]) = (34 :: escL (List.take i s.data.toList)) ++ [92] ++ [x] by simp] at ih
          exact ih
        · rw [if_neg (fun h => c1 (UInt8.toNat_inj.1 (by show x.toNat = 34; omega)))]
          by_cases c2 : x = 92
          · have e1 : esc1 x = [92, x] := esc1_two (.inr c2)
            rw [e1] at ih
            rw [if_pos (by rw [c2]; rfl), if_pos (by omega), if_pos (by omega), if_pos (by omega)]
            rw [ByteArray.size_append, hone, if_pos (by show A.size + 1 + 1 ≤ _; omega)]
            rw [hA, app_byte, app_byte]
            rw [show 34 :: (escL (List.take i s.data.toList) ++ [92, x]) = (34 :: escL (List.take i s.data.toList)) ++ [92] ++ [x] by simp] at ih
            exact ih
          · have e1 : esc1 x = [x] := esc1_one (fun h => by rcases h with h | h; exact c1 h; exact c2 h)
            rw [e1] at ih
            rw [if_neg (fun h => c2 (UInt8.toNat_inj.1 (by show x.toNat = 92; omega))), if_pos (by omega), if_pos (by omega), hone, if_pos (by omega)]
            rw [hA, app_byte]
            exact ih
    · have htk : s.data.toList.take i = s.data.toList := List.take_of_length_le (by rw [Array.length_toList]; exact Nat.not_lt.1 hi)
      rw [show k + 1 + e = (k + e) + 1 by omega, gatehouseref01_Written.l0, if_neg (by omega), if_pos (by omega), hA, htk, app_byte]
      rfl
theorem rwritten_f (s : ByteArray) (e : Nat) : gatehouseref01_Written.f (46 + e) s = some (writtenN s) := by
  unfold gatehouseref01_Written.f writtenN
  rw [rvalid_f]
  cases hV : validN s
  · rfl
  · have hz := valid_size hV
    simp only [Option.bind_some, if_true]
    rw [rbare_f]
    cases hB : bareN s
    · have h := rw_loop s hz.2 s.size 0 (by omega) (by omega) (45 - s.size + e)
      rw [show s.size + 1 + (45 - s.size + e) = 46 + e by omega] at h
      exact h
    · rfl
set_option maxHeartbeats 1000000 in
set_option maxRecDepth 100000 in
theorem tells_walk (s : ByteArray) (w : World) (hs : s.size ≤ 9223372036854775807) (hT : Tabs w) :
    Calls Tryd.prog 4 #[.string s] w fun e w' => e = .returned (.bool true) ∧ Below w.heap.size w w' := by
  have C8 := Lib.hid (valid_calls s w hs hT)
  have C9 := Lib.hid (fun W => gatehouseref01_Valid.calls 46 s (validN s) W (rvalid_f s 0))
  have C10 := Lib.hid (fun W => names_Keyword.calls s (keyN s) W (key_f s))
  have C11 := Lib.hid (fun W => gatehouseref01_Keyword.calls 17 s (keyN s) W (rkey_f s 0))
  have C12 := Lib.hid (fun W (h : Below w.heap.size w W) => bare_calls s W hs (hT.below h))
  have C13 := Lib.hid (fun W => gatehouseref01_Bare.calls 46 s (bareN s) W (rbare_f s 0))
  have C14 := Lib.hid (fun W (h : Below w.heap.size w W) => written_calls s W hs (hT.below h))
  have C15 := Lib.hid (fun W => gatehouseref01_Written.calls 46 s (writtenN s).1 (writtenN s).2 W (rwritten_f s 0))
  obtain ⟨⟨v, ok⟩, hv⟩ : ∃ A, A = writtenN s := ⟨_, rfl⟩
  rw [← hv] at C14 C15
  obtain ⟨V, hV⟩ : ∃ V, V = validN s := ⟨_, rfl⟩
  obtain ⟨Ky, hK⟩ : ∃ V, V = keyN s := ⟨_, rfl⟩
  obtain ⟨Ba, hB⟩ : ∃ V, V = bareN s := ⟨_, rfl⟩
  rw [← hV] at C8 C9
  rw [← hK] at C10 C11
  rw [← hB] at C12 C13
  have q1 : (v.toList == v.toList) = true := beq_self_eq_true _
  have q2 : ∀ b : Bool, (b != b) = false := fun b => by cases b <;> rfl
  have q3 : ∀ b : Bool, (b == b) = true := fun b => by cases b <;> rfl
  have r1 := q2 V
  have r2 := q2 Ky
  have r3 := q2 Ba
  have r4 := q3 ok
  clear hT hv hV hK hB hs q2 q3
  go_enter Tryd.func4, Tryd.ntmps4
  go_wp2_with (first | (go_at_call 8; refine C8.out.mono ?_; rintro e w1 ⟨rfl, hb⟩; have HB1 := Lib.hid hb; clear hb C8) | (go_at_call 9; refine (C9.out _).mono ?_; rintro e w2 ⟨rfl, hb⟩; have HB2 := Lib.hid (below_step HB1.out hb.below); clear hb C9) | (go_at_call 10; refine (C10.out _).mono ?_; rintro e w3 ⟨rfl, hb⟩; have HB3 := Lib.hid (below_step HB2.out hb.below); clear hb C10) | (go_at_call 11; refine (C11.out _).mono ?_; rintro e w4 ⟨rfl, hb⟩; have HB4 := Lib.hid (below_step HB3.out hb); clear hb C11) | (go_at_call 12; refine (C12.out _ HB4.out).mono ?_; rintro e w5 ⟨rfl, hb⟩; have HB5 := Lib.hid (below_step HB4.out hb); clear hb C12) | (go_at_call 13; refine (C13.out _).mono ?_; rintro e w6 ⟨rfl, hb⟩; have HB6 := Lib.hid (below_step HB5.out hb); clear hb C13) | (go_at_call 14; refine (C14.out _ HB6.out).mono ?_; rintro e w7 ⟨rfl, hb⟩; have HB7 := Lib.hid (below_step HB6.out hb); clear hb C14) | (go_at_call 15; refine (C15.out _).mono ?_; rintro e w8 ⟨rfl, hb⟩; have HB8 := Lib.hid (below_step HB7.out hb); clear hb C15))
  go_ret
  exact ⟨rfl, HB8.out⟩
end Go.Proofs.YtaeijlkogenblaaDoor.F
