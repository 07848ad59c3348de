/- names.Written: what it computes. Condition: the two tables of utf8 lie as their initialisers lay them. -/
import Derived.Test.YtaeijlkogenblaaDoorBa
import Derived.Test.YtaeijlkogenblaaDoorBu
import Derived.Test.YtaeijlkogenblaaDoorBw
namespace Go.Proofs.YtaeijlkogenblaaDoor.F
open Go.RowKit Go.Lib Go.Proofs.YtaeijlkogenblaaDoorW.PrintWords
set_option linter.unusedVariables false
/-- A sign within quotes. -/
def esc1 (b : UInt8) : List UInt8 := if b = 34 then [92, b] else if b = 92 then [92, b] else [b]
def escL : List UInt8 → List UInt8
  | [] => []
  | b :: l => esc1 b ++ escL l
def quo (l : List UInt8) : List UInt8 := 34 :: (escL l ++ [34])
def writtenN (s : ByteArray) : ByteArray × Bool := if validN s = false then (⟨#[]⟩, false) else if bareN s = true then (s, true) else (⟨(quo s.data.toList).toArray⟩, true)
theorem escL_app : ∀ (a b : List UInt8), escL (a ++ b) = escL a ++ escL b
  | [], b => rfl
  | x :: a, b => by show esc1 x ++ escL (a ++ b) = (esc1 x ++ escL a) ++ escL b; rw [escL_app a b, List.append_assoc]
theorem escL_take (s : ByteArray) (i : Nat) (h : i < s.size) : escL (s.data.toList.take (i + 1)) = escL (s.data.toList.take i) ++ esc1 (s[i]'h) := by
  have hl : i < s.data.toList.length := by rw [Array.length_toList]; exact h
  rw [List.take_succ_eq_append_getElem hl, escL_app]
  show _ ++ (esc1 _ ++ escL []) = _
  rw [show escL [] = [] from rfl, List.append_nil]
  rfl
theorem escL_len : ∀ l : List UInt8, (escL l).length ≤ 2 * l.length
  | [] => Nat.le_refl _
  | b :: l => by
    have h := escL_len l
    have h1 : (esc1 b).length ≤ 2 := by unfold esc1; split; · simp
                                        · split <;> simp
    show (esc1 b ++ escL l).length ≤ _
    rw [List.length_append, List.length_cons]
    omega
theorem below_weak {B B' : Nat} {a w : World} (h : Below B' a w) (hb : B ≤ B') : Below B a w := ⟨h.os, h.tape, h.output, h.size, fun k hk => h.block k (by omega)⟩
theorem bc_snoc (l : List UInt8) (b : UInt8) : Lib.byteCells l ++ [.int .u8 (b.toNat : Int)] = Lib.byteCells (l ++ [b]) := by simp [Lib.byteCells]
set_option maxHeartbeats 1000000 in
set_option maxRecDepth 100000 in
theorem written_calls (s : ByteArray) (w : World) (hs : s.size ≤ 9223372036854775807) (hT : Tabs w) :
    Calls Tryd.prog 14 #[.string s] w fun e w' => e = .returned (.tuple #[.string (writtenN s).1, .bool (writtenN s).2]) ∧ Below w.heap.size w w' := by
  have CV := Lib.hid (valid_calls s w hs hT)
  have CB := Lib.hid (fun W (h : Below w.heap.size w W) => bare_calls s W hs (hT.below h))
  clear hT
  obtain ⟨V, hV⟩ : ∃ V, V = validN s := ⟨_, rfl⟩
  obtain ⟨Bb, hB⟩ : ∃ Bb, Bb = bareN s := ⟨_, rfl⟩
  rw [← hV] at CV
  rw [← hB] at CB
  cases hVb : V
  · have e : writtenN s = (⟨#[]⟩, false) := by unfold writtenN; rw [← hV, hVb]; rfl
    rw [hVb] at CV
    rw [e]
    clear e hs hV hB CB
    go_enter Tryd.func14, Tryd.ntmps14
    go_wp2_with (go_at_call 8; refine CV.out.mono ?_; rintro e w1 ⟨rfl, hb⟩; have HB1 := Lib.hid hb; clear hb)
    go_ret2
    exact ⟨rfl, HB1.out⟩
  · rw [hVb] at CV
    cases hBb : Bb
    · have e : writtenN s = (⟨(quo s.data.toList).toArray⟩, true) := by unfold writtenN; rw [← hV, hVb, ← hB, hBb]; rfl
      have hz := valid_size (s := s) (by rw [← hV, hVb])
      rw [hBb] at CB
      rw [e]
      have HZ := Lib.hid hz
      clear e hV hB hs hz
      go_enter Tryd.func14, Tryd.ntmps14
      go_wp2_with (first | (go_at_call 8; refine CV.out.mono ?_; rintro e w1 ⟨rfl, hb⟩; have HB1 := Lib.hid hb; clear hb) | (go_at_call 12; refine (CB.out _ HB1.out).mono ?_; rintro e w2 ⟨rfl, hb⟩; have HB2 := Lib.hid (below_step HB1.out hb); clear hb))
      clear CV CB
      go_upto_region 6 with fail
      obtain ⟨W, hW⟩ : ∃ W, W = w2.alloc (.cells #[.pointer none, .slice none 0 0] 35) := ⟨_, rfl⟩
      obtain ⟨b, hb⟩ : ∃ b, b = w2.heap.size := ⟨_, rfl⟩
      have hbk : W.heap[b]? = some (.cells #[.pointer none, .slice none 0 0] 35 (0, 0)) := by rw [hW, hb]; show (w2.heap.push _)[w2.heap.size]? = _; simp
      have HBW := Lib.hid (show Below w.heap.size w W by rw [hW]; exact below_alloc HB2.out _)
      have HI := Lib.hid (show Lib.IsBuilder 35 5 b b [] W from .inl ⟨Nat.le_refl _, _, hbk, ⟨rfl, .inl ⟨rfl, rfl⟩⟩, by simp [Value.ownBlock]⟩)
      have HSB := Lib.hid (show b ≤ W.heap.size by rw [hW, hb]; show _ ≤ (w2.heap.push _).size; simp)
      have HWB := Lib.hid (show w.heap.size ≤ b by rw [hb]; exact HB2.out.size)
      rw [← hW, ← hb]
      clear hW hb hbk
      refine (Tryd.Builder_WriteByte b b [] 34 W HI.out (by decide) HSB.out).mono ?_
      rintro e w3 ⟨rfl, hbu, hbl⟩
      have HBU := Lib.hid (show Lib.BuilderAt 35 5 b b (.pointer (some ⟨b, 0, none⟩)) (Lib.byteCells (34 :: escL (s.data.toList.take 0))) w3 from hbu)
      have HB3 := Lib.hid (HBW.out.trans (below_weak hbl HWB.out))
      have HSB3 := Lib.hid (Nat.le_trans HSB.out hbl.size)
      clear hbu hbl
      go_wp2_with fail
      go_loopw [5] (fun v wr => ∃ (i : Nat), v = .int .i64 (i : Nat) ∧ i ≤ s.size ∧ Lib.BuilderAt 35 5 b b (.pointer (some ⟨b, 0, none⟩)) (Lib.byteCells (34 :: escL (s.data.toList.take i))) wr ∧ Below w.heap.size w wr ∧ b ≤ wr.heap.size) (fun v _ => s.size - (RowKit.intOf v).toNat)
      case atStart => exact ⟨0, rfl, Nat.zero_le _, HBU.out, HB3.out, HSB3.out⟩
      case round =>
        obtain ⟨i, rfl, hi, hbu, hbw, hsb⟩ := hrel
        have hlen : (Lib.byteCells (34 :: escL (s.data.toList.take i))).length ≤ 2 * i + 1 := by
          have h := escL_len (s.data.toList.take i)
          have h2 : (s.data.toList.take i).length ≤ i := by rw [List.length_take]; omega
          simp only [Lib.byteCells, List.length_map, List.length_cons]
          omega
        have HLEN := Lib.hid hlen
        have HBU := Lib.hid hbu
        have HBR := Lib.hid hbw
        have HSR := Lib.hid hsb
        clear hlen hbu hbw hsb
        by_cases hp : i < s.size
        · have hix : (i : Int) < (s.size : Int) := by omega
          have het := Lib.hid (escL_take s i hp)
          obtain ⟨L, hL⟩ : ∃ L, L = 34 :: escL (s.data.toList.take i) := ⟨_, rfl⟩
          rw [← hL] at HLEN HBU
          have HWR := Lib.hid (show wrap64 ((i : Int) + 1) = ((i + 1 : Nat) : Int) by have := HZ.out.2; unfold wrap64; omega)
          have HN := Lib.hid hp
          have HNX : ∀ x : List UInt8, esc1 (s[i]'hp) = x → RowKit.Hid (L ++ x = 34 :: escL (s.data.toList.take (i + 1))) := fun x hx => Lib.hid (by rw [het.out, hx, hL]; rfl)
          clear het hL
          by_cases c1 : (s[i]'hp) = 34
          · have HX := HNX [92, s[i]'hp] (by unfold esc1; rw [if_pos c1])
            have k1 : (((s[i]'hp).toNat : Int) == 34) = true := by rw [c1]; rfl
            clear c1
            clear HNX
            go_wp2_with (go_at_call 22; refine (Tryd.Builder_WriteByte b b _ 92 _ (.inr HBU.out) (by have := HLEN.out; have := HZ.out; omega) HSR.out).mono ?_; rintro e w4 ⟨rfl, hbu, hbl⟩; have HBU4 := Lib.hid hbu; have HB4 := Lib.hid (HBR.out.trans (below_weak hbl HWB.out)); have HSB4 := Lib.hid (Nat.le_trans HSR.out hbl.size); clear hbu hbl; go_wp2_with fail; refine (Tryd.Builder_WriteByte b b _ _ _ (.inr HBU4.out) (by have := HLEN.out; have := HZ.out; rw [List.length_append]; simp only [List.length_cons, List.length_nil]; omega) HSB4.out).mono ?_; rintro e w5 ⟨rfl, hbu, hbl⟩; have HBU5 := Lib.hid hbu; have HB5 := Lib.hid (HB4.out.trans (below_weak hbl HWB.out)); have HSB5 := Lib.hid (Nat.le_trans HSB4.out hbl.size); clear hbu hbl)
            go_roundw
            case rel => exact ⟨i + 1, by rw [HWR.out], HN.out, by rw [← HX.out]; have h := HBU5.out; rw [show ([.int .u8 92] : List Value) = [.int .u8 ((92 : UInt8).toNat : Int)] from rfl, bc_snoc, bc_snoc, List.append_assoc] at h; exact h, HB5.out, HSB5.out⟩
            case measure => rw [HWR.out]; have := HN.out; simp [RowKit.intOf]; omega
          · have k1 : (((s[i]'hp).toNat : Int) == 34) = false := beq_eq_false_iff_ne.2 (fun h => c1 (UInt8.toNat_inj.1 (by show (s[i]'hp).toNat = 34; omega)))
            by_cases c2 : (s[i]'hp) = 92
            · have HX := HNX [92, s[i]'hp] (by unfold esc1; rw [if_neg c1, if_pos c2])
              have k2 : (((s[i]'hp).toNat : Int) == 92) = true := by rw [c2]; rfl
              clear c1 c2
              clear HNX
              go_wp2_with (go_at_call 22; refine (Tryd.Builder_WriteByte b b _ 92 _ (.inr HBU.out) (by have := HLEN.out; have := HZ.out; omega) HSR.out).mono ?_; rintro e w4 ⟨rfl, hbu, hbl⟩; have HBU4 := Lib.hid hbu; have HB4 := Lib.hid (HBR.out.trans (below_weak hbl HWB.out)); have HSB4 := Lib.hid (Nat.le_trans HSR.out hbl.size); clear hbu hbl; go_wp2_with fail; refine (Tryd.Builder_WriteByte b b _ _ _ (.inr HBU4.out) (by have := HLEN.out; have := HZ.out; rw [List.length_append]; simp only [List.length_cons, List.length_nil]; omega) HSB4.out).mono ?_; rintro e w5 ⟨rfl, hbu, hbl⟩; have HBU5 := Lib.hid hbu; have HB5 := Lib.hid (HB4.out.trans (below_weak hbl HWB.out)); have HSB5 := Lib.hid (Nat.le_trans HSB4.out hbl.size); clear hbu hbl)
              go_roundw
              case rel => exact ⟨i + 1, by rw [HWR.out], HN.out, by rw [← HX.out]; have h := HBU5.out; rw [show ([.int .u8 92] : List Value) = [.int .u8 ((92 : UInt8).toNat : Int)] from rfl, bc_snoc, bc_snoc, List.append_assoc] at h; exact h, HB5.out, HSB5.out⟩
              case measure => rw [HWR.out]; have := HN.out; simp [RowKit.intOf]; omega
            · have HX := HNX [s[i]'hp] (by unfold esc1; rw [if_neg c1, if_neg c2])
              have k2 : (((s[i]'hp).toNat : Int) == 92) = false := beq_eq_false_iff_ne.2 (fun h => c2 (UInt8.toNat_inj.1 (by show (s[i]'hp).toNat = 92; omega)))
              clear c1 c2
              clear HNX
              go_wp2_with (go_at_call 22; refine (Tryd.Builder_WriteByte b b _ _ _ (.inr HBU.out) (by have := HLEN.out; have := HZ.out; omega) HSR.out).mono ?_; rintro e w4 ⟨rfl, hbu, hbl⟩; have HBU4 := Lib.hid hbu; have HB4 := Lib.hid (HBR.out.trans (below_weak hbl HWB.out)); have HSB4 := Lib.hid (Nat.le_trans HSR.out hbl.size); clear hbu hbl)
              go_roundw
              case rel => exact ⟨i + 1, by rw [HWR.out], HN.out, by rw [← HX.out]; have h := HBU4.out; rw [bc_snoc] at h; exact h, HB4.out, HSB4.out⟩
              case measure => rw [HWR.out]; have := HN.out; simp [RowKit.intOf]; omega

        · have hix : ¬ (i : Int) < (s.size : Int) := by omega
          have hie : i = s.size := by omega
          have htk : s.data.toList.take i = s.data.toList := List.take_of_length_le (by rw [Array.length_toList, hie]; exact Nat.le_refl _)
          rw [htk] at HBU HLEN
          have HIS := Lib.hid hi
          clear htk hie hp hi
          go_wp2_with fail
          refine (Tryd.Builder_WriteByte b b _ 34 _ (.inr HBU.out) (by have := HLEN.out; have := HZ.out; have := HIS.out; omega) HSR.out).mono ?_
          rintro e w4 ⟨rfl, hbu, hbl⟩
          have HBU4 := Lib.hid (show Lib.BuilderAt 35 5 b b (.pointer (some ⟨b, 0, none⟩)) (Lib.byteCells (quo s.data.toList)) w4 by
            have h := hbu
            rw [show ([.int .u8 34] : List Value) = [.int .u8 ((34 : UInt8).toNat : Int)] from rfl, bc_snoc] at h
            exact h)
          have HB4 := Lib.hid (HBR.out.trans (below_weak hbl HWB.out))
          clear hbu hbl
          go_wp2_with fail
          refine (Tryd.Builder_String b b (quo s.data.toList) _ (.inr HBU4.out) (by unfold quo; simp)).mono ?_
          rintro e w5 ⟨rfl, hbl⟩
          have HB5 := Lib.hid (HB4.out.trans (below_weak hbl HWB.out))
          clear hbl
          go_wp2_with fail
          go_ret2
          exact ⟨rfl, HB5.out⟩
    · have e : writtenN s = (s, true) := by unfold writtenN; rw [← hV, hVb, ← hB, hBb]; rfl
      rw [hBb] at CB
      rw [e]
      clear e hV hB hs
      go_enter Tryd.func14, Tryd.ntmps14
      go_wp2_with (first | (go_at_call 8; refine CV.out.mono ?_; rintro e w1 ⟨rfl, hb⟩; have HB1 := Lib.hid hb; clear hb) | (go_at_call 12; refine (CB.out _ HB1.out).mono ?_; rintro e w2 ⟨rfl, hb⟩; have HB2 := Lib.hid (below_step HB1.out hb); clear hb))
      go_ret2
      exact ⟨rfl, HB2.out⟩
end Go.Proofs.YtaeijlkogenblaaDoor.F
