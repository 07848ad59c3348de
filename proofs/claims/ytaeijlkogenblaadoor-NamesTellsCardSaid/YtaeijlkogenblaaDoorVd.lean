/- names.Valid: what it computes. Condition: the two tables of utf8 lie as their initialisers lay them. -/
import Derived.Test.YtaeijlkogenblaaDoorF4
import Derived.Test.YtaeijlkogenblaaDoorSh
import Derived.Lib.OthersKept
import Derived.Lib.Hide
import Derived.Laws.RangeAny
namespace Go.Proofs.YtaeijlkogenblaaDoor.F
open Go.RowKit Go.Lib Go.Proofs.YtaeijlkogenblaaDoorW.PrintWords
set_option linter.unusedVariables false
def Tabs (w : World) : Prop := Lib.Utf8Tabs (Tryd.laysValid_ren.g 3) (Tryd.laysValid_ren.g 4) w
theorem Tabs.below {w w' : World} (h : Tabs w) (hb : Below w.heap.size w w') : Tabs w' := Utf8Tabs_below h hb
/-- No rune from a place on is a control character. -/
def okr (s : ByteArray) : Nat → Nat → Bool
  | 0, _ => true
  | k + 1, pos => if pos < s.size then (if (Utf8.decode s pos).1 < 32 then false else if 127 ≤ (Utf8.decode s pos).1 then (if (Utf8.decode s pos).1 ≤ 159 then false else okr s k (pos + (Utf8.decode s pos).2)) else okr s k (pos + (Utf8.decode s pos).2)) else true
def validN (s : ByteArray) : Bool := if s.size = 0 then false else if 32 < s.size then false else if Lib.validD s.data.toList = false then false else okr s s.size 0
theorem okr_end (s : ByteArray) (k pos : Nat) (h : ¬ pos < s.size) : okr s k pos = true := by
  cases k with
  | zero => rfl
  | succ k => simp [okr, h]
theorem width_pos (s : ByteArray) (pos : Nat) (h : pos < s.size) : 1 ≤ (Utf8.decode s pos).2 := by
  by_cases ha : (s[pos]'h).toNat < 128
  · rw [decode_ascii s pos h ha]
    exact Nat.le_refl _
  · exact (decode_high s pos h (by omega)).2
theorem iterPos_of {w : World} {k : Nat} {s : ByteArray} {p : Nat} (h : w.heap[k]? = some (.stringIter s p)) : w.iterPos k = p := by simp [World.iterPos, h]
set_option maxHeartbeats 1000000 in
set_option maxRecDepth 100000 in
theorem valid_calls (s : ByteArray) (w : World) (hs : s.size ≤ 9223372036854775807) (hT : Tabs w) :
    Calls Tryd.prog 8 #[.string s] w fun e w' => e = .returned (.bool (validN s)) ∧ Below w.heap.size w w' := by
  have CV := Lib.hid (fun W (h : Tabs W) => Any.utf8_ValidString Tryd.laysValid s W hs h)
  have HT := Lib.hid hT
  clear hT
  by_cases h0 : s.size = 0
  · have e : validN s = false := by unfold validN; rw [if_pos h0]
    obtain rfl : s = ⟨#[]⟩ := by
      apply ByteArray.ext
      exact Array.eq_empty_of_size_eq_zero h0
    rw [e]
    clear e h0 hs
    go_enter Tryd.func8, Tryd.ntmps8
    go_wp2_with fail
    go_ret
    exact ⟨rfl, Below.refl _ _⟩
  · have z1 : (s.toList.isEmpty) = false := by
      rw [ByteArray.toList_eq]
      cases hl : s.data.toList with
      | nil => exact absurd (by show s.data.size = 0; rw [← Array.length_toList, hl]; rfl) h0
      | cons _ _ => rfl
    by_cases h1 : 32 < s.size
    · have e : validN s = false := by unfold validN; rw [if_neg h0, if_pos h1]
      have h1' : ¬ ((s.size : Int) ≤ 32) := by omega
      rw [e]
      clear e h0 hs h1
      go_enter Tryd.func8, Tryd.ntmps8
      go_wp2_with fail
      go_ret
      exact ⟨rfl, Below.refl _ _⟩
    · have h1' : ((s.size : Int) ≤ 32) := by omega
      have h1'' : ¬ ((32 : Int) < s.size) := by omega
      obtain ⟨V, hV⟩ : ∃ V, V = Lib.validD s.data.toList := ⟨_, rfl⟩
      cases hVb : V
      · have e : validN s = false := by unfold validN; rw [if_neg h0, if_neg h1, if_pos (by rw [← hV, hVb])]
        rw [← hV, hVb] at CV
        rw [e]
        clear e h0 hs h1 hV
        go_enter Tryd.func8, Tryd.ntmps8
        go_wp2_with (go_at_call 17; refine (CV.out _ HT.out).mono ?_; rintro e w1 ⟨rfl, hb⟩; have HB1 := Lib.hid hb; clear hb)
        go_ret
        exact ⟨rfl, HB1.out⟩
      · have e : validN s = okr s s.size 0 := by unfold validN; rw [if_neg h0, if_neg h1, if_neg (by rw [← hV, hVb]; decide)]
        rw [← hV, hVb] at CV
        have HE := Lib.hid e
        have HS := Lib.hid h1
        clear e h0 hs h1 hV
        go_enter Tryd.func8, Tryd.ntmps8
        go_wp2_with (go_at_call 17; refine (CV.out _ HT.out).mono ?_; rintro e w1 ⟨rfl, hb⟩; have HB1 := Lib.hid hb; clear hb)
        clear z1 h1' h1''
        have HX := Lib.hid (Nat.le_refl w1.heap.size)
        go_loopw [4] (fun v wr => ∃ (pos fuel : Nat), wr.heap[w1.heap.size]? = some (.stringIter s pos) ∧ Below w1.heap.size w1 wr ∧ RowKit.Hid (okr s fuel pos = okr s s.size 0) ∧ s.size ≤ pos + fuel) (fun _ wr => s.size - wr.iterPos w1.heap.size)
        case atStart => exact ⟨0, s.size, World.iter_heap w1 s 0, (Below.refl _ _).alloc (Nat.le_refl _) _, Lib.hid rfl, by omega⟩
        case round =>
          obtain ⟨pos, fuel, hit, hbw, HO, hf⟩ := hrel
          have hpos0 := iterPos_of hit
          by_cases hp : pos < s.size
          · have hnx : ∀ ty, (Instr.next (.pointer (some ⟨w1.heap.size, 0, none⟩)) true ty).run Tryd.prog wr = _ := fun ty => Lib.run_next_any_at wr w1.heap.size s pos ty hit hp
            have hwd := width_pos s pos hp
            obtain ⟨fuel, rfl⟩ : ∃ f', fuel = f' + 1 := ⟨fuel - 1, by omega⟩
            have hit2 := Lib.iterAt_heap wr w1.heap.size s pos (pos + (Utf8.decode s pos).2) hit
            have hbw2 := Lib.below_iterAt hbw (k := w1.heap.size) (Nat.le_refl _) s (pos + (Utf8.decode s pos).2)
            obtain ⟨W1, hW1⟩ : ∃ W1, W1 = wr.iterAt w1.heap.size s (pos + (Utf8.decode s pos).2) := ⟨_, rfl⟩
            rw [← hW1] at hnx hit2 hbw2
            obtain ⟨R, hR⟩ : ∃ R, R = (Utf8.decode s pos).1 := ⟨_, rfl⟩
            have hok : okr s (fuel + 1) pos = if R < 32 then false else if 127 ≤ R then (if R ≤ 159 then false else okr s fuel (pos + (Utf8.decode s pos).2)) else okr s fuel (pos + (Utf8.decode s pos).2) := by
              rw [hR]
              simp only [okr, hp, if_true]
            rw [← hR] at hnx
            have HIT := Lib.hid hit2
            have HBW := Lib.hid hbw2
            have HN := Lib.hid (And.intro hwd (And.intro hp (And.intro hf hpos0)))
            have HOK := Lib.hid hok
            clear hW1 hit hbw hok hR hwd hp hf hit2 hbw2
            by_cases c1 : R < 32
            · have c1' : (R : Int) < 32 := by omega
              have e : okr s s.size 0 = false := by rw [← HO.out, HOK.out, if_pos c1]
              clear c1
              go_wp2_with fail
              go_ret
              exact ⟨by rw [HE.out, e]; rfl, below_step HB1.out HBW.out⟩
            · by_cases c2 : 127 ≤ R
              · by_cases c3 : R ≤ 159
                · have c1' : ¬ (R : Int) < 32 := by omega
                  have c2' : (127 : Int) ≤ R := by omega
                  have c3' : (R : Int) ≤ 159 := by omega
                  have e : okr s s.size 0 = false := by rw [← HO.out, HOK.out, if_neg c1, if_pos c2, if_pos c3]
                  clear c1 c2 c3
                  go_wp2_with fail
                  go_ret
                  exact ⟨by rw [HE.out, e]; rfl, below_step HB1.out HBW.out⟩
                · have c1' : ¬ (R : Int) < 32 := by omega
                  have c2' : (127 : Int) ≤ R := by omega
                  have c3' : ¬ (R : Int) ≤ 159 := by omega
                  have e : okr s fuel (pos + (Utf8.decode s pos).2) = okr s s.size 0 := by rw [← HO.out, HOK.out, if_neg c1, if_pos c2, if_neg c3]
                  have HE2 := Lib.hid e
                  clear c1 c2 c3 e
                  go_wp2_with fail
                  go_roundw
                  case rel => exact ⟨_, fuel, HIT.out, HBW.out, HE2, by have := HN.out; omega⟩
                  case measure => rw [iterPos_of HIT.out, HN.out.2.2.2]; have := HN.out; omega
              · have c1' : ¬ (R : Int) < 32 := by omega
                have c2' : ¬ (127 : Int) ≤ R := by omega
                have e : okr s fuel (pos + (Utf8.decode s pos).2) = okr s s.size 0 := by rw [← HO.out, HOK.out, if_neg c1, if_neg c2]
                have HE2 := Lib.hid e
                clear c1 c2 e
                go_wp2_with fail
                go_roundw
                case rel => exact ⟨_, fuel, HIT.out, HBW.out, HE2, by have := HN.out; omega⟩
                case measure => rw [iterPos_of HIT.out, HN.out.2.2.2]; have := HN.out; omega
          · have hnx : ∀ ty, (Instr.next (.pointer (some ⟨w1.heap.size, 0, none⟩)) true ty).run Tryd.prog wr = _ := fun ty => Lib.run_next_end_at wr w1.heap.size s pos ty hit hp
            have e : okr s s.size 0 = true := by rw [← HO.out]; exact okr_end s fuel pos hp
            go_wp2_with fail
            go_ret
            exact ⟨by rw [HE.out, e]; rfl, below_step HB1.out hbw⟩
end Go.Proofs.YtaeijlkogenblaaDoor.F
