/- names.Bare: what it computes. Condition: the two tables of utf8 lie as their initialisers lay them. -/
import Derived.Test.YtaeijlkogenblaaDoorVd
import Derived.Test.YtaeijlkogenblaaDoorF3
namespace Go.Proofs.YtaeijlkogenblaaDoor.F
open Go.RowKit Go.Lib Go.Proofs.YtaeijlkogenblaaDoorW.PrintWords
set_option linter.unusedVariables false
def keyN (s : ByteArray) : Bool := (names_Keyword.f s).getD false
def headI (c : Int) : Bool := (names_head.f c).getD false
theorem ex_ite {α : Type} {p : Prop} [Decidable p] {a b : Option α} (ha : ∃ x, a = some x) (hb : ∃ x, b = some x) : ∃ x, (if p then a else b) = some x := by
  by_cases c : p
  · rw [if_pos c]; exact ha
  · rw [if_neg c]; exact hb
theorem key_f (s : ByteArray) : names_Keyword.f s = some (keyN s) := by
  have h : ∃ b, names_Keyword.f s = some b := by
    unfold names_Keyword.f
    repeat' (first | (with_reducible refine ex_ite ?_ ?_) | exact ⟨_, rfl⟩)
  obtain ⟨b, hb⟩ := h
  unfold keyN
  rw [hb]
  rfl
theorem head_f (c : Int) : names_head.f c = some (headI c) := by
  have h : ∃ b, names_head.f c = some b := by
    unfold names_head.f
    repeat' (first | (with_reducible refine ex_ite ?_ ?_) | exact ⟨_, rfl⟩)
  obtain ⟨b, hb⟩ := h
  unfold headI
  rw [hb]
  rfl
/-- A sign that may stand behind a bare name's first one. -/
def tailI (c : Int) : Bool := if headI c = true then true else if c = 45 then true else if c < 48 then false else if 57 < c then false else true
def tl (s : ByteArray) : Nat → Nat → Bool
  | 0, _ => true
  | k + 1, i => if i < s.size then (if tailI (bt s i) = true then tl s k (i + 1) else false) else true
def bareN (s : ByteArray) : Bool := if validN s = false then false else if keyN s = true then false else if headI (bt s 0) = false then false else tl s s.size 1
theorem valid_size {s : ByteArray} (h : validN s = true) : 1 ≤ s.size ∧ s.size ≤ 32 := by
  unfold validN at h
  split at h
  · cases h
  · split at h
    · cases h
    · omega
theorem tl_end (s : ByteArray) (k i : Nat) (h : ¬ i < s.size) : tl s k i = true := by
  cases k with
  | zero => rfl
  | succ k => simp [tl, h]
theorem bt_of (s : ByteArray) (i : Nat) (h : i < s.size) : bt s i = ((s[i]'h).toNat : Int) := by
  unfold bt
  simp [h]
set_option maxHeartbeats 1000000 in
set_option maxRecDepth 100000 in
theorem bare_calls (s : ByteArray) (w : World) (hs : s.size ≤ 9223372036854775807) (hT : Tabs w) :
    Calls Tryd.prog 12 #[.string s] w fun e w' => e = .returned (.bool (bareN s)) ∧ Below w.heap.size w w' := by
  have CV := Lib.hid (valid_calls s w hs hT)
  have CK := Lib.hid (fun W => names_Keyword.calls s (keyN s) W (key_f s))
  have CH := Lib.hid (fun c W => names_head.calls c (headI c) W (head_f c))
  clear hT
  obtain ⟨V, hV⟩ : ∃ V, V = validN s := ⟨_, rfl⟩
  obtain ⟨Ky, hK⟩ : ∃ Ky, Ky = keyN s := ⟨_, rfl⟩
  cases hVb : V
  · have e : bareN s = false := by unfold bareN; rw [← hV, hVb]; rfl
    rw [← hV, hVb] at CV
    rw [e]
    clear e hs hV CK CH
    go_enter Tryd.func12, Tryd.ntmps12
    go_wp2_with (go_at_call 8; refine CV.out.mono ?_; rintro e w1 ⟨rfl, hb⟩; have HB1 := Lib.hid hb; clear hb)
    go_ret
    exact ⟨rfl, HB1.out⟩
  · have hz := valid_size (s := s) (by rw [← hV, hVb])
    rw [← hV, hVb] at CV
    rw [← hK] at CK
    have hi0 : 0 < s.size := by omega
    have hb0 := bt_of s 0 hi0
    obtain ⟨H0, hH⟩ : ∃ H0, H0 = headI (bt s 0) := ⟨_, rfl⟩
    have CH0 := Lib.hid (fun W => CH.out (bt s 0) W)
    rw [← hH] at CH0
    have hb0' : bt s 0 = ((s[0]'hi0).toNat : Int) := hb0
    rw [hb0'] at CH0
    clear hb0 hb0'
    cases hKb : Ky
    · rw [hKb] at CK
      cases hHb : H0
      · have e : bareN s = false := by unfold bareN; rw [← hV, hVb, ← hK, hKb, ← hH, hHb]; rfl
        rw [hHb] at CH0
        rw [e]
        clear e hs hV hK hH CH hz
        go_enter Tryd.func12, Tryd.ntmps12
        go_wp2_with (first | (go_at_call 8; refine CV.out.mono ?_; rintro e w1 ⟨rfl, hb⟩; have HB1 := Lib.hid hb; clear hb) | (go_at_call 10; refine (CK.out _).mono ?_; rintro e w2 ⟨rfl, hb⟩; have HB2 := Lib.hid (below_step HB1.out hb.below); clear hb) | (go_at_call 20; refine (CH0.out _).mono ?_; rintro e w3 ⟨rfl, hb⟩; have HB3 := Lib.hid (below_step HB2.out hb.below); clear hb))
        go_ret
        exact ⟨rfl, HB3.out⟩
      · have e : bareN s = tl s s.size 1 := by unfold bareN; rw [← hV, hVb, ← hK, hKb, ← hH, hHb]; rfl
        rw [hHb] at CH0
        have HE := Lib.hid e
        have HZ := Lib.hid hz
        clear e hV hK hH hz hs
        go_enter Tryd.func12, Tryd.ntmps12
        go_wp2_with (first | (go_at_call 8; refine CV.out.mono ?_; rintro e w1 ⟨rfl, hb⟩; have HB1 := Lib.hid hb; clear hb) | (go_at_call 10; refine (CK.out _).mono ?_; rintro e w2 ⟨rfl, hb⟩; have HB2 := Lib.hid (below_step HB1.out hb.below); clear hb) | (go_at_call 20; refine (CH0.out _).mono ?_; rintro e w3 ⟨rfl, hb⟩; have HB3 := Lib.hid (below_step HB2.out hb.below); clear hb))
        clear CH0 CK CV
        go_loopw [3] (fun v wr => ∃ (i fuel : Nat), v = .int .i64 (i : Nat) ∧ i ≤ s.size ∧ Below w.heap.size w wr ∧ RowKit.Hid (tl s fuel i = tl s s.size 1) ∧ s.size ≤ i + fuel) (fun v _ => s.size - (RowKit.intOf v).toNat)
        case atStart => exact ⟨1, s.size, rfl, HZ.out.1, HB3.out, Lib.hid rfl, by omega⟩
        case round =>
          obtain ⟨i, fuel, rfl, hi, hbw, HO, hf⟩ := hrel
          by_cases hp : i < s.size
          · obtain ⟨fuel, rfl⟩ : ∃ f', fuel = f' + 1 := ⟨fuel - 1, by omega⟩
            obtain ⟨T, hT2⟩ : ∃ T, T = tailI (bt s i) := ⟨_, rfl⟩
            have hok : tl s (fuel + 1) i = if T = true then tl s fuel (i + 1) else false := by
              rw [hT2]
              simp only [tl, hp, if_true]
            have CHi := Lib.hid (fun W => CH.out (bt s i) W)
            have hbi := bt_of s i hp
            rw [hbi] at hT2 CHi
            obtain ⟨Hi, hHi⟩ : ∃ Hi, Hi = headI ((s[i]'hp).toNat : Int) := ⟨_, rfl⟩
            rw [← hHi] at CHi
            have HTT : T = if Hi = true then true else if ((s[i]'hp).toNat : Int) = 45 then true else if ((s[i]'hp).toNat : Int) < 48 then false else if (57 : Int) < ((s[i]'hp).toNat : Int) then false else true := by rw [hT2, hHi]; rfl
            have HBW := Lib.hid hbw
            have HN := Lib.hid (And.intro hp hf)
            have HOK := Lib.hid hok
            have HWR := Lib.hid (show wrap64 ((i : Int) + 1) = ((i + 1 : Nat) : Int) by have := HZ.out.2; unfold wrap64; omega)
            have hix : (i : Int) < (s.size : Int) := by omega
            have HGO : T = true → RowKit.Hid (tl s fuel (i + 1) = tl s s.size 1) := fun h => Lib.hid (by rw [← HO.out, HOK.out, if_pos h])
            have HST : T = false → tl s s.size 1 = false := fun h => by rw [← HO.out, HOK.out, h]; rfl
            clear hbw hf hbi hok hT2 hHi
            cases hHb2 : Hi
            · rw [hHb2] at CHi HTT
              by_cases c1 : ((s[i]'hp).toNat : Int) = 45
              · rw [if_neg (by decide), if_pos c1] at HTT
                have HG := HGO HTT
                have k1 : (((s[i]'hp).toNat : Int) == 45) = true := beq_iff_eq.2 c1
                have k1n : (((s[i]'hp).toNat : Int) != 45) = false := by simp [c1]
                clear HGO HST HTT c1
                go_wp2_with (go_at_call 20; refine (CHi.out _).mono ?_; rintro e w5 ⟨rfl, hb⟩; have HB5 := Lib.hid (below_step HBW.out hb.below); clear hb)
                go_roundw
                case rel => exact ⟨i + 1, fuel, by rw [HWR.out], HN.out.1, HB5.out, HG, by have := HN.out; omega⟩
                case measure => rw [HWR.out]; have := HN.out; simp [RowKit.intOf]; omega
              · have k1 : (((s[i]'hp).toNat : Int) == 45) = false := beq_eq_false_iff_ne.2 c1
                have k1n : (((s[i]'hp).toNat : Int) != 45) = true := bne_iff_ne.2 c1
                rw [if_neg (by decide), if_neg c1] at HTT
                by_cases c2 : ((s[i]'hp).toNat : Int) < 48
                · rw [if_pos c2] at HTT
                  have k2 := decide_eq_true c2
                  have HG := Lib.hid (HST HTT)
                  clear HGO HST HTT c1
                  go_wp2_with (go_at_call 20; refine (CHi.out _).mono ?_; rintro e w5 ⟨rfl, hb⟩; have HB5 := Lib.hid (below_step HBW.out hb.below); clear hb)
                  go_ret
                  exact ⟨by rw [HE.out, HG.out]; rfl, HB5.out⟩
                · rw [if_neg c2] at HTT
                  have k2 := decide_eq_false c2
                  by_cases c3 : (57 : Int) < ((s[i]'hp).toNat : Int)
                  · rw [if_pos c3] at HTT
                    have k3 := decide_eq_true c3
                    have HG := Lib.hid (HST HTT)
                    clear HGO HST HTT c1
                    go_wp2_with (go_at_call 20; refine (CHi.out _).mono ?_; rintro e w5 ⟨rfl, hb⟩; have HB5 := Lib.hid (below_step HBW.out hb.below); clear hb)
                    go_ret
                    exact ⟨by rw [HE.out, HG.out]; rfl, HB5.out⟩
                  · rw [if_neg c3] at HTT
                    have k3 := decide_eq_false c3
                    have HG := HGO HTT
                    clear HGO HST HTT c1
                    go_wp2_with (go_at_call 20; refine (CHi.out _).mono ?_; rintro e w5 ⟨rfl, hb⟩; have HB5 := Lib.hid (below_step HBW.out hb.below); clear hb)
                    go_roundw
                    case rel => exact ⟨i + 1, fuel, by rw [HWR.out], HN.out.1, HB5.out, HG, by have := HN.out; omega⟩
                    case measure => rw [HWR.out]; have := HN.out; simp [RowKit.intOf]; omega
            · rw [hHb2] at CHi HTT
              have HG := HGO HTT
              clear HGO HST HTT
              go_wp2_with (go_at_call 20; refine (CHi.out _).mono ?_; rintro e w5 ⟨rfl, hb⟩; have HB5 := Lib.hid (below_step HBW.out hb.below); clear hb)
              go_roundw
              case rel => exact ⟨i + 1, fuel, by rw [HWR.out], HN.out.1, HB5.out, HG, by have := HN.out; omega⟩
              case measure => rw [HWR.out]; have := HN.out; simp [RowKit.intOf]; omega
          · have e : tl s s.size 1 = true := by rw [← HO.out]; exact tl_end s fuel i hp
            have hix : ¬ (i : Int) < (s.size : Int) := by omega
            go_wp2_with fail
            go_ret
            exact ⟨by rw [HE.out, e]; rfl, hbw⟩
    · have e : bareN s = false := by unfold bareN; rw [← hV, hVb, ← hK, hKb]; rfl
      rw [hKb] at CK
      rw [e]
      clear e hs hV hK hH CH hz CH0
      go_enter Tryd.func12, Tryd.ntmps12
      go_wp2_with (first | (go_at_call 8; refine CV.out.mono ?_; rintro e w1 ⟨rfl, hb⟩; have HB1 := Lib.hid hb; clear hb) | (go_at_call 10; refine (CK.out _).mono ?_; rintro e w2 ⟨rfl, hb⟩; have HB2 := Lib.hid (below_step HB1.out hb.below); clear hb))
      go_ret
      exact ⟨rfl, HB2.out⟩
end Go.Proofs.YtaeijlkogenblaaDoor.F
