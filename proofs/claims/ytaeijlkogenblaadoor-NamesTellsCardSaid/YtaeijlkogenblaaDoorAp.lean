/- NamesApart: two names are written alike just if they are one. Condition: the two tables of utf8 lie as their initialisers lay them. -/
import Derived.Test.YtaeijlkogenblaaDoorKn
namespace Go.Proofs.YtaeijlkogenblaaDoor.F
open Go.RowKit Go.Lib Go.Proofs.YtaeijlkogenblaaDoorW.PrintWords
set_option linter.unusedVariables false
theorem esc1_head (b : UInt8) : ∃ t, esc1 b = 92 :: t ∨ (esc1 b = [b] ∧ b ≠ 92 ∧ b ≠ 34) := by
  unfold esc1
  by_cases c : b = 34
  · exact ⟨[b], .inl (by rw [if_pos c])⟩
  · by_cases c2 : b = 92
    · exact ⟨[b], .inl (by rw [if_neg c, if_pos c2])⟩
    · exact ⟨[], .inr ⟨by rw [if_neg c, if_neg c2], c2, c⟩⟩
theorem esc1_two {b : UInt8} (h : b = 34 ∨ b = 92) : esc1 b = [92, b] := by
  unfold esc1
  rcases h with rfl | rfl <;> rfl
theorem esc1_one {b : UInt8} (h : ¬ (b = 34 ∨ b = 92)) : esc1 b = [b] := by
  unfold esc1
  rw [if_neg (fun c => h (.inl c)), if_neg (fun c => h (.inr c))]
theorem escL_inj : ∀ (a b : List UInt8), escL a = escL b → a = b
  | [], [], _ => rfl
  | [], y :: b, h => by
    exfalso
    have h2 : [] = esc1 y ++ escL b := h
    by_cases c : y = 34 ∨ y = 92
    · rw [esc1_two c] at h2; cases h2
    · rw [esc1_one c] at h2; cases h2
  | x :: a, [], h => by
    exfalso
    have h2 : esc1 x ++ escL a = [] := h
    by_cases c : x = 34 ∨ x = 92
    · rw [esc1_two c] at h2; cases h2
    · rw [esc1_one c] at h2; cases h2
  | x :: a, y :: b, h => by
    have h2 : esc1 x ++ escL a = esc1 y ++ escL b := h
    by_cases c : x = 34 ∨ x = 92
    · rw [esc1_two c] at h2
      by_cases d : y = 34 ∨ y = 92
      · rw [esc1_two d] at h2
        injection h2 with _ h2
        injection h2 with h3 h4
        rw [h3, escL_inj a b h4]
      · rw [esc1_one d] at h2
        injection h2 with h3 _
        exact absurd (.inr h3.symm) d
    · rw [esc1_one c] at h2
      by_cases d : y = 34 ∨ y = 92
      · rw [esc1_two d] at h2
        injection h2 with h3 _
        exact absurd (.inr h3) c
      · rw [esc1_one d] at h2
        injection h2 with h3 h4
        rw [h3, escL_inj a b h4]
theorem quo_inj {a b : List UInt8} (h : quo a = quo b) : a = b := by
  unfold quo at h
  injection h with _ h
  exact escL_inj a b (List.append_cancel_right h)
theorem bare_head {s : ByteArray} (h : bareN s = true) : headI (bt s 0) = true ∧ validN s = true ∧ keyN s = false := by
  unfold bareN at h
  cases hV : validN s
  · rw [hV] at h; cases h
  · rw [hV] at h
    cases hK : keyN s
    · rw [hK] at h
      cases hH : headI (bt s 0)
      · rw [hH] at h; cases h
      · exact ⟨rfl, rfl, rfl⟩
    · rw [hK] at h; cases h
theorem bare_ne_quo {s : ByteArray} (h : bareN s = true) (l : List UInt8) : s ≠ ⟨(quo l).toArray⟩ := by
  rintro rfl
  have h1 := (bare_head h).1
  have h2 : bt (⟨(quo l).toArray⟩ : ByteArray) 0 = 34 := by
    have hz : 0 < (⟨(quo l).toArray⟩ : ByteArray).size := by
      show 0 < (quo l).toArray.size
      rw [List.size_toArray]
      exact Nat.succ_pos _
    exact (bt_of _ 0 hz).trans rfl
  rw [h2] at h1
  exact absurd h1 (by decide)
theorem written_inj (a b : ByteArray) (ha : (writtenN a).2 = true) (hb : (writtenN b).2 = true) : (writtenN a).1 = (writtenN b).1 ↔ a = b := by
  refine ⟨fun h => ?_, fun h => by rw [h]⟩
  have hw : ∀ s, (writtenN s).2 = true → (bareN s = true ∧ (writtenN s).1 = s) ∨ (bareN s = false ∧ (writtenN s).1 = ⟨(quo s.data.toList).toArray⟩) := by
    intro s hs
    unfold writtenN at hs ⊢
    cases hV : validN s
    · rw [hV] at hs; cases hs
    · cases hB : bareN s
      · right; exact ⟨rfl, rfl⟩
      · left; exact ⟨rfl, rfl⟩
  rcases hw a ha with ⟨b1, e1⟩ | ⟨b1, e1⟩ <;> rcases hw b hb with ⟨b2, e2⟩ | ⟨b2, e2⟩ <;> rw [e1, e2] at h
  · exact h
  · exact absurd h (bare_ne_quo b1 _)
  · exact absurd h.symm (bare_ne_quo b2 _)
  · injection h with h
    have h3 : quo a.data.toList = quo b.data.toList := by
      have := congrArg Array.toList h
      simpa using this
    exact bytes_eq (quo_inj h3)
theorem beq_iff_bytes (a b : ByteArray) : (a.toList == b.toList) = decide (a = b) := by
  rw [ByteArray.toList_eq, ByteArray.toList_eq]
  by_cases h : a = b
  · subst h
    simp
  · rw [decide_eq_false h]
    exact beq_eq_false_iff_ne.2 (fun h2 => h (bytes_eq h2))
set_option maxHeartbeats 1000000 in
set_option maxRecDepth 100000 in
theorem apart_walk (a b : ByteArray) (w : World) (ha : a.size ≤ 9223372036854775807) (hb : b.size ≤ 9223372036854775807) (hT : Tabs w) :
    Calls Tryd.prog 6 #[.string a, .string b] w fun e w' => e = .returned (.bool true) ∧ Below w.heap.size w w' := by
  have C1 := Lib.hid (written_calls a w ha hT)
  have C2 := Lib.hid (fun W (h : Below w.heap.size w W) => written_calls b W hb (hT.below h))
  have C3 := Lib.hid (fun W (h : Below w.heap.size w W) => known_calls W (hT.below h))
  have HI := written_inj a b
  obtain ⟨A, hA⟩ : ∃ A, A = writtenN a := ⟨_, rfl⟩
  obtain ⟨B, hB⟩ : ∃ B, B = writtenN b := ⟨_, rfl⟩
  rw [← hA] at C1 HI
  rw [← hB] at C2 HI
  obtain ⟨va, oa⟩ := A
  obtain ⟨vb, ob⟩ := B
  simp only at C1 C2 HI
  clear hT hA hB ha hb
  cases oa
  · clear HI
    go_enter Tryd.func6, Tryd.ntmps6
    go_wp2_with (first | (go_at_call 14; refine C1.out.mono ?_; rintro e w1 ⟨rfl, hb⟩; have HB1 := Lib.hid hb; clear hb C1) | (go_at_call 14; refine (C2.out _ HB1.out).mono ?_; rintro e w2 ⟨rfl, hb⟩; have HB2 := Lib.hid (below_step HB1.out hb); clear hb C2) | (go_at_call 7; refine (C3.out _ HB2.out).mono ?_; rintro e w3 ⟨rfl, hb⟩; have HB3 := Lib.hid (below_step HB2.out hb); clear hb C3))
    go_ret
    exact ⟨rfl, HB3.out⟩
  · cases ob
    · clear HI
      go_enter Tryd.func6, Tryd.ntmps6
      go_wp2_with (first | (go_at_call 14; refine C1.out.mono ?_; rintro e w1 ⟨rfl, hb⟩; have HB1 := Lib.hid hb; clear hb C1) | (go_at_call 14; refine (C2.out _ HB1.out).mono ?_; rintro e w2 ⟨rfl, hb⟩; have HB2 := Lib.hid (below_step HB1.out hb); clear hb C2) | (go_at_call 7; refine (C3.out _ HB2.out).mono ?_; rintro e w3 ⟨rfl, hb⟩; have HB3 := Lib.hid (below_step HB2.out hb); clear hb C3))
      go_ret
      exact ⟨rfl, HB3.out⟩
    · have hi := HI rfl rfl
      have q1 := beq_iff_bytes va vb
      have q2 := beq_iff_bytes a b
      have q3 : decide (va = vb) = decide (a = b) := decide_eq_decide.2 hi
      rw [q3] at q1
      obtain ⟨z, hz⟩ : ∃ z, z = decide (a = b) := ⟨_, rfl⟩
      rw [← hz] at q1 q2
      clear hi q3 hz HI
      cases z
      all_goals (
        go_enter Tryd.func6, Tryd.ntmps6
        go_wp2_with (first | (go_at_call 14; refine C1.out.mono ?_; rintro e w1 ⟨rfl, hb⟩; have HB1 := Lib.hid hb; clear hb C1) | (go_at_call 14; refine (C2.out _ HB1.out).mono ?_; rintro e w2 ⟨rfl, hb⟩; have HB2 := Lib.hid (below_step HB1.out hb); clear hb C2) | (go_at_call 7; refine (C3.out _ HB2.out).mono ?_; rintro e w3 ⟨rfl, hb⟩; have HB3 := Lib.hid (below_step HB2.out hb); clear hb C3))
        go_ret
        exact ⟨rfl, HB3.out⟩)
end Go.Proofs.YtaeijlkogenblaaDoor.F
