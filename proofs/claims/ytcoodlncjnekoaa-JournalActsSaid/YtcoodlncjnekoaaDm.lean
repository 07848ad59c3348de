import Derived.Test.YtcoodlncjnekoaaDk
/- A disk's functions: New, Open, Append, Sync, Bytes, Safe, Cut. Conditions: each theorem's own. -/
namespace Go.Proofs.Ytcoodlncjnekoaa.D
open Go.RowKit Go.Proofs.YtcoodlncjnekoaaW.PrintWords
set_option linter.unusedVariables false
theorem bytes_dk {w : World} {B g : Nat} {v : Value} {room safe : Int} {T : ByteArray} (h : Dk w B g v room safe T) :
    Calls Try.prog 24 #[.pointer (some ⟨g, 0, none⟩)] w fun e w' => e = .returned (.string T) ∧ Dk w' B g v room safe T ∧ Left w w' B g v := by
  have HC := Lib.hid (string_dk h)
  clear h
  go_enter Try.func24, Try.ntmps24
  go_wp2_with fail
  refine HC.out.mono ?_
  rintro e w' ⟨rfl, h1, h2⟩
  have H1 := Lib.hid h1
  have H2 := Lib.hid h2
  clear h1 h2
  go_wp2_with fail
  go_ret
  exact ⟨rfl, H1.out, H2.out⟩
theorem safe_dk {w : World} {B g : Nat} {v : Value} {room safe : Int} {T : ByteArray} (h : Dk w B g v room safe T) :
    Calls Try.prog 26 #[.pointer (some ⟨g, 0, none⟩)] w fun e w' => e = .returned (.int .i64 safe) ∧ w' = w := by
  obtain ⟨p, hb, _⟩ := h.blk
  have c3 : w.cell? ⟨g, 3, none⟩ = some (.int .i64 safe) := (cells_at hb 3).trans rfl
  clear h hb
  go_enter Try.func26, Try.ntmps26
  go_wp2_with fail
  go_ret
  exact ⟨rfl, rfl⟩
theorem sync_dk {w : World} {B g : Nat} {v : Value} {room safe : Int} {T : ByteArray} (h : Dk w B g v room safe T) :
    Calls Try.prog 32 #[.pointer (some ⟨g, 0, none⟩)] w fun e w' => e = .returned (.tuple #[]) ∧ Dk w' B g v room T.size T ∧ Left w w' B g v := by
  have HC := Lib.hid (len_dk h)
  obtain ⟨p, hb, hp⟩ := h.blk
  have c3 : w.cell? ⟨g, 3, none⟩ = some (.int .i64 safe) := (cells_at hb 3).trans rfl
  have f3 := fz_at hb 3
  have HH := Lib.hid h
  have HB := Lib.hid hb
  have HP := Lib.hid hp
  clear h hb hp
  go_enter Try.func32, Try.ntmps32
  go_wp2_with fail
  refine HC.out.mono ?_
  rintro e w' ⟨rfl, rfl⟩
  go_wp2_with fail
  go_end0
  refine ⟨rfl, ⟨HH.out.base, ⟨p, by simp [World.setCell, Array.getElem?_modify, HB.out], HP.out⟩, ownF_move HH.out.own (fun k hk => Below.heap_setCell _ _ _ _ (fun e => HH.out.ne (by rw [hk]; exact congrArg some e))), HH.out.nil⟩, (Below.refl B _).setCell (p := ⟨g, 3, none⟩) HH.out.base _, fun i _ hf => Below.heap_setCell _ _ _ _ (fun e => hf (.inl e))⟩
theorem drewN_below (w : World) (n B : Nat) : Below B w (w.drewN n) := ⟨rfl, rfl, rfl, Nat.le_refl _, fun _ _ => rfl⟩
theorem append_dk {w : World} {B g : Nat} {v : Value} {room safe : Int} {T : ByteArray} (h : Dk w B g v room safe T) (s : ByteArray) (hs : s.size ≤ 140737488351232) (hr : room ≤ 1048576) (hr0 : (T.size : Int) ≤ room) (hBw : B ≤ w.heap.size) :
    Calls Try.prog 31 #[.pointer (some ⟨g, 0, none⟩), .string s] w fun e w' => (if (s.size : Int) ≤ room - T.size then e = .returned (.int .i64 0) ∧ ∃ v', Dk w' B g v' room safe (T ++ s) ∧ Left w w' B g v else e = .returned (.int .i64 210) ∧ Dk w' B g v room safe T ∧ Left w w' B g v) := by
  have mixed := mixed
  obtain ⟨p, hb, hp⟩ := h.blk
  have c0 : w.cell? ⟨g, 0, none⟩ = some (.int .i64 room) := (cells_at hb 0).trans rfl
  have HLn := Lib.hid (fun m => len_dk (w := w.drewN m) (h.move (fun _ _ _ => rfl)))
  have HH := Lib.hid h
  have hw1 : wrap64 (room - (T.size : Int)) = room - (T.size : Int) := by unfold wrap64; omega
  clear hb hp h
  by_cases c : (s.size : Int) ≤ room - T.size
  · simp only [if_pos c]
    have hc : decide (room - (T.size : Int) < (s.size : Int)) = false := decide_eq_false (by omega)
    have HW := Lib.hid (fun m => write_dk (w := w.drewN m) (HH.out.move (fun _ _ _ => rfl)) s (by omega) hBw)
    clear c hs hr hr0 hBw
    go_enter Try.func31, Try.ntmps31
    go_wp2_with fail
    go_quiet ((first | (go_at_call 59; exact Calls.quiet_of_same (HLn.out _))))
    go_wp2_with fail
    refine (HW.out _).mono ?_
    rintro e w' ⟨rfl, v', h1, h2⟩
    have H1 := Lib.hid h1
    have H2 := Lib.hid h2
    clear h1 h2
    go_wp2_with fail
    go_ret
    exact ⟨rfl, v', H1.out, (drewN_below w _ B).trans H2.out.1, fun i hi hf => H2.out.2 i hi hf⟩
  · simp only [if_neg c]
    have hc : decide (room - (T.size : Int) < (s.size : Int)) = true := decide_eq_true (by omega)
    clear c hs hr hr0 hBw
    go_enter Try.func31, Try.ntmps31
    go_wp2_with fail
    go_quiet ((first | (go_at_call 59; exact Calls.quiet_of_same (HLn.out _))))
    go_wp2_with fail
    go_ret
    exact ⟨rfl, HH.out.move (fun _ _ _ => rfl), drewN_below w _ B, fun _ _ _ => rfl⟩
theorem new_dk (room : Int) (w : World) :
    Calls Try.prog 43 #[.int .i64 room] w fun e w' => (if 0 ≤ room ∧ room ≤ 1048576 then ∃ g, e = .returned (.tuple #[.pointer (some ⟨g, 0, none⟩), .int .i64 0]) ∧ Dk w' w.heap.size g (.slice none 0 0) room 0 ⟨#[]⟩ ∧ Below w.heap.size w w' ∧ w.heap.size ≤ g
      else e = .returned (.tuple #[.pointer none, .int .i64 3]) ∧ w' = w) := by
  by_cases c1 : room < 0
  · simp only [show ¬ (0 ≤ room ∧ room ≤ 1048576) by omega, if_false]
    have d1 := decide_eq_true c1
    clear c1
    go_enter Try.func43, Try.ntmps43
    go_wp2_with fail
    go_ret2
    exact ⟨rfl, rfl⟩
  · by_cases c2 : 1048576 < room
    · simp only [show ¬ (0 ≤ room ∧ room ≤ 1048576) by omega, if_false]
      have d1 := decide_eq_false c1
      have d2 := decide_eq_true c2
      clear c1 c2
      go_enter Try.func43, Try.ntmps43
      go_wp2_with fail
      go_ret2
      exact ⟨rfl, rfl⟩
    · simp only [show (0 ≤ room ∧ room ≤ 1048576) by omega, if_true, and_self]
      have d1 := decide_eq_false c1
      have d2 := decide_eq_false c2
      clear c1 c2
      go_enter Try.func43, Try.ntmps43
      go_wp2_with fail
      go_ret2
      exact ⟨w.heap.size, rfl, ⟨Nat.le_refl _, ⟨.pointer none, by show (w.heap.push _)[w.heap.size]? = _; simp, .inl rfl⟩, World.ownsRowF_nil _ _ _ _, fun _ => rfl⟩, (Below.refl w.heap.size w).alloc (Nat.le_refl _) _, Nat.le_refl _⟩
end Go.Proofs.Ytcoodlncjnekoaa.D
