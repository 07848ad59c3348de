-- Written by a program of this session (mk.py over the kit's print, turned for floats and for contracts given by hand). Not trusted: Lean checks it.
import Derived.Test.YtcoodlncjnekoaaG0
namespace Go.Proofs.Ytcoodlncjnekoaa.G
open Go.RowKit Go.Proofs.YtcoodlncjnekoaaW.PrintWords Go.Proofs.YtcoodlncjnekoaaW.PrintLast Go.Proofs.YtcoodlncjnekoaaW.PrintMore
attribute [local go_sem] max2_int min2_int max_two min_two max_three min_three max_four min_four   -- for this text's walks alone
attribute [local go_sem] flt_eql flt_neq flt_lss flt_leq flt_gtr flt_geq
set_option linter.unusedVariables false
set_option linter.unusedSimpArgs false

-- NOT PRINTED: function 58 (strings_Builder_String)

-- NOT PRINTED: function 24 (disk_Disk_Bytes)

-- NOT PRINTED: function 26 (disk_Disk_Safe)

-- NOT PRINTED: function 59 (strings_Builder_Len)

-- NOT PRINTED: function 28 (disk_Disk_Cut)

-- NOT PRINTED: function 67 (abi_NoEscape)

-- NOT PRINTED: function 66 (strings_Builder_copyCheck)

-- NOT PRINTED: function 60 (strings_Builder_WriteString)

-- NOT PRINTED: function 31 (disk_Disk_Append)

-- NOT PRINTED: function 32 (disk_Disk_Sync)

-- NOT PRINTED: function 43 (disk_New)

-- NOT PRINTED: function 30 (disk_Open)

-- NOT PRINTED: function 20 (gatehouselaw21_fixed)

/-! ### gatehouselaw21_begins: function 33 -/
def gatehouselaw21_begins.f (a0 : ByteArray) (a1 : ByteArray) : Option (Bool) := if (a0.size : Int) ≤ (a1.size : Int) then (if 0 ≤ (a0.size : Int) then (some ((a1.extract 0 ((a0.size : Int) : Int).toNat).toList == a0.toList)) else (none)) else (some false)
set_option maxHeartbeats 8000000 in
set_option maxRecDepth 100000 in
theorem gatehouselaw21_begins.calls (a0 : ByteArray) (a1 : ByteArray) (r : Bool) (w : World) (h : gatehouselaw21_begins.f a0 a1 = some r) :
    Calls Try.prog 33 #[.string a0, .string a1] w fun e w' => e = .returned (.bool r) ∧ Drawn0 w w' := by
  have H : (if (a0.size : Int) ≤ (a1.size : Int) then (if 0 ≤ (a0.size : Int) then (some ((a1.extract 0 ((a0.size : Int) : Int).toNat).toList == a0.toList)) else (none)) else (some false)) = some r := h
  clear h
  by_cases c3 : (a0.size : Int) ≤ (a1.size : Int)
  · rw [if_pos c3] at H
    have c3b0 : decide ((a0.size : Int) ≤ (a1.size : Int)) = true := decide_eq_true c3
    have c3b1 : decide (a0.size ≤ a1.size) = true := decide_eq_true (Int.ofNat_le.mp c3)
    clear c3
    by_cases c4 : 0 ≤ (a0.size : Int)
    · rw [if_pos c4] at H
      have c4b0 := eq_true c4
      have c4b1 : decide (0 ≤ (a0.size : Int)) = true := decide_eq_true c4
      clear c4
      have c5b0 := eq_true (of_decide_eq_true (by first | (with_reducible assumption) | assumption) : (a0.size : Int) ≤ (a1.size : Int))
      obtain rfl := Option.some.inj H
      go_enter Try.func33, Try.ntmps33
      go_wp2
      go_ret
      exact ⟨by first | rfl | (simp; done) | (simp [*]; done), by repeat (first | exact Drawn0.refl _ | apply Drawn0.step)⟩
    · rw [if_neg c4] at H
      exact absurd H (by simp)
  · rw [if_neg c3] at H
    have c3b0 : decide ((a0.size : Int) ≤ (a1.size : Int)) = false := decide_eq_false c3
    have c3b1 : decide (a0.size ≤ a1.size) = false := decide_eq_false (fun h => c3 (Int.ofNat_le.mpr h))
    clear c3
    obtain rfl := Option.some.inj H
    go_enter Try.func33, Try.ntmps33
    go_wp2
    go_ret
    exact ⟨by first | rfl | (simp; done) | (simp [*]; done), by repeat (first | exact Drawn0.refl _ | apply Drawn0.step)⟩

-- NOT PRINTED: function 6 (gatehouselaw21_DiskKeeps)

-- NOT PRINTED: function 7 (gatehouselaw21_DiskOutlives)

end Go.Proofs.Ytcoodlncjnekoaa.G
