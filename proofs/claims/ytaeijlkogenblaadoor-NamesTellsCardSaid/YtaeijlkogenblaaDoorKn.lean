/- known, NamesNames, NamesApart: walked. Condition: the two tables of utf8 lie as their initialisers lay them. -/
import Derived.Test.YtaeijlkogenblaaDoorWr
namespace Go.Proofs.YtaeijlkogenblaaDoor.F
open Go.RowKit Go.Lib Go.Proofs.YtaeijlkogenblaaDoorW.PrintWords
set_option linter.unusedVariables false
theorem bytes_eq {a b : ByteArray} (h : a.data.toList = b.data.toList) : a = b := ByteArray.ext (Array.ext' h)
theorem k1 : writtenN (⟨#[97, 32, 98]⟩ : ByteArray) = (⟨#[34, 97, 32, 98, 34]⟩, true) := by decide +kernel
theorem k2 : writtenN (⟨#[114, 111, 108, 101]⟩ : ByteArray) = (⟨#[34, 114, 111, 108, 101, 34]⟩, true) := by decide +kernel
theorem k3 : writtenN (⟨#[100, 111, 111, 114, 49]⟩ : ByteArray) = (⟨#[100, 111, 111, 114, 49]⟩, true) := by decide +kernel
set_option maxHeartbeats 1000000 in
set_option maxRecDepth 100000 in
theorem known_calls (w : World) (hT : Tabs w) :
    Calls Tryd.prog 7 #[] w fun e w' => e = .returned (.bool true) ∧ Below w.heap.size w w' := by
  have C1 := Lib.hid (written_calls (⟨#[97, 32, 98]⟩ : ByteArray) w (by decide) hT)
  have C2 := Lib.hid (fun W (h : Below w.heap.size w W) => written_calls (⟨#[114, 111, 108, 101]⟩ : ByteArray) W (by decide) (hT.below h))
  have C3 := Lib.hid (fun W (h : Below w.heap.size w W) => written_calls (⟨#[100, 111, 111, 114, 49]⟩ : ByteArray) W (by decide) (hT.below h))
  rw [k1] at C1
  rw [k2] at C2
  rw [k3] at C3
  clear hT
  go_enter Tryd.func7, Tryd.ntmps7
  go_wp2_with (first | (go_at_call 14; refine C1.out.mono ?_; rintro e w1 ⟨rfl, hb⟩; have HB1 := Lib.hid hb; clear hb C1) | (go_at_call 14; refine (C2.out _ HB1.out).mono ?_; rintro e w2 ⟨rfl, hb⟩; have HB2 := Lib.hid (below_step HB1.out hb); clear hb C2) | (go_at_call 14; refine (C3.out _ HB2.out).mono ?_; rintro e w3 ⟨rfl, hb⟩; have HB3 := Lib.hid (below_step HB2.out hb); clear hb C3))
  go_ret
  exact ⟨rfl, HB3.out⟩
set_option maxHeartbeats 1000000 in
set_option maxRecDepth 100000 in
theorem names_walk (w : World) (hT : Tabs w) :
    Calls Tryd.prog 3 #[] w fun e w' => e = .returned (.bool true) ∧ Below w.heap.size w w' := by
  have C1 := Lib.hid (known_calls w hT)
  clear hT
  go_enter Tryd.func3, Tryd.ntmps3
  go_wp2_with (go_at_call 7; refine C1.out.mono ?_; rintro e w1 ⟨rfl, hb⟩; have HB1 := Lib.hid hb; clear hb)
  go_ret
  exact ⟨rfl, HB1.out⟩
end Go.Proofs.YtaeijlkogenblaaDoor.F
