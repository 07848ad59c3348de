/- fixed: what the document says of a small disk. Conditions: none. -/
import Derived.Test.YtcoodlncjnekoaaDc
namespace Go.Proofs.Ytcoodlncjnekoaa.D
open Go.RowKit Go.Proofs.YtcoodlncjnekoaaW.PrintWords
set_option linter.unusedVariables false
theorem fixed_calls (w : World) : Calls Try.prog 20 #[] w fun e w' => e = .returned (.bool true) ∧ Below w.heap.size w w' := by
  have HO := Lib.hid (open_dk (⟨#[97, 98]⟩ : ByteArray) 5 w (by decide) (by decide) (by decide))
  have e4 : (⟨#[97, 98]⟩ : ByteArray) ++ (⟨#[99, 100]⟩ : ByteArray) = ⟨#[97, 98, 99, 100]⟩ := by decide +kernel
  have HA := Lib.hid (fun (W : World) (g : Nat) (v : Value) (h : Dk W w.heap.size g v 5 ((⟨#[97, 98]⟩ : ByteArray).size : Nat) ⟨#[97, 98]⟩) (hw : w.heap.size ≤ W.heap.size) => append_dk h (⟨#[99, 100]⟩ : ByteArray) (by decide) (by decide) (by decide) hw)
  have hf : ((((⟨#[99, 100]⟩ : ByteArray).size : Nat) : Int) ≤ 5 - (((⟨#[97, 98]⟩ : ByteArray).size : Nat) : Int)) = True := by decide
  simp only [hf, if_true, e4] at HA
  have x1 : (⟨#[97, 98, 99, 100]⟩ : ByteArray).extract 0 (cutN ⟨#[97, 98, 99, 100]⟩ (((⟨#[97, 98]⟩ : ByteArray).size : Nat) : Int) 1).toNat = ⟨#[97, 98, 99]⟩ := by decide +kernel
  have x0 : (⟨#[97, 98, 99, 100]⟩ : ByteArray).extract 0 (cutN ⟨#[97, 98, 99, 100]⟩ (((⟨#[97, 98]⟩ : ByteArray).size : Nat) : Int) 0).toNat = ⟨#[97, 98]⟩ := by decide +kernel
  have HC1 := Lib.hid (fun (W : World) (g : Nat) (v : Value) (h : Dk W w.heap.size g v 5 ((⟨#[97, 98]⟩ : ByteArray).size : Nat) ⟨#[97, 98, 99, 100]⟩) => cut_dk h 1 (by decide) (by decide) (by decide))
  have HC0 := Lib.hid (fun (W : World) (g : Nat) (v : Value) (h : Dk W w.heap.size g v 5 ((⟨#[97, 98]⟩ : ByteArray).size : Nat) ⟨#[97, 98, 99, 100]⟩) => cut_dk h 0 (by decide) (by decide) (by decide))
  rw [x1] at HC1
  rw [x0] at HC0
  clear x1 x0 hf e4
  have hsz : (((⟨#[97, 98]⟩ : ByteArray).size : Nat) : Int) = 2 := rfl
  rw [hsz] at HO HA HC1 HC0
  go_enter Try.func20, Try.ntmps20
  go_wp2_with fail
  refine HO.out.mono ?_
  rintro e w1 ⟨g, v, rfl, hd, hb⟩
  have HD := Lib.hid hd
  have HB := Lib.hid hb
  clear hd hb
  go_wp2_with fail
  refine (HA.out _ _ _ HD.out HB.out.size).mono ?_
  rintro e w2 ⟨rfl, v2, hd, hl⟩
  have HD2 := Lib.hid hd
  have HB2 := Lib.hid (HB.out.trans hl.1)
  clear hd hl
  go_wp2_with fail
  refine (safe_dk HD2.out).mono ?_
  rintro e w3 ⟨rfl, rfl⟩
  go_wp2_with fail
  refine (bytes_dk HD2.out).mono ?_
  rintro e w4 ⟨rfl, hd, hl⟩
  have HD4 := Lib.hid hd
  have HB4 := Lib.hid (HB2.out.trans hl.1)
  clear hd hl
  go_wp2_with fail
  refine (HC1.out _ _ _ HD4.out).mono ?_
  rintro e w5 ⟨rfl, hd, hl⟩
  have HD5 := Lib.hid hd
  have HB5 := Lib.hid (HB4.out.trans hl.1)
  clear hd hl
  go_wp2_with fail
  refine (HC0.out _ _ _ HD5.out).mono ?_
  rintro e w6 ⟨rfl, hd, hl⟩
  have HB6 := Lib.hid (HB5.out.trans hl.1)
  clear hd hl
  go_wp2_with fail
  go_ret
  exact ⟨rfl, HB6.out⟩
end Go.Proofs.Ytcoodlncjnekoaa.D
