/- MeanNames and MeanPasses: the walks that their rows ask for. Conditions: none. -/
import Derived.Test.YtnkdcekddhmjnaaOpens
import Derived.Test.YtnkdcekddhmjnaaF3
namespace Go.Proofs.Ytnkdcekddhmjnaa.F
open Go.RowKit Go.Proofs.YtnkdcekddhmjnaaW.PrintWords Go.Proofs.YtnkdcekddhmjnaaW.Open
set_option linter.unusedVariables false
theorem pass_yes : mean_Passes.f false (⟨#[]⟩ : ByteArray) (⟨#[]⟩ : ByteArray) ([] : List ByteArray) 1 4602678819172646912 4602678819172646912 = some true := by decide +kernel
theorem pass_no : mean_Passes.f false (⟨#[]⟩ : ByteArray) (⟨#[]⟩ : ByteArray) ([] : List ByteArray) 2 4602678819172646912 4602678819172646912 = some false := by decide +kernel
theorem MeanNames.walk (w : World) : Calls Try.prog 3 #[] w fun e w' => e = .returned (.bool true) ∧ Below w.heap.size w w' := by
  have hu27 := Try.underlying27
  go_enter Try.func3, Try.ntmps3
  go_wp2_with fail
  refine (mean_Passes.calls false (⟨#[]⟩ : ByteArray) (⟨#[]⟩ : ByteArray) none 0 ([] : List ByteArray) 1 _ _ true _ (Kd.C_nil _ _) (Nat.le_refl _) ?h1).mono ?_
  case h1 => exact pass_yes
  rintro e w1 ⟨rfl, hb1⟩
  go_wp2_with fail
  refine (mean_Passes.calls false (⟨#[]⟩ : ByteArray) (⟨#[]⟩ : ByteArray) none 0 ([] : List ByteArray) 2 _ _ false _ (Kd.C_nil _ _) (Nat.le_refl _) ?h2).mono ?_
  case h2 => exact pass_no
  rintro e w2 ⟨rfl, hb2⟩
  go_wp2_with fail
  go_ret
  exact ⟨rfl, hb1.trans (below_then (Below.refl _ _) hb1.size hb2)⟩
theorem passes_same (a : Bool) (b c : ByteArray) (l : List ByteArray) (d : Int) (e t : Nat) : gatehouselaw08_MeanPasses.f a b c l d e t = some true := by
  unfold gatehouselaw08_MeanPasses.f mean_Passes.f gatehouseref08_Passes.f
  by_cases h0 : d = 0
  · subst h0; rfl
  by_cases h1 : d = 1
  · subst h1
    cases h : fge t e <;> rfl
  by_cases h2 : d = 2
  · subst h2
    cases h : flt t e <;> rfl
  simp only [if_neg h0, if_neg h1, if_neg h2]
  rfl
theorem MeanPasses.walk (x0 : S27) (c0 : Array Value) (x1 : Nat) (v1 : Value) (w : World) (hk0 : Kd.K k27 w x0 c0.toList) (hg0 : g27 x0) (hk1 : Kd.K Kd.float w x1 [v1]) (hg1 : True) :
    Calls Try.prog 4 #[.agg c0, v1] w fun e w' => e = .returned (.bool true) ∧ Below w.heap.size w w' := by
  obtain ⟨A3, c3, hc0, l3, g3⟩ := k27_open hk0
  obtain rfl : c0 = #[.bool x0.f0, .string x0.f1, .string x0.f2, .slice A3 x0.f3.length c3, .int .i8 x0.f4, .float .f64 x0.f5] := arr_of hc0
  obtain rfl : v1 = .float .f64 x1 := by injection (hk1 : [v1] = [.float .f64 x1])
  refine (gatehouselaw08_MeanPasses.calls _ _ _ _ _ _ _ _ _ true w g3 l3 (passes_same ..)).mono ?_
  rintro e w' ⟨rfl, hb⟩
  exact ⟨rfl, hb⟩
end Go.Proofs.Ytnkdcekddhmjnaa.F
