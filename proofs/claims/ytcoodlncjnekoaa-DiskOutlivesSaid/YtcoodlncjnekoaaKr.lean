/- DiskKeeps: the walk that its row asks for. Conditions: none. -/
import Derived.Test.YtcoodlncjnekoaaKw
import Derived.Test.YtcoodlncjnekoaaOpensG
namespace Go.Proofs.Ytcoodlncjnekoaa.G
open Go.RowKit Go.Proofs.YtcoodlncjnekoaaW.PrintWords
set_option linter.unusedVariables false
theorem i64_of_wf {x : Int} (h : (Lit.int .i64 x).wf = true) : -9223372036854775808 ≤ x ∧ x ≤ 9223372036854775807 := by
  simp only [Lit.wf, IntKind.min, IntKind.max, IntKind.signed, IntKind.bits, Bool.and_eq_true, decide_eq_true_eq, if_true] at h
  omega
theorem DiskKeeps.walk (x0 : S46) (c0 : Array Value) (x1 : (List S50)) (v1 : Value) (w : World) (hk0 : Kd.K k46 w x0 c0.toList) (hg0 : g46 x0) (hk1 : Kd.K (Kd.slice 50 k50) w x1 [v1]) (hg1 : (x1.length * 40 ≤ 140737488351232 ∧ x1.length ≤ 9223372036854775807 ∧ ∀ x_ ∈ x1, g50 x_)) :
    Calls Try.prog 6 #[.agg c0, v1] w fun e w' => e = .returned (.bool true) ∧ Below w.heap.size w w' := by
  obtain ⟨A, c, h0, hc, hr⟩ := hk1
  injection h0 with h0
  subst h0
  obtain rfl : c0 = #[.int .i64 x0.f0, .bool x0.f1, .string x0.f2] := Array.ext' (k46_open hk0)
  exact D.keeps_walk x0.f0 x0.f1 x0.f2 A c x1 w hc hr hg1.2.1 hg0.2.2 (fun x hx => ⟨(hg1.2.2 x hx).2.2.1, i64_of_wf (hg1.2.2 x hx).2.2.2⟩)
end Go.Proofs.Ytcoodlncjnekoaa.G
