/- DiskExact: the walk that its row asks for. Conditions: none. -/
import Derived.Test.YtcoodlncjnekoaaEl
import Derived.Test.YtcoodlncjnekoaaOpensE
namespace Go.Proofs.Ytcoodlncjnekoaa.G
open Go.RowKit Go.Proofs.YtcoodlncjnekoaaW.PrintWords
set_option linter.unusedVariables false
theorem i64_of_wf {x : Int} (h : (Lit.int .i64 x).wf = true) : -9223372036854775808 ≤ x ∧ x ≤ 9223372036854775807 := by
  simp only [Lit.wf, IntKind.min, IntKind.max, IntKind.signed, IntKind.bits, Bool.and_eq_true, decide_eq_true_eq, if_true] at h
  omega
theorem DiskExact.walk (x0 : (List S46)) (v0 : Value) (x1 : (List S50)) (v1 : Value) (w : World) (hk0 : Kd.K (Kd.slice 46 k46) w x0 [v0]) (hg0 : (x0.length * 32 ≤ 140737488351232 ∧ x0.length ≤ 9223372036854775807 ∧ ∀ x_ ∈ x0, g46 x_)) (hk1 : Kd.K (Kd.slice 50 k50) w x1 [v1]) (hg1 : (x1.length * 40 ≤ 140737488351232 ∧ x1.length ≤ 9223372036854775807 ∧ ∀ x_ ∈ x1, g50 x_)) :
    Calls Try.prog 5 #[v0, v1] w fun e w' => e = .returned (.bool true) ∧ Below w.heap.size w w' := by
  obtain ⟨A0, c0, h0, hc0, hr0⟩ := hk0
  injection h0 with h0
  subst h0
  obtain ⟨A1, c1, h1, hc1, hr1⟩ := hk1
  injection h1 with h1
  subst h1
  exact E.exact_walk x0 x1 A0 A1 c0 c1 w hr0 hr1 hg0.1 hg1.1 (fun x hx => (hg0.2.2 x hx).2.2) (fun x hx => ⟨(hg1.2.2 x hx).2.2.1, i64_of_wf (hg1.2.2 x hx).2.1, i64_of_wf (hg1.2.2 x hx).2.2.2⟩)
end Go.Proofs.Ytcoodlncjnekoaa.G
