import Derived.Test.YtcoodlncjnekoaaYj
import Derived.Test.YtcoodlncjnekoaaOpensH
/- JournalActs: the walk that its row asks for. Conditions: none. -/
namespace Go.Proofs.Ytcoodlncjnekoaa.H
open Go.RowKit Go.Proofs.YtcoodlncjnekoaaW.PrintWords
set_option linter.unusedVariables false
theorem JournalActs.walk (x0 : S66) (c0 : Array Value) (x1 : S66) (c1 : Array Value) (x2 : (List S76)) (v2 : Value) (x3 : (List S76)) (v3 : Value) (w : World) (hk0 : Kd.K k66 w x0 c0.toList) (hg0 : g66 x0) (hk1 : Kd.K k66 w x1 c1.toList) (hg1 : g66 x1) (hk2 : Kd.K (Kd.slice 76 k76) w x2 [v2]) (hg2 : (x2.length * 32 ≤ 140737488351232 ∧ x2.length ≤ 9223372036854775807 ∧ ∀ x_ ∈ x2, g76 x_)) (hk3 : Kd.K (Kd.slice 76 k76) w x3 [v3]) (hg3 : (x3.length * 32 ≤ 140737488351232 ∧ x3.length ≤ 9223372036854775807 ∧ ∀ x_ ∈ x3, g76 x_)) :
    Calls Try.prog 12 #[.agg c0, .agg c1, v2, v3] w fun e w' => e = .returned (.bool true) ∧ Below w.heap.size w w' := by
  obtain rfl : c0 = #[.string x0.f0, .int .i64 x0.f1] := Array.toList_inj.1 (k66_open hk0)
  obtain rfl : c1 = #[.string x1.f0, .int .i64 x1.f1] := Array.toList_inj.1 (k66_open hk1)
  obtain ⟨A2, d2, h2, hc2, hr2⟩ := hk2
  injection h2 with h2
  subst h2
  obtain ⟨A3, d3, h3, hc3, hr3⟩ := hk3
  injection h3 with h3
  subst h3
  exact F.acts_walk x0.f0 x1.f0 x0.f1 x1.f1 x2 x3 A2 A3 d2 d3 w hr2 hr3 hg2.1 hg3.1 hg0.1 hg1.1 (fun x hx => (hg2.2.2 x hx).2.2) (fun x hx => (hg3.2.2 x hx).2.2)
end Go.Proofs.Ytcoodlncjnekoaa.H
