import Derived.Test.YteefneemmdfncaaDoorXc
import Derived.Test.YteefneemmdfncaaDoorXd
import Derived.Test.YteefneemmdfncaaDoorXe
/- why.Holds. Conditions: the policy and the reason read as they must; lists are bounded. -/
namespace Go.Proofs.YteefneemmdfncaaDoor.M
open Go.RowKit Go.Proofs.YteefneemmdfncaaDoorW.Raw Go.Proofs.YteefneemmdfncaaDoorW.PrintWords Go.Proofs.YteefneemmdfncaaDoor.F
set_option linter.unusedVariables false
theorem holds_calls (p : Pol) (C : Array Value) (t : Tri) (r : Rsn) (cr : Array Value) (w : World) (hk : k28.K w p C.toList) (hr : k33.K w r cr.toList) (hz : Sz p) (hlw : r.f2.length ≤ 1048576 ∧ r.f3.length ≤ 1048576) :
    Calls Tryd.prog 22 #[.agg C, .agg #[.string t.f0, .string t.f1, .string t.f2], .agg cr] w fun e w' => e = .returned (.bool (holdsL p t r)) ∧ Below w.heap.size w w' := by
  obtain ⟨A2, c2, A3, c3, e, l2, g2, l3, g3⟩ := k33_open hr
  obtain rfl : cr = #[.int .i8 r.f0, .int .i64 r.f1, .slice A2 r.f2.length c2, .slice A3 r.f3.length c3] := Array.toList_inj.1 e
  obtain ⟨v, n, ws, wt⟩ := r
  by_cases h1 : v = 1
  · subst h1; exact holds_v1 p C t n ws wt A2 A3 c2 c3 w hk l2 g2 l3 g3 hz
  by_cases h2 : v = 2
  · subst h2; exact holds_v2 p C t n ws wt A2 A3 c2 c3 w hk l2 g2 l3 g3 hz
  by_cases h3 : v = 3
  · subst h3; exact holds_v3 p C t n ws wt A2 A3 c2 c3 w hk l2 g2 l3 g3 hz hlw
  by_cases h4 : v = 4
  · subst h4; exact holds_v4 p C t n ws wt A2 A3 c2 c3 w hk l2 g2 l3 g3 hz hlw
  by_cases h5 : v = 5
  · subst h5; exact holds_v5 p C t n ws wt A2 A3 c2 c3 w hk l2 g2 l3 g3 hz
  exact holds_v0 p C t n ws wt A2 A3 c2 c3 w hk l2 g2 l3 g3 hz v ⟨h1, h2, h3, h4, h5⟩
end Go.Proofs.YteefneemmdfncaaDoor.M
