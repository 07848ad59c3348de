/- MeanOrder as the row asks for it. Conditions: each theorem's own. -/
import Derived.Test.YtnkdcekddhmjnaaPK
import Derived.Test.YtnkdcekddhmjnaaSz
namespace Go.Proofs.Ytnkdcekddhmjnaa.F
open Go.RowKit Go.Proofs.YtnkdcekddhmjnaaW.PrintWords
set_option linter.unusedVariables false
theorem MeanOrder.walk (x0 : S34) (c0 : Array Value) (x1 : Int) (v1 : Value) (w : World) (hk0 : Kd.K k34 w x0 c0.toList) (hg0 : g34 x0) (hk1 : Kd.K (Kd.int .i64) w x1 [v1]) (hg1 : (Lit.int .i64 x1).wf = true) (hb : b34 x0 + 1 ≤ 1048576) :
    Calls Go.Proofs.Try.prog 10 #[.agg c0, v1] w fun e w' => e = .returned (.bool true) ∧ Below w.heap.size w w' := by
  have hs := sz_of x0 (by omega)
  clear hb hg0 hg1
  obtain rfl : v1 = .int .i64 x1 := by have h : [v1] = [Value.int .i64 x1] := hk1; injection h
  clear hk1
  obtain ⟨k, hk⟩ := M.ord_f x0 x1 hs
  obtain ⟨C0, rfl⟩ : ∃ C, C = c0 := ⟨_, rfl⟩
  obtain ⟨p, rfl⟩ : ∃ p, p = x0 := ⟨_, rfl⟩
  obtain ⟨A0, c0, A1, c1, A2, c2, A3, c3, A4, c4, A5, c5, A6, c6, A7, c7, A8, c8, A9, c9, A10, c10, e_, l0, g0, l1, g1, l2, g2, l3, g3, l4, g4, l5, g5, l6, g6, l7, g7, l8, g8, l9, g9, l10, g10⟩ := k34_open hk0
  obtain rfl : C0 = #[.slice A0 p.f0.length c0, .slice A1 p.f1.length c1, .slice A2 p.f2.length c2, .slice A3 p.f3.length c3, .slice A4 p.f4.length c4, .slice A5 p.f5.length c5, .slice A6 p.f6.length c6, .slice A7 p.f7.length c7, .slice A8 p.f8.length c8, .slice A9 p.f9.length c9, .slice A10 p.f10.length c10] := by cases C0; simpa using e_
  clear e_
  exact gatehouselaw08_MeanOrder.calls k A0 c0 p.f0 A1 c1 p.f1 A2 c2 p.f2 A3 c3 p.f3 A4 c4 p.f4 A5 c5 p.f5 A6 c6 p.f6 A7 c7 p.f7 A8 c8 p.f8 (fun _ => True) A9 c9 p.f9 A10 c10 p.f10 x1 true w g0 l0 g1 l1 g2 l2 g3 l3 g4 l4 g5 l5 g6 l6 g7 l7 g8 l8 (V_of_C k27_heap g9 l9) g10 l10 (hk k (Nat.le_refl _))
end Go.Proofs.Ytnkdcekddhmjnaa.F
