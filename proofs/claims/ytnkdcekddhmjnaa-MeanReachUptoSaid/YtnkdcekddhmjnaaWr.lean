/- MeanReach as the row asks for it. Conditions: each theorem's own. -/
import Derived.Test.YtnkdcekddhmjnaaPL
import Derived.Test.YtnkdcekddhmjnaaSz
namespace Go.Proofs.Ytnkdcekddhmjnaa.F
open Go.RowKit Go.Proofs.YtnkdcekddhmjnaaW.PrintWords
set_option linter.unusedVariables false
theorem MeanReach.walk (x0 : S34) (c0 : Array Value) (x1 : S27) (c1 : Array Value) (x2 : S36) (c2 : Array Value) (w : World) (hk0 : Kd.K k34 w x0 c0.toList) (hg0 : g34 x0) (hk1 : Kd.K k27 w x1 c1.toList) (hg1 : g27 x1) (hk2 : Kd.K k36 w x2 c2.toList) (hg2 : g36 x2) (hb : b34 x0 + b27 x1 + b36 x2 ≤ 1048576) :
    Calls Go.Proofs.Try.prog 15 #[.agg c0, .agg c1, .agg c2] w fun e w' => e = .returned (.bool true) ∧ Below w.heap.size w w' := by
  have hs := sz_of x0 (by omega)
  have h3 := Nat.le_trans (acts_le x1) (show b27 x1 ≤ 1048576 by omega)
  clear hb hg0 hg1 hg2
  obtain ⟨k, hk⟩ := M.reach_f x0 x1 x2 hs h3
  obtain ⟨C0, rfl⟩ : ∃ C, C = c0 := ⟨_, rfl⟩
  obtain ⟨p, rfl⟩ : ∃ p, p = x0 := ⟨_, rfl⟩
  obtain ⟨D1, hD1⟩ : ∃ C, C = c1 := ⟨_, rfl⟩
  subst hD1
  obtain ⟨D2, hD2⟩ : ∃ C, C = c2 := ⟨_, rfl⟩
  subst hD2
  obtain ⟨A0, c0, A1, c1, A2, c2, A3, c3, A4, c4, A5, c5, A6, c6, A7, c7, A8, c8, A9, c9, A10, c10, e_, l0, g0, l1, g1, l2, g2, l3, g3, l4, g4, l5, g5, l6, g6, l7, g7, l8, g8, l9, g9, l10, g10⟩ := k34_open hk0
  obtain rfl : C0 = #[.slice A0 p.f0.length c0, .slice A1 p.f1.length c1, .slice A2 p.f2.length c2, .slice A3 p.f3.length c3, .slice A4 p.f4.length c4, .slice A5 p.f5.length c5, .slice A6 p.f6.length c6, .slice A7 p.f7.length c7, .slice A8 p.f8.length c8, .slice A9 p.f9.length c9, .slice A10 p.f10.length c10] := by cases C0; simpa using e_
  clear e_
  have e2_ := k36_open hk2
  obtain rfl : D2 = #[Value.string x2.f0, Value.string x2.f1, Value.string x2.f2] := by cases D2; simpa using e2_
  obtain ⟨Ar, cr, er_, lr, gr⟩ := k27_open hk1
  obtain rfl : D1 = #[Value.bool x1.f0, Value.string x1.f1, Value.string x1.f2, Value.slice Ar x1.f3.length cr, Value.int .i8 x1.f4, Value.float .f64 x1.f5] := by cases D1; simpa using er_
  exact gatehouselaw08_MeanReach.calls k A0 c0 p.f0 A1 c1 p.f1 A2 c2 p.f2 A3 c3 p.f3 A4 c4 p.f4 A5 c5 p.f5 A6 c6 p.f6 A7 c7 p.f7 A8 c8 p.f8 A9 c9 p.f9 A10 c10 p.f10 x1.f0 x1.f1 x1.f2 Ar cr x1.f3 x1.f4 x1.f5 x2.f0 x2.f1 x2.f2 true w g0 l0 g1 l1 g2 l2 g3 l3 g4 l4 g5 l5 g6 l6 g7 l7 g8 l8 g9 l9 g10 l10 gr lr (hk k (Nat.le_refl _))
end Go.Proofs.Ytnkdcekddhmjnaa.F
