/- Sizes out of the bulk; MeanFaces as the row asks for it. Conditions: each theorem's own. -/
import Derived.Test.YtnkdcekddhmjnaaPc
import Derived.Test.YtnkdcekddhmjnaaOpens
namespace Go.Proofs.Ytnkdcekddhmjnaa.F
open Go.RowKit Go.Proofs.YtnkdcekddhmjnaaW.PrintWords
set_option linter.unusedVariables false
theorem sum_ge {α : Type} (f : α → Nat) (h : ∀ x, 1 ≤ f x) : ∀ l : List α, l.length ≤ (l.map f).sum := by
  intro l
  induction l with
  | nil => exact Nat.le_refl _
  | cons x l ih =>
    rw [List.map_cons, List.sum_cons, List.length_cons]
    have := h x
    omega
theorem sizes_of (p : S34) (hb : b34 p ≤ 1048576) : p.f0.length + p.f1.length + p.f2.length + p.f3.length + p.f4.length + p.f5.length + p.f6.length + p.f7.length + p.f8.length + p.f9.length + p.f10.length ≤ 1048576 := by
  have s0 := sum_ge (fun x_ : ByteArray => (x_.size + 1)) (fun _ => Nat.le_add_left _ _) p.f0
  have s1 := sum_ge (fun x_ : S57 => b57 x_) (fun _ => Nat.le_add_left _ _) p.f1
  have s2 := sum_ge (fun x_ : ByteArray => (x_.size + 1)) (fun _ => Nat.le_add_left _ _) p.f2
  have s3 := sum_ge (fun x_ : ByteArray => (x_.size + 1)) (fun _ => Nat.le_add_left _ _) p.f3
  have s4 := sum_ge (fun x_ : ByteArray => (x_.size + 1)) (fun _ => Nat.le_add_left _ _) p.f4
  have s5 := sum_ge (fun x_ : S86 => b86 x_) (fun _ => Nat.le_add_left _ _) p.f5
  have s6 := sum_ge (fun x_ : S86 => b86 x_) (fun _ => Nat.le_add_left _ _) p.f6
  have s7 := sum_ge (fun x_ : S86 => b86 x_) (fun _ => Nat.le_add_left _ _) p.f7
  have s8 := sum_ge (fun x_ : S86 => b86 x_) (fun _ => Nat.le_add_left _ _) p.f8
  have s9 := sum_ge (fun x_ : S27 => b27 x_) (fun _ => Nat.le_add_left _ _) p.f9
  have s10 := sum_ge (fun x_ : S36 => b36 x_) (fun _ => Nat.le_add_left _ _) p.f10
  unfold b34 at hb
  omega
theorem ok_of (p : S34) (hb : b34 p ≤ 1048576) : M.okB p = true := by
  have := sizes_of p hb
  exact M.okB_iff.2 ⟨by omega, by omega, by omega, by omega, by omega, by omega⟩
theorem MeanFaces.walk (x0 : S34) (c0 : Array Value) (w : World) (hk0 : Kd.K k34 w x0 c0.toList) (hg0 : g34 x0) (hb : b34 x0 ≤ 1048576) :
    Calls Go.Proofs.Try.prog 14 #[.agg c0] w fun e w' => e = .returned (.bool true) ∧ Below w.heap.size w w' := by
  have hs := sizes_of x0 hb
  have hok := ok_of x0 hb
  clear hb hg0
  obtain ⟨k, hk⟩ := M.faces_f x0 hok (by omega) (by omega) (by omega)
  obtain ⟨C0, rfl⟩ : ∃ C, C = c0 := ⟨_, rfl⟩
  obtain ⟨p, rfl⟩ : ∃ p, p = x0 := ⟨_, rfl⟩
  obtain ⟨A0, c0, A1, c1, A2, c2, A3, c3, A4, c4, A5, c5, A6, c6, A7, c7, A8, c8, A9, c9, A10, c10, e_, l0, g0, l1, g1, l2, g2, l3, g3, l4, g4, l5, g5, l6, g6, l7, g7, l8, g8, l9, g9, l10, g10⟩ := k34_open hk0
  obtain rfl : C0 = #[.slice A0 p.f0.length c0, .slice A1 p.f1.length c1, .slice A2 p.f2.length c2, .slice A3 p.f3.length c3, .slice A4 p.f4.length c4, .slice A5 p.f5.length c5, .slice A6 p.f6.length c6, .slice A7 p.f7.length c7, .slice A8 p.f8.length c8, .slice A9 p.f9.length c9, .slice A10 p.f10.length c10] := by cases C0; simpa using e_
  clear e_
  exact gatehouselaw08_MeanFaces.calls k A0 c0 p.f0 A1 c1 p.f1 A2 c2 p.f2 A3 c3 p.f3 A4 c4 p.f4 A5 c5 p.f5 A6 c6 p.f6 A7 c7 p.f7 A8 c8 p.f8 A9 c9 p.f9 A10 c10 p.f10 true w g0 l0 g1 l1 g2 l2 g3 l3 g4 l4 g5 l5 g6 l6 g7 l7 g8 l8 g9 l9 g10 l10 (hk k (Nat.le_refl _))
end Go.Proofs.Ytnkdcekddhmjnaa.F
