import Derived.Test.YteefneemmdfncaaLy
import Derived.Test.YteefneemmdfncaaDa
import Derived.Test.YteefneemmdfncaaDb
/- The given contracts of diff.List and diff.Same, as the print asks for them. Conditions: none. -/
namespace Go.Proofs.Yteefneemmdfncaa.M
open Go.RowKit Go.Proofs.YteefneemmdfncaaW.Raw Go.Proofs.YteefneemmdfncaaW.PrintWords Go.Proofs.Yteefneemmdfncaa.F
set_option linter.unusedVariables false
/-- Small enough for the changes. -/
def okD (p q : Pol) : Bool := okB p && okB q && decide (p.f1.length * (p.f3.length * p.f0.length) ≤ 65536) && decide (q.f1.length * (q.f3.length * q.f0.length) ≤ 65536)
theorem okD_iff {p q : Pol} : okD p q = true ↔ OkP p ∧ OkP q ∧ p.f1.length * (p.f3.length * p.f0.length) ≤ 65536 ∧ q.f1.length * (q.f3.length * q.f0.length) ≤ 65536 := by
  unfold okD
  simp only [Bool.and_eq_true, okB_iff, decide_eq_true_eq, and_assoc]
theorem list_k (p q : Pol) (C0 D0 : Array Value) (w : World) (hp : k28.K w p C0.toList) (hq : k28.K w q D0.toList) (h : okD p q = true) :
    Calls Try.prog 35 #[.agg C0, .agg D0] w fun e W => ∃ v, e = .returned v ∧ Kd.R k53 53 W w.heap.size (fun _ => True) v (chL p q) ∧ Below w.heap.size w W := by
  obtain ⟨h1, h2, h3, h4⟩ := okD_iff.1 h
  exact list_calls p q C0 D0 w hp hq h1 h2 h3 h4 (Nat.le_trans (relL_len p) h3) (Nat.le_trans (relL_len q) h4)
theorem same_k2 (p q : Pol) (C0 D0 : Array Value) (w : World) (hp : k28.K w p C0.toList) (hq : k28.K w q D0.toList) (h : okD p q = true) :
    Calls Try.prog 37 #[.agg C0, .agg D0] w fun e W => e = .returned (.bool (sameB p q)) ∧ Below w.heap.size w W := by
  obtain ⟨h1, h2, h3, h4⟩ := okD_iff.1 h
  exact same_calls p q C0 D0 w hp hq h1 h2 h3 h4 (Nat.le_trans (relL_len p) h3) (Nat.le_trans (relL_len q) h4)
end Go.Proofs.Yteefneemmdfncaa.M
namespace Go.Proofs.Yteefneemmdfncaa.F
open Go.RowKit Go.Proofs.YteefneemmdfncaaW.PrintWords
set_option linter.unusedVariables false
end Go.Proofs.Yteefneemmdfncaa.F
/- alive (law 13): one lost and one gained are told. Conditions: none. -/
namespace Go.Proofs.Yteefneemmdfncaa.M
open Go.RowKit Go.Proofs.YteefneemmdfncaaW.Raw Go.Proofs.YteefneemmdfncaaW.PrintWords Go.Proofs.YteefneemmdfncaaW.PrintMore Go.Proofs.Yteefneemmdfncaa.F
set_option linter.unusedVariables false
set_option linter.unusedSimpArgs false
attribute [local go_sem high] eqA53
theorem small_ok (a : ByteArray) : OkP (smallP a) := ⟨by simp [smallP], by simp [smallP], by simp [smallP], by simp [smallP], by simp [smallP], by simp [smallP]⟩
theorem small_okD (a b : ByteArray) : okD (smallP a) (smallP b) = true := okD_iff.2 ⟨small_ok a, small_ok b, by simp [smallP], by simp [smallP]⟩
theorem al_list : chL (smallP open_) (smallP shut_) = [⟨⟨ann_, door_, open_⟩, false⟩, ⟨⟨ann_, door_, shut_⟩, true⟩] := by kernel_rfl
theorem al_same1 : sameB (smallP open_) (smallP shut_) = false := by kernel_rfl
theorem al_same2 : sameB (smallP open_) (smallP open_) = true := by kernel_rfl
set_option maxRecDepth 100000 in
set_option maxHeartbeats 4000000 in
theorem alive_calls (w : World) : Calls Try.prog 39 #[] w fun e w' => e = .returned (.bool true) ∧ Below w.heap.size w w' := by
  have B0 := Lib.hid (Below.refl w.heap.size w)
  have T1 : True := trivial
  have T2 : True := trivial
  go_enter Try.func39, Try.ntmps39
  go_upto_region 2 with (first | (clear T1; go_at_call 86; go_must (refine (small_k open_ _).mono ?_); rintro e w1 ⟨CA, rfl, kA, hb⟩; have KA := Lib.hid kA; have B1 := Lib.hid (B0.out.trans (hb.mono B0.out.size)); clear kA hb) | (clear T2; go_at_call 86; go_must (refine (small_k shut_ _).mono ?_); rintro e w2 ⟨CB, rfl, kB, hb⟩; have KB := Lib.hid kB; have KA2 := Lib.hid (k28.K_below hb KA.out); have B2 := Lib.hid (B1.out.trans (hb.mono B1.out.size)); clear kB hb) | (go_at_call 35; go_must (refine (list_k (smallP open_) (smallP shut_) CA CB _ KA2.out KB.out (small_okD _ _)).mono ?_); rintro e w3 ⟨v, rfl, hR, hb⟩; rw [al_list] at hR; obtain ⟨g, c, rfl, -, -, -⟩ := Kd.R_form hR (by decide); have HC := Lib.hid (Kd.R_reads' hR).2.2; have B3 := Lib.hid (B2.out.trans (hb.mono B2.out.size)); clear hR hb))
  clear B0 B1 B2 KA KB KA2
  have T3 : True := trivial
  have T4 : True := trivial
  have T5 : True := trivial
  have T6 : True := trivial
  have T7 : True := trivial
  go_upto_region 4 with (first | (clear T3; go_at_call 86; go_must (refine (small_k open_ _).mono ?_); rintro e w4 ⟨CC, rfl, kC, hb⟩; have KC := Lib.hid kC; have B4 := Lib.hid (B3.out.trans (hb.mono B3.out.size)); have HC4 := Lib.hid (Kd.C_below HC.out hb); clear kC hb) | (clear T4; go_at_call 86; go_must (refine (small_k shut_ _).mono ?_); rintro e w5 ⟨CD, rfl, kD, hb⟩; have KD := Lib.hid kD; have KC2 := Lib.hid (k28.K_below hb KC.out); have B5 := Lib.hid (B4.out.trans (hb.mono B4.out.size)); have HC5 := Lib.hid (Kd.C_below HC4.out hb); clear kD hb) | (clear T7; go_at_call 37; go_must (refine (same_k2 (smallP open_) (smallP shut_) CC CD _ KC2.out KD.out (small_okD _ _)).mono ?_); rw [al_same1]; rintro e w6 ⟨rfl, hb⟩; have B6 := Lib.hid (B5.out.trans (hb.mono B5.out.size)); have HC6 := Lib.hid (Kd.C_below HC5.out hb); clear hb) | (clear T5; go_at_call 86; go_must (refine (small_k open_ _).mono ?_); rintro e w7 ⟨CE, rfl, kE, hb⟩; have KE := Lib.hid kE; have B7 := Lib.hid (B6.out.trans (hb.mono B6.out.size)); have HC7 := Lib.hid (Kd.C_below HC6.out hb); clear kE hb) | (clear T6; go_at_call 86; go_must (refine (small_k open_ _).mono ?_); rintro e w8 ⟨CF, rfl, kF, hb⟩; have KF := Lib.hid kF; have KE2 := Lib.hid (k28.K_below hb KE.out); have B8 := Lib.hid (B7.out.trans (hb.mono B7.out.size)); have HC8 := Lib.hid (Kd.C_below HC7.out hb); clear kF hb) | (go_at_call 37; go_must (refine (same_k2 (smallP open_) (smallP open_) CE CF _ KE2.out KF.out (small_okD _ _)).mono ?_); rw [al_same2]; rintro e w9 ⟨rfl, hb⟩; have B9 := Lib.hid (B8.out.trans (hb.mono B8.out.size)); have HC9 := Lib.hid (Kd.C_below HC8.out hb); clear hb))
  obtain ⟨ad, e, a0', a1', a2', a3'⟩ := at_T53 HC9.out 0 (by decide) (by decide)
  cases e
  have a0 : w9.cell? ⟨g, 0, none⟩ = some (.string (⟨#[97, 110, 110]⟩ : ByteArray)) := a0'
  have a1 : w9.cell? ⟨g, 1, none⟩ = some (.string (⟨#[100, 111, 111, 114]⟩ : ByteArray)) := a1'
  have a2 : w9.cell? ⟨g, 2, none⟩ = some (.string (⟨#[111, 112, 101, 110]⟩ : ByteArray)) := a2'
  have a3 : w9.cell? ⟨g, 3, none⟩ = some (.bool false) := a3'
  obtain ⟨ad, e, b0', b1', b2', b3'⟩ := at_T53 HC9.out 1 (by decide) (by decide)
  cases e
  have b0 : w9.cell? ⟨g, 4, none⟩ = some (.string (⟨#[97, 110, 110]⟩ : ByteArray)) := b0'
  have b1 : w9.cell? ⟨g, 5, none⟩ = some (.string (⟨#[100, 111, 111, 114]⟩ : ByteArray)) := b1'
  have b2 : w9.cell? ⟨g, 6, none⟩ = some (.string (⟨#[115, 104, 117, 116]⟩ : ByteArray)) := b2'
  have b3 : w9.cell? ⟨g, 7, none⟩ = some (.bool true) := b3'
  clear a0' a1' a2' a3' b0' b1' b2' b3' KC KC2 KD KE KE2 KF HC HC4 HC5 HC6 HC7 HC8 B3 B4 B5 B6 B7 B8
  go_wp2_with fail
  go_ret
  exact ⟨rfl, B9.out⟩
end Go.Proofs.Yteefneemmdfncaa.M
