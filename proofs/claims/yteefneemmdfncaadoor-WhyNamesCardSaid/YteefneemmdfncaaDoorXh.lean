import Derived.Test.YteefneemmdfncaaDoorF0
import Derived.Test.YteefneemmdfncaaDoorXf
import Derived.Test.YteefneemmdfncaaDoorXg
import Derived.Test.YteefneemmdfncaaDoorWl
import Derived.Test.YteefneemmdfncaaDoorWa
import Derived.Test.YteefneemmdfncaaDoorOpens
import Derived.Deep.RegionLaw
import Derived.Test.YteefneemmdfncaaDoorF5
-- Written by a program of this session (mk.py over the kit's print, turned for floats and for contracts given by hand). Not trusted: Lean checks it.
namespace Go.Proofs.YteefneemmdfncaaDoor.F
open Go.RowKit Go.Proofs.YteefneemmdfncaaDoorW.PrintWords Go.Proofs.YteefneemmdfncaaDoorW.PrintLast Go.Proofs.YteefneemmdfncaaDoorW.PrintMore
attribute [local go_sem] max2_int min2_int max_two min_two max_three min_three max_four min_four   -- for this text's walks alone
attribute [local go_sem] flt_eql flt_neq flt_lss flt_leq flt_gtr flt_geq run_store_float
set_option linter.unusedVariables false
set_option linter.unusedSimpArgs false

/-! ### gatehouselaw10_twin: function 11 -/
end Go.Proofs.YteefneemmdfncaaDoor.F
/- What alive of why's statements asks for: small, Itoa of 1, Join of nothing, Tell of an except. Conditions: each theorem's own. -/
namespace Go.Proofs.YteefneemmdfncaaDoor.M
open Go.RowKit Go.Proofs.YteefneemmdfncaaDoorW.Raw Go.Proofs.YteefneemmdfncaaDoorW.PrintWords Go.Proofs.YteefneemmdfncaaDoor.F
set_option linter.unusedVariables false
set_option linter.unusedSimpArgs false
def annW : ByteArray := ⟨#[97, 110, 110]⟩
def doorW : ByteArray := ⟨#[100, 111, 111, 114]⟩
def openW : ByteArray := ⟨#[111, 112, 101, 110]⟩
def shutW : ByteArray := ⟨#[115, 104, 117, 116]⟩
def clerkW : ByteArray := ⟨#[99, 108, 101, 114, 107]⟩
def smallW : Pol := { f0 := [openW, shutW], f1 := [⟨annW, 4607182418800017408⟩], f2 := [clerkW], f3 := [doorW], f4 := [], f5 := [⟨annW, clerkW⟩], f6 := [], f7 := [], f8 := [], f9 := [⟨false, clerkW, doorW, [], 0, 0⟩], f10 := [⟨annW, doorW, shutW⟩] }
def openT : Tri := ⟨annW, doorW, openW⟩
def shutT : Tri := ⟨annW, doorW, shutW⟩
theorem smallW_sz : Sz smallW := ⟨by decide, by decide, by decide, by decide, by decide, by decide, by decide, by decide, by decide, by decide, by decide, by intro r hr; simp [smallW] at hr; subst hr; decide⟩
theorem wsmall_k (w : World) :
    Calls Tryd.prog 44 #[] w fun e w' => ∃ C1 : Array Value, e = .returned (.agg C1) ∧ k28.K w' smallW C1.toList ∧ Below w.heap.size w w' := by
  refine (gatehouselaw10_small.calls smallW.f0 smallW.f1 smallW.f2 smallW.f3 smallW.f4 smallW.f5 smallW.f6 smallW.f7 smallW.f8 smallW.f9 smallW.f10 w rfl).mono ?_
  rintro e w' ⟨v0, v1, v2, v3, v4, v5, v6, v7, v8, v9, v10, rfl, h0, h1, h2, h3, h4, h5, h6, h7, h8, h9, h10, hb⟩
  obtain ⟨X0, y0, rfl, m0, q0⟩ := Kd.R_reads h0
  obtain ⟨X1, y1, rfl, m1, q1⟩ := Kd.R_reads h1
  obtain ⟨X2, y2, rfl, m2, q2⟩ := Kd.R_reads h2
  obtain ⟨X3, y3, rfl, m3, q3⟩ := Kd.R_reads h3
  obtain ⟨X4, y4, rfl, m4, q4⟩ := Kd.R_reads h4
  obtain ⟨X5, y5, rfl, m5, q5⟩ := Kd.R_reads h5
  obtain ⟨X6, y6, rfl, m6, q6⟩ := Kd.R_reads h6
  obtain ⟨X7, y7, rfl, m7, q7⟩ := Kd.R_reads h7
  obtain ⟨X8, y8, rfl, m8, q8⟩ := Kd.R_reads h8
  obtain ⟨X9, y9, rfl, m9, q9⟩ := Kd.S_reads h9
  obtain ⟨X10, y10, rfl, m10, q10⟩ := Kd.R_reads h10
  exact ⟨_, rfl, k28_mk w' smallW m0 q0 m1 q1 m2 q2 m3 q3 m4 q4 m5 q5 m6 q6 m7 q7 m8 q8 m9 q9 m10 q10, hb⟩
theorem ex_open : explL smallW openT = ⟨4, 1, [annW, clerkW], [doorW]⟩ := by kernel_rfl
theorem ex_shut : explL smallW shutT = ⟨2, 1, [], []⟩ := by kernel_rfl
theorem ho_open : holdsL smallW openT ⟨4, 1, [annW, clerkW], [doorW]⟩ = true := by kernel_rfl
theorem ho_shut : holdsL smallW shutT ⟨4, 1, [annW, clerkW], [doorW]⟩ = false := by kernel_rfl
theorem ho_exc : holdsL smallW shutT ⟨2, 1, [], []⟩ = true := by kernel_rfl
theorem wh_one : onceL (fun s => allowsB smallW ⟨s, doorW, openW⟩) (smallW.f1.map (·.f0)) = [annW] := by kernel_rfl
theorem small1_calls (w : World) : Calls Tryd.prog 105 #[.int .i64 1] w fun e w' => e = .returned (.string ⟨#[49]⟩) ∧ w' = w := by
  go_enter Tryd.func105, Tryd.ntmps105
  go_wp2_with fail
  go_ret
  exact ⟨rfl, rfl⟩
theorem fmt1_calls (w : World) : Calls Tryd.prog 90 #[.int .i64 1, .int .i64 10] w fun e w' => e = .returned (.string ⟨#[49]⟩) ∧ w' = w := by
  go_enter Tryd.func90, Tryd.ntmps90
  go_wp2_with (first | (go_at_call 105; refine (small1_calls _).mono ?_; rintro e w2 ⟨rfl, rfl⟩))
  go_ret
  exact ⟨rfl, rfl⟩
theorem itoaI_calls (w : World) : Calls Tryd.prog 68 #[.int .i64 1] w fun e w' => e = .returned (.string ⟨#[49]⟩) ∧ w' = w := by
  go_enter Tryd.func68, Tryd.ntmps68
  go_wp2_with (first | (go_at_call 90; refine (fmt1_calls _).mono ?_; rintro e w2 ⟨rfl, rfl⟩))
  go_ret
  exact ⟨rfl, rfl⟩
theorem itoa1_calls (w : World) : Calls Tryd.prog 36 #[.int .i64 1] w fun e w' => e = .returned (.string ⟨#[49]⟩) ∧ w' = w := by
  go_enter Tryd.func36, Tryd.ntmps36
  go_wp2_with (first | (go_at_call 68; refine (itoaI_calls _).mono ?_; rintro e w2 ⟨rfl, rfl⟩))
  go_ret
  exact ⟨rfl, rfl⟩
theorem join0_calls (A : Option Addr) (c : Nat) (s : ByteArray) (w : World) : Calls Tryd.prog 37 #[.slice A 0 c, .string s] w fun e w' => e = .returned (.string ⟨#[]⟩) ∧ w' = w := by
  go_enter Tryd.func37, Tryd.ntmps37
  go_wp2_with fail
  go_ret
  exact ⟨rfl, rfl⟩
set_option maxRecDepth 100000 in
set_option maxHeartbeats 4000000 in
theorem tell_exc (p : Pol) (C : Array Value) (t : Tri) (A2 A3 : Option Addr) (c2 c3 : Nat) (w : World) (hk : k28.K w p C.toList) (hz : Sz p) (hr : k33.K w (⟨2, 1, [], []⟩ : Rsn) [.int .i8 2, .int .i64 1, .slice A2 0 c2, .slice A3 0 c3]) (hh : holdsL p t ⟨2, 1, [], []⟩ = true) :
    Calls Tryd.prog 13 #[.agg C, .agg #[.string t.f0, .string t.f1, .string t.f2], .agg #[.int .i8 2, .int .i64 1, .slice A2 0 c2, .slice A3 0 c3]] w fun e w' => ∃ A c, e = .returned (.slice A 1 c) ∧ Below w.heap.size w w' := by
  have HK := Lib.hid hk
  have HSP := Lib.hid (pol_size hk)
  have HZ := Lib.hid hz
  have HR := Lib.hid hr
  have HH := Lib.hid hh
  have mixed : Tryd.prog.follows .mixedOrders = true := by kernel_rfl
  clear hk hz hr hh
  go_enter Tryd.func13, Tryd.ntmps13
  go_upto_region 4 with (first
    | ((with_reducible refine gate_dst (N := 3) rfl ?_); refine box_event ?hg (N := 3) ?hd (cs := C) (t := 28) ?hr ?_; (case hd => rfl); (case hg => rfl); (case hr => first | (go_simp; done) | (go_simp; rfl)); intro b3 hg_ w1 hbx hBx; have BW1 := Lib.hid hBx; have K3 := Lib.hid hbx; clear hg_ hbx hBx)
    | ((with_reducible refine gate_dst (N := 4) rfl ?_); refine box_event ?hg (N := 4) ?hd (cs := #[.string t.f0, .string t.f1, .string t.f2]) (t := 30) ?hr ?_; (case hd => rfl); (case hg => rfl); (case hr => first | (go_simp; done) | (go_simp; rfl)); intro b4 hg_ w2 hbx hBx; have K32 := Lib.hid (blk_below K3.out hBx); have BW2 := Lib.hid (BW1.out.trans (hBx.mono BW1.out.size)); have K4 := Lib.hid hbx; clear hg_ hbx hBx)
    | ((with_reducible refine gate_dst (N := 5) rfl ?_); refine box_event ?hg (N := 5) ?hd (cs := #[.int .i8 2, .int .i64 1, .slice A2 0 c2, .slice A3 0 c3]) (t := 33) ?hr ?_; (case hd => rfl); (case hg => rfl); (case hr => first | (go_simp; done) | (go_simp; rfl)); intro b5 hg_ w3 hbx hBx; have KP := Lib.hid (blk_below K32.out hBx); have KT := Lib.hid (blk_below K4.out hBx); have BW3 := Lib.hid (BW2.out.trans (hBx.mono BW2.out.size)); have KR := Lib.hid hbx; clear hg_ hbx hBx)
    | ((with_reducible refine gate_ (.load 28 (.tmp 3)) rfl ?_); go_must (refine wpList_load_row rfl 28 (.tmp 3) rfl b3 rfl _ _ _ _ KP.out Tryd.underlying28 rfl HSP.out ?_))
    | ((with_reducible refine gate_ (.load 30 (.tmp 4)) rfl ?_); go_must (refine wpList_load_row rfl 30 (.tmp 4) rfl b4 rfl _ _ _ _ KT.out Tryd.underlying30 rfl (by kernel_rfl) ?_))
    | ((with_reducible refine gate_ (.load 33 (.tmp 5)) rfl ?_); go_must (refine wpList_load_row rfl 33 (.tmp 5) rfl b5 rfl _ _ _ _ KR.out Tryd.underlying33 rfl (by kernel_rfl) ?_))
    | (go_at_call 22; go_must (refine (holds_calls p C t ⟨2, 1, [], []⟩ #[.int .i8 2, .int .i64 1, .slice A2 0 c2, .slice A3 0 c3] _ (k28.K_below BW3.out HK.out) (k33.K_below BW3.out HR.out) HZ.out (by simp)).mono ?_); rw [HH.out]; rintro e w4 ⟨rfl, hb⟩; have k5 := blk_below KR.out hb; have BW4 := Lib.hid (BW3.out.trans (hb.mono BW3.out.size)); have s0 := (blk_cell k5 0).trans (Eq.refl (some (Value.int .i8 2))); have s1 := (blk_cell k5 1).trans (Eq.refl (some (Value.int .i64 1))); have s2 := (blk_cell k5 2).trans (Eq.refl (some (Value.slice A2 0 c2))); have s3 := (blk_cell k5 3).trans (Eq.refl (some (Value.slice A3 0 c3))); have HK5 := Lib.hid k5; clear k5 hb)
    | (go_at_call 36; refine (itoa1_calls _).mono ?_; rintro e w5 ⟨rfl, rfl⟩))
  go_region_law (go_simp; first | (go_at_call 37; refine (join0_calls _ _ _ _).mono ?_; rintro e w6 ⟨rfl, rfl⟩))
  all_goals
    have z0 : (w5.alloc (Obj.cells #[Value.string ((⟨#[119, 104, 111, 58, 32]⟩ : ByteArray) ++ ⟨#[]⟩), Value.string ((⟨#[119, 104, 97, 116, 58, 32]⟩ : ByteArray) ++ ⟨#[]⟩)] 9)).drew.cell? ⟨b5, 0, none⟩ = some (.int .i8 2) := (blk_cell (blk_below HK5.out ((Below.refl w5.heap.size w5).alloc (Nat.le_refl _) _)) 0).trans (Eq.refl (some (Value.int .i8 2)))
    clear s0 s1 s2 s3
    go_wp2_with fail
    go_ret
    refine ⟨_, _, rfl, ?_⟩
    exact (below_drew (BW4.out.alloc BW4.out.size _)).alloc (Nat.le_trans BW4.out.size (by simp)) _
end Go.Proofs.YteefneemmdfncaaDoor.M
