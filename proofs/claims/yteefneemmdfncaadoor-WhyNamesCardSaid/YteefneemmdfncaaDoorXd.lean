import Derived.Test.YteefneemmdfncaaDoorXb
/- why.Holds, walked: the verdict 3. Conditions: the policy and the reason read as they must; lists are bounded. -/
namespace Go.Proofs.YteefneemmdfncaaDoor.M
open Go.RowKit Go.Proofs.YteefneemmdfncaaDoorW.Raw Go.Proofs.YteefneemmdfncaaDoorW.PrintWords Go.Proofs.YteefneemmdfncaaDoorW.PrintLast Go.Proofs.YteefneemmdfncaaDoorW.PrintAll Go.Proofs.YteefneemmdfncaaDoor.F
set_option linter.unusedVariables false
set_option linter.unusedSimpArgs false
attribute [local go_sem high] eqA30
attribute [local go_sem] run_store_float

set_option maxRecDepth 100000 in
set_option maxHeartbeats 16000000 in
theorem holds_v3 (p : Pol) (C : Array Value) (t : Tri) (n : Int) (ws wt : List ByteArray) (A2 A3 : Option Addr) (c2 c3 : Nat) (w : World) (hk : k28.K w p C.toList) (l2 : ws.length ≤ c2) (g2 : Kd.C Kd.string w A2 ws.length ws) (l3 : wt.length ≤ c3) (g3 : Kd.C Kd.string w A3 wt.length wt) (hz : Sz p) (hlw : ws.length ≤ 1048576 ∧ wt.length ≤ 1048576):
    Calls Tryd.prog 22 #[.agg C, .agg #[.string t.f0, .string t.f1, .string t.f2], .agg #[.int .i8 3, .int .i64 n, .slice A2 ws.length c2, .slice A3 wt.length c3]] w fun e w' => e = .returned (.bool (holdsL p t ⟨3, n, ws, wt⟩)) ∧ Below w.heap.size w w' := by
  have HK := Lib.hid hk
  have HSP := Lib.hid (pol_size hk)
  have OKP := Lib.hid (okB_iff.1 hz.ok)
  have HZ := Lib.hid hz
  have G2 := Lib.hid g2
  have G3 := Lib.hid g3
  have L2 := Lib.hid l2
  have L3 := Lib.hid l3
  have hl9 := hz.l9
  have hl10 := hz.l10
  have hk' := hk
  obtain ⟨C', hC'⟩ : ∃ C' : Array Value, C' = C := ⟨_, rfl⟩
  rw [← hC'] at hk'
  obtain ⟨A0, c0, A1, c1, A12, c12, A13, c13, A4, c4, A5, c5, A6, c6, A7, c7, A8, c8, A9, c9, A10, c10, e_, l0', g0', l1', g1', l2', g2', l3', g3', l4', g4', l5', g5', l6', g6', l7', g7', l8', g8', l9', g9', l10', g10'⟩ := k28_open hk'
  obtain rfl : C' = #[.slice A0 p.f0.length c0, .slice A1 p.f1.length c1, .slice A12 p.f2.length c12, .slice A13 p.f3.length c13, .slice A4 p.f4.length c4, .slice A5 p.f5.length c5, .slice A6 p.f6.length c6, .slice A7 p.f7.length c7, .slice A8 p.f8.length c8, .slice A9 p.f9.length c9, .slice A10 p.f10.length c10] := Array.toList_inj.1 e_
  clear e_
  have HC9 := Lib.hid (show C[9]? = some (.slice A9 p.f9.length c9) by rw [← hC']; rfl)
  have HC10 := Lib.hid (show C[10]? = some (.slice A10 p.f10.length c10) by rw [← hC']; rfl)
  have H9 := Lib.hid g9'
  have H10 := Lib.hid g10'
  clear hC'
  obtain ⟨m2, hm2⟩ : ∃ m, m = ws.length := ⟨_, rfl⟩
  obtain ⟨m3, hm3⟩ : ∃ m, m = wt.length := ⟨_, rfl⟩
  rw [← hm2, ← hm3]
  have HM2 := Lib.hid hm2
  have HM3 := Lib.hid hm3
  have U1 : True := trivial
  have U2 : True := trivial
  have U3 : True := trivial
  have U4 : True := trivial
  clear hk hk' hz g2 g3 l2 l3 hm2 hm3 l0' g0' l1' g1' l2' g2' l3' g3' l4' g4' l5' g5' l6' g6' l7' g7' l8' g8' l9' g9' l10' g10'
  have HLW := Lib.hid hlw
  clear hlw
  by_cases h1 : 1 ≤ n
  · by_cases h2 : n ≤ (p.f9.length : Int)
    · obtain ⟨i, u, hi1, hi2, hu, hil⟩ := in_range h1 h2
      rw [holds_3, decide_eq_true h1, decide_eq_true h2, hi2, hu, Bool.true_and, Bool.true_and]
      show Calls _ _ _ _ fun e w' => e = .returned (.bool (ruleB p t ⟨3, n, ws, wt⟩ u)) ∧ _
      obtain ⟨ad, A6, c6, rfl, lu, gu, hel⟩ := rule_at H9.out rfl hu
      have HEL := Lib.hid hel
      have LU := Lib.hid lu
      have GU := Lib.hid gu
      have hwn : wrap64 (n - 1) = (i : Int) := by unfold wrap64; omega
      have hwk : IntKind.i64.wrap (n - 1) = (i : Int) := by rw [IntKind.wrap_i64]; omega
      have hi0 : (0 : Int) ≤ (i : Int) := by omega
      have hi3 : (i : Int) < (p.f9.length : Int) := by omega
      have y1 : ¬ n < 1 := by omega
      have y2 : ¬ (p.f9.length : Int) < n := by omega
      have y3 : decide (n < 1) = false := decide_eq_false y1
      have y4 : decide ((p.f9.length : Int) < n) = false := decide_eq_false y2
      clear hi1 hi2 hil hel lu gu h1 h2 hu
      have hR : ruleB p t ⟨3, n, ws, wt⟩ u = ((u.f0 == true) && (matchB p u t && ((u.f0 || allowsB p t) && (wayB (p.f5 ++ p.f6) ws t.f0 u.f1 && wayB (p.f7 ++ p.f8) wt t.f1 u.f2)))) := rfl
      rw [hR]
      clear hR
      obtain ⟨b0, hb0⟩ : ∃ b, b = u.f0 := ⟨_, rfl⟩
      rw [← hb0]
      have HB0 := Lib.hid hb0
      clear hb0
      cases b0 with
    | false =>
      show Calls _ _ _ _ fun e w' => e = .returned (.bool false) ∧ _
      go_enter Tryd.func22, Tryd.ntmps22
      go_upto_region 1 with (first
        | ((with_reducible refine gate_dst (N := 3) rfl ?_); refine box_event ?hg (N := 3) ?hd (cs := C) (t := 28) ?hr ?_; (case hd => rfl); (case hg => rfl); (case hr => first | (go_simp; done) | (go_simp; rfl)); intro b3 hg_ w1 hbx hBx; have BW1 := Lib.hid hBx; have K3 := Lib.hid hbx; clear hg_ hbx hBx)
        | ((with_reducible refine gate_dst (N := 4) rfl ?_); refine box_event ?hg (N := 4) ?hd (cs := #[.string t.f0, .string t.f1, .string t.f2]) (t := 30) ?hr ?_; (case hd => rfl); (case hg => rfl); (case hr => first | (go_simp; done) | (go_simp; rfl)); intro b4 hg_ w2 hbx hBx; have K32 := Lib.hid (blk_below K3.out hBx); have BW2 := Lib.hid (BW1.out.trans (hBx.mono BW1.out.size)); have K4 := Lib.hid hbx; clear hg_ hbx hBx)
        | ((with_reducible refine gate_dst (N := 5) rfl ?_); refine box_event ?hg (N := 5) ?hd (cs := #[.int .i8 3, .int .i64 n, .slice A2 m2 c2, .slice A3 m3 c3]) (t := 33) ?hr ?_; (case hd => rfl); (case hg => rfl); (case hr => first | (go_simp; done) | (go_simp; rfl)); intro b5 hg_ w3 hbx hBx; have KP := Lib.hid (blk_below K32.out hBx); have KT := Lib.hid (blk_below K4.out hBx); have BW3 := Lib.hid (BW2.out.trans (hBx.mono BW2.out.size)); have KR := Lib.hid hbx; have r2 := (blk_cell hbx 2).trans (Eq.refl (some (Value.slice A2 m2 c2))); have r3 := (blk_cell hbx 3).trans (Eq.refl (some (Value.slice A3 m3 c3))); clear hg_ hbx hBx))
      go_cut [7] (fun v7 wx => (∃ b : Bool, v7 = .bool b) ∧ wx = w3)
      case first =>
        rcases bare_cases m2 m3 with ⟨x1, x2, x3, x4⟩ | ⟨rfl, x1, x2, x3, x4⟩ | ⟨rfl, rfl⟩
        · go_wp2_with fail
          go_meet
          exact ⟨⟨_, rfl⟩, rfl⟩
        · go_wp2_with fail
          go_meet
          exact ⟨⟨_, rfl⟩, rfl⟩
        · go_wp2_with fail
          go_meet
          exact ⟨⟨_, rfl⟩, rfl⟩
      obtain ⟨⟨b7, rfl⟩, rfl⟩ := hcut
      clear r2 r3
      go_wp2_with (first
        | ((with_reducible refine gate_ (.load 28 (.tmp 3)) rfl ?_); clear U1; go_must (refine wpList_load_row rfl 28 (.tmp 3) rfl b3 rfl _ _ _ _ KP.out Tryd.underlying28 rfl HSP.out ?_))
        | ((with_reducible refine gate_ (.load 30 (.tmp 4)) rfl ?_); clear U2; go_must (refine wpList_load_row rfl 30 (.tmp 4) rfl b4 rfl _ _ _ _ KT.out Tryd.underlying30 rfl (by kernel_rfl) ?_))
        | (go_at_call 50; go_must (refine (known_calls p C t _ (k28.K_below BW3.out HK.out)).mono ?_);  rintro e w4 ⟨rfl, hb⟩; have KP4 := Lib.hid (blk_below KP.out hb); have KT4 := Lib.hid (blk_below KT.out hb); have k5 := blk_below KR.out hb; have KR4 := Lib.hid k5; have BW4 := Lib.hid (BW3.out.trans (hb.mono BW3.out.size)); have s0 := (blk_cell k5 0).trans (Eq.refl (some (Value.int .i8 3))); have s1 := (blk_cell k5 1).trans (Eq.refl (some (Value.int .i64 n))); have s9 := (blk_cell (blk_below KP.out hb) 9).trans HC9.out; obtain ⟨e0, e1, e2, e3, e4, e5⟩ := HEL.out w4 (BW3.out.trans (hb.mono BW3.out.size)); rw [← HB0.out] at e0; clear k5 hb)
        | ((with_reducible refine gate_dst (N := 9) rfl ?_); refine box_event ?hg (N := 9) ?hd (cs := #[.bool false, .string ⟨#[]⟩, .string ⟨#[]⟩, .slice none 0 0, .int .i8 0, .float .f64 0]) (t := 48) ?hr ?_; (case hd => rfl); (case hg => rfl); (case hr => first | (go_simp; done) | (go_simp; rfl)); intro b9 hg_ w5 hbx hBx; have HL9 := Lib.hid (show w4.heap.size ≤ b9 from by rw [hg_]; exact Nat.le_refl _); have HB5 := Lib.hid hBx; have K9 := Lib.hid hbx; clear hg_ hbx hBx)
        | ((with_reducible refine gate_ (.store 48 (.tmp 9) (.tmp 87)) rfl ?_); go_must (refine bstore (t := 48) (p := 9) (v := .tmp 87) rfl rfl rfl b9 _ #[.bool false, .string u.f1, .string u.f2, .slice A6 u.f3.length c6, .int .i8 u.f4, .float .f64 u.f5] (.agg #[.bool false, .string u.f1, .string u.f2, .slice A6 u.f3.length c6, .int .i8 u.f4, .float .f64 u.f5]) rfl rfl rfl K9.out (by kernel_rfl) rfl (by simp [Value.oneCell']) ?_); intro w6 hb4 hs4 hz4 hB4; have K96 := Lib.hid hb4; have hb46 := HB5.out.trans (hB4 _ HL9.out); have HB46 := Lib.hid hb46; have BW6 := Lib.hid (BW4.out.trans (hb46.mono BW4.out.size)); clear e0 e1 e2 e3 e4 e5 s0 s1 s9; have z0 := (blk_cell hb4 0).trans (Eq.refl (some (Value.bool false))); have s0 := (blk_cell (blk_below KR4.out hb46) 0).trans (Eq.refl (some (Value.int .i8 3))); clear hb4 hs4 hz4 hB4 hb46)
        | ((with_reducible refine gate_ (.load 28 (.tmp 3)) rfl ?_); clear U3; (try (refine gate_guard (by rfl) ?_; dsimp only)); refine wpList_load_row rfl 28 (.tmp 3) rfl b3 rfl _ _ _ _ (blk_below KP4.out HB46.out) Tryd.underlying28 rfl HSP.out ?_)
        | ((with_reducible refine gate_ (.load 30 (.tmp 4)) rfl ?_); clear U4; (try (refine gate_guard (by rfl) ?_; dsimp only)); refine wpList_load_row rfl 30 (.tmp 4) rfl b4 rfl _ _ _ _ (blk_below KT4.out HB46.out) Tryd.underlying30 rfl (by kernel_rfl) ?_)
        | ((with_reducible refine gate_ (.load 48 (.tmp 9)) rfl ?_); (try (refine gate_guard (by rfl) ?_; dsimp only)); refine wpList_load_row rfl 48 (.tmp 9) rfl b9 rfl _ _ _ _ (K96.out) Tryd.underlying48 rfl (by kernel_rfl) ?_)
        | (go_at_call 51; go_must (refine (matches_calls p C #[.bool false, .string u.f1, .string u.f2, .slice A6 u.f3.length c6, .int .i8 u.f4, .float .f64 u.f5] u t _ (k28.K_below BW6.out HK.out) (by have hr := k48_mk w6 u LU.out (Kd.C_below GU.out BW6.out); rw [← HB0.out] at hr; exact hr) OKP.out).mono ?_); rw [HM.out]; rintro e w7 ⟨rfl, hb⟩; have HB47 := Lib.hid (HB46.out.trans (hb.mono HB46.out.size)); have K97 := Lib.hid (blk_below K96.out hb); have BW7 := Lib.hid (BW6.out.trans (hb.mono BW6.out.size)); clear z0 s0; have z0 := (blk_cell (blk_below K96.out hb) 0).trans (Eq.refl (some (Value.bool false))); clear hb)
        | ((with_reducible refine gate_ (.load 28 (.tmp 3)) rfl ?_); (try (refine gate_guard (by rfl) ?_; dsimp only)); refine wpList_load_row rfl 28 (.tmp 3) rfl b3 rfl _ _ _ _ (blk_below KP4.out HB47.out) Tryd.underlying28 rfl HSP.out ?_)
        | ((with_reducible refine gate_ (.load 30 (.tmp 4)) rfl ?_); (try (refine gate_guard (by rfl) ?_; dsimp only)); refine wpList_load_row rfl 30 (.tmp 4) rfl b4 rfl _ _ _ _ (blk_below KT4.out HB47.out) Tryd.underlying30 rfl (by kernel_rfl) ?_)
        | (go_at_call 20; go_must (refine (allows_pol_calls p C t _ (k28.K_below BW7.out HK.out) OKP.out).mono ?_); rw [HA.out]; rintro e w8 ⟨rfl, hb⟩; have HB48 := Lib.hid (HB47.out.trans (hb.mono HB47.out.size)); have K98 := Lib.hid (blk_below K97.out hb); have BW8 := Lib.hid (BW7.out.trans (hb.mono BW7.out.size)); clear hb))
      go_ret
      exact ⟨rfl, BW6.out⟩
    | true =>
      cases hm : matchB p u t with
      | false =>
        have HM := Lib.hid hm
        clear hm
        show Calls _ _ _ _ fun e w' => e = .returned (.bool false) ∧ _
        go_enter Tryd.func22, Tryd.ntmps22
        go_upto_region 1 with (first
          | ((with_reducible refine gate_dst (N := 3) rfl ?_); refine box_event ?hg (N := 3) ?hd (cs := C) (t := 28) ?hr ?_; (case hd => rfl); (case hg => rfl); (case hr => first | (go_simp; done) | (go_simp; rfl)); intro b3 hg_ w1 hbx hBx; have BW1 := Lib.hid hBx; have K3 := Lib.hid hbx; clear hg_ hbx hBx)
          | ((with_reducible refine gate_dst (N := 4) rfl ?_); refine box_event ?hg (N := 4) ?hd (cs := #[.string t.f0, .string t.f1, .string t.f2]) (t := 30) ?hr ?_; (case hd => rfl); (case hg => rfl); (case hr => first | (go_simp; done) | (go_simp; rfl)); intro b4 hg_ w2 hbx hBx; have K32 := Lib.hid (blk_below K3.out hBx); have BW2 := Lib.hid (BW1.out.trans (hBx.mono BW1.out.size)); have K4 := Lib.hid hbx; clear hg_ hbx hBx)
          | ((with_reducible refine gate_dst (N := 5) rfl ?_); refine box_event ?hg (N := 5) ?hd (cs := #[.int .i8 3, .int .i64 n, .slice A2 m2 c2, .slice A3 m3 c3]) (t := 33) ?hr ?_; (case hd => rfl); (case hg => rfl); (case hr => first | (go_simp; done) | (go_simp; rfl)); intro b5 hg_ w3 hbx hBx; have KP := Lib.hid (blk_below K32.out hBx); have KT := Lib.hid (blk_below K4.out hBx); have BW3 := Lib.hid (BW2.out.trans (hBx.mono BW2.out.size)); have KR := Lib.hid hbx; have r2 := (blk_cell hbx 2).trans (Eq.refl (some (Value.slice A2 m2 c2))); have r3 := (blk_cell hbx 3).trans (Eq.refl (some (Value.slice A3 m3 c3))); clear hg_ hbx hBx))
        go_cut [7] (fun v7 wx => (∃ b : Bool, v7 = .bool b) ∧ wx = w3)
        case first =>
          rcases bare_cases m2 m3 with ⟨x1, x2, x3, x4⟩ | ⟨rfl, x1, x2, x3, x4⟩ | ⟨rfl, rfl⟩
          · go_wp2_with fail
            go_meet
            exact ⟨⟨_, rfl⟩, rfl⟩
          · go_wp2_with fail
            go_meet
            exact ⟨⟨_, rfl⟩, rfl⟩
          · go_wp2_with fail
            go_meet
            exact ⟨⟨_, rfl⟩, rfl⟩
        obtain ⟨⟨b7, rfl⟩, rfl⟩ := hcut
        clear r2 r3
        go_wp2_with (first
          | ((with_reducible refine gate_ (.load 28 (.tmp 3)) rfl ?_); clear U1; go_must (refine wpList_load_row rfl 28 (.tmp 3) rfl b3 rfl _ _ _ _ KP.out Tryd.underlying28 rfl HSP.out ?_))
          | ((with_reducible refine gate_ (.load 30 (.tmp 4)) rfl ?_); clear U2; go_must (refine wpList_load_row rfl 30 (.tmp 4) rfl b4 rfl _ _ _ _ KT.out Tryd.underlying30 rfl (by kernel_rfl) ?_))
          | (go_at_call 50; go_must (refine (known_calls p C t _ (k28.K_below BW3.out HK.out)).mono ?_);  rintro e w4 ⟨rfl, hb⟩; have KP4 := Lib.hid (blk_below KP.out hb); have KT4 := Lib.hid (blk_below KT.out hb); have k5 := blk_below KR.out hb; have KR4 := Lib.hid k5; have BW4 := Lib.hid (BW3.out.trans (hb.mono BW3.out.size)); have s0 := (blk_cell k5 0).trans (Eq.refl (some (Value.int .i8 3))); have s1 := (blk_cell k5 1).trans (Eq.refl (some (Value.int .i64 n))); have s9 := (blk_cell (blk_below KP.out hb) 9).trans HC9.out; obtain ⟨e0, e1, e2, e3, e4, e5⟩ := HEL.out w4 (BW3.out.trans (hb.mono BW3.out.size)); rw [← HB0.out] at e0; clear k5 hb)
          | ((with_reducible refine gate_dst (N := 9) rfl ?_); refine box_event ?hg (N := 9) ?hd (cs := #[.bool false, .string ⟨#[]⟩, .string ⟨#[]⟩, .slice none 0 0, .int .i8 0, .float .f64 0]) (t := 48) ?hr ?_; (case hd => rfl); (case hg => rfl); (case hr => first | (go_simp; done) | (go_simp; rfl)); intro b9 hg_ w5 hbx hBx; have HL9 := Lib.hid (show w4.heap.size ≤ b9 from by rw [hg_]; exact Nat.le_refl _); have HB5 := Lib.hid hBx; have K9 := Lib.hid hbx; clear hg_ hbx hBx)
          | ((with_reducible refine gate_ (.store 48 (.tmp 9) (.tmp 87)) rfl ?_); go_must (refine bstore (t := 48) (p := 9) (v := .tmp 87) rfl rfl rfl b9 _ #[.bool true, .string u.f1, .string u.f2, .slice A6 u.f3.length c6, .int .i8 u.f4, .float .f64 u.f5] (.agg #[.bool true, .string u.f1, .string u.f2, .slice A6 u.f3.length c6, .int .i8 u.f4, .float .f64 u.f5]) rfl rfl rfl K9.out (by kernel_rfl) rfl (by simp [Value.oneCell']) ?_); intro w6 hb4 hs4 hz4 hB4; have K96 := Lib.hid hb4; have hb46 := HB5.out.trans (hB4 _ HL9.out); have HB46 := Lib.hid hb46; have BW6 := Lib.hid (BW4.out.trans (hb46.mono BW4.out.size)); clear e0 e1 e2 e3 e4 e5 s0 s1 s9; have z0 := (blk_cell hb4 0).trans (Eq.refl (some (Value.bool true))); have s0 := (blk_cell (blk_below KR4.out hb46) 0).trans (Eq.refl (some (Value.int .i8 3))); clear hb4 hs4 hz4 hB4 hb46)
          | ((with_reducible refine gate_ (.load 28 (.tmp 3)) rfl ?_); clear U3; (try (refine gate_guard (by rfl) ?_; dsimp only)); refine wpList_load_row rfl 28 (.tmp 3) rfl b3 rfl _ _ _ _ (blk_below KP4.out HB46.out) Tryd.underlying28 rfl HSP.out ?_)
          | ((with_reducible refine gate_ (.load 30 (.tmp 4)) rfl ?_); clear U4; (try (refine gate_guard (by rfl) ?_; dsimp only)); refine wpList_load_row rfl 30 (.tmp 4) rfl b4 rfl _ _ _ _ (blk_below KT4.out HB46.out) Tryd.underlying30 rfl (by kernel_rfl) ?_)
          | ((with_reducible refine gate_ (.load 48 (.tmp 9)) rfl ?_); (try (refine gate_guard (by rfl) ?_; dsimp only)); refine wpList_load_row rfl 48 (.tmp 9) rfl b9 rfl _ _ _ _ (K96.out) Tryd.underlying48 rfl (by kernel_rfl) ?_)
          | (go_at_call 51; go_must (refine (matches_calls p C #[.bool true, .string u.f1, .string u.f2, .slice A6 u.f3.length c6, .int .i8 u.f4, .float .f64 u.f5] u t _ (k28.K_below BW6.out HK.out) (by have hr := k48_mk w6 u LU.out (Kd.C_below GU.out BW6.out); rw [← HB0.out] at hr; exact hr) OKP.out).mono ?_); rw [HM.out]; rintro e w7 ⟨rfl, hb⟩; have HB47 := Lib.hid (HB46.out.trans (hb.mono HB46.out.size)); have K97 := Lib.hid (blk_below K96.out hb); have BW7 := Lib.hid (BW6.out.trans (hb.mono BW6.out.size)); clear z0 s0; have z0 := (blk_cell (blk_below K96.out hb) 0).trans (Eq.refl (some (Value.bool true))); clear hb)
          | ((with_reducible refine gate_ (.load 28 (.tmp 3)) rfl ?_); (try (refine gate_guard (by rfl) ?_; dsimp only)); refine wpList_load_row rfl 28 (.tmp 3) rfl b3 rfl _ _ _ _ (blk_below KP4.out HB47.out) Tryd.underlying28 rfl HSP.out ?_)
          | ((with_reducible refine gate_ (.load 30 (.tmp 4)) rfl ?_); (try (refine gate_guard (by rfl) ?_; dsimp only)); refine wpList_load_row rfl 30 (.tmp 4) rfl b4 rfl _ _ _ _ (blk_below KT4.out HB47.out) Tryd.underlying30 rfl (by kernel_rfl) ?_)
          | (go_at_call 20; go_must (refine (allows_pol_calls p C t _ (k28.K_below BW7.out HK.out) OKP.out).mono ?_); rw [HA.out]; rintro e w8 ⟨rfl, hb⟩; have HB48 := Lib.hid (HB47.out.trans (hb.mono HB47.out.size)); have K98 := Lib.hid (blk_below K97.out hb); have BW8 := Lib.hid (BW7.out.trans (hb.mono BW7.out.size)); clear hb))
        go_ret
        exact ⟨rfl, BW7.out⟩
      | true =>
        have HM := Lib.hid hm
        clear hm
        cases hw1 : wayB (p.f5 ++ p.f6) ws t.f0 u.f1 with
        | false =>
          obtain ⟨bw, hw2⟩ : ∃ b, wayB (p.f7 ++ p.f8) wt t.f1 u.f2 = b := ⟨_, rfl⟩
          rw [hw2]
          show Calls _ _ _ _ fun e w' => e = .returned (.bool false) ∧ _
          have HW1 := Lib.hid hw1
          have HW2 := Lib.hid hw2
          clear hw1 hw2
          go_enter Tryd.func22, Tryd.ntmps22
          go_upto_region 1 with (first
            | ((with_reducible refine gate_dst (N := 3) rfl ?_); refine box_event ?hg (N := 3) ?hd (cs := C) (t := 28) ?hr ?_; (case hd => rfl); (case hg => rfl); (case hr => first | (go_simp; done) | (go_simp; rfl)); intro b3 hg_ w1 hbx hBx; have BW1 := Lib.hid hBx; have K3 := Lib.hid hbx; clear hg_ hbx hBx)
            | ((with_reducible refine gate_dst (N := 4) rfl ?_); refine box_event ?hg (N := 4) ?hd (cs := #[.string t.f0, .string t.f1, .string t.f2]) (t := 30) ?hr ?_; (case hd => rfl); (case hg => rfl); (case hr => first | (go_simp; done) | (go_simp; rfl)); intro b4 hg_ w2 hbx hBx; have K32 := Lib.hid (blk_below K3.out hBx); have BW2 := Lib.hid (BW1.out.trans (hBx.mono BW1.out.size)); have K4 := Lib.hid hbx; clear hg_ hbx hBx)
            | ((with_reducible refine gate_dst (N := 5) rfl ?_); refine box_event ?hg (N := 5) ?hd (cs := #[.int .i8 3, .int .i64 n, .slice A2 m2 c2, .slice A3 m3 c3]) (t := 33) ?hr ?_; (case hd => rfl); (case hg => rfl); (case hr => first | (go_simp; done) | (go_simp; rfl)); intro b5 hg_ w3 hbx hBx; have KP := Lib.hid (blk_below K32.out hBx); have KT := Lib.hid (blk_below K4.out hBx); have BW3 := Lib.hid (BW2.out.trans (hBx.mono BW2.out.size)); have KR := Lib.hid hbx; have r2 := (blk_cell hbx 2).trans (Eq.refl (some (Value.slice A2 m2 c2))); have r3 := (blk_cell hbx 3).trans (Eq.refl (some (Value.slice A3 m3 c3))); clear hg_ hbx hBx))
          go_cut [7] (fun v7 wx => (∃ b : Bool, v7 = .bool b) ∧ wx = w3)
          case first =>
            rcases bare_cases m2 m3 with ⟨x1, x2, x3, x4⟩ | ⟨rfl, x1, x2, x3, x4⟩ | ⟨rfl, rfl⟩
            · go_wp2_with fail
              go_meet
              exact ⟨⟨_, rfl⟩, rfl⟩
            · go_wp2_with fail
              go_meet
              exact ⟨⟨_, rfl⟩, rfl⟩
            · go_wp2_with fail
              go_meet
              exact ⟨⟨_, rfl⟩, rfl⟩
          obtain ⟨⟨b7, rfl⟩, rfl⟩ := hcut
          clear r2 r3
          go_upto_region 15 with (first
            | ((with_reducible refine gate_ (.load 28 (.tmp 3)) rfl ?_); clear U1; go_must (refine wpList_load_row rfl 28 (.tmp 3) rfl b3 rfl _ _ _ _ KP.out Tryd.underlying28 rfl HSP.out ?_))
            | ((with_reducible refine gate_ (.load 30 (.tmp 4)) rfl ?_); clear U2; go_must (refine wpList_load_row rfl 30 (.tmp 4) rfl b4 rfl _ _ _ _ KT.out Tryd.underlying30 rfl (by kernel_rfl) ?_))
            | (go_at_call 50; go_must (refine (known_calls p C t _ (k28.K_below BW3.out HK.out)).mono ?_);  rintro e w4 ⟨rfl, hb⟩; have KP4 := Lib.hid (blk_below KP.out hb); have KT4 := Lib.hid (blk_below KT.out hb); have k5 := blk_below KR.out hb; have KR4 := Lib.hid k5; have BW4 := Lib.hid (BW3.out.trans (hb.mono BW3.out.size)); have s0 := (blk_cell k5 0).trans (Eq.refl (some (Value.int .i8 3))); have s1 := (blk_cell k5 1).trans (Eq.refl (some (Value.int .i64 n))); have s9 := (blk_cell (blk_below KP.out hb) 9).trans HC9.out; obtain ⟨e0, e1, e2, e3, e4, e5⟩ := HEL.out w4 (BW3.out.trans (hb.mono BW3.out.size)); rw [← HB0.out] at e0; clear k5 hb)
            | ((with_reducible refine gate_dst (N := 9) rfl ?_); refine box_event ?hg (N := 9) ?hd (cs := #[.bool false, .string ⟨#[]⟩, .string ⟨#[]⟩, .slice none 0 0, .int .i8 0, .float .f64 0]) (t := 48) ?hr ?_; (case hd => rfl); (case hg => rfl); (case hr => first | (go_simp; done) | (go_simp; rfl)); intro b9 hg_ w5 hbx hBx; have HL9 := Lib.hid (show w4.heap.size ≤ b9 from by rw [hg_]; exact Nat.le_refl _); have HB5 := Lib.hid hBx; have K9 := Lib.hid hbx; clear hg_ hbx hBx)
            | ((with_reducible refine gate_ (.store 48 (.tmp 9) (.tmp 87)) rfl ?_); go_must (refine bstore (t := 48) (p := 9) (v := .tmp 87) rfl rfl rfl b9 _ #[.bool true, .string u.f1, .string u.f2, .slice A6 u.f3.length c6, .int .i8 u.f4, .float .f64 u.f5] (.agg #[.bool true, .string u.f1, .string u.f2, .slice A6 u.f3.length c6, .int .i8 u.f4, .float .f64 u.f5]) rfl rfl rfl K9.out (by kernel_rfl) rfl (by simp [Value.oneCell']) ?_); intro w6 hb4 hs4 hz4 hB4; have K96 := Lib.hid hb4; have hb46 := HB5.out.trans (hB4 _ HL9.out); have HB46 := Lib.hid hb46; have BW6 := Lib.hid (BW4.out.trans (hb46.mono BW4.out.size)); clear e0 e1 e2 e3 e4 e5 s0 s1 s9; have z0 := (blk_cell hb4 0).trans (Eq.refl (some (Value.bool true))); have s0 := (blk_cell (blk_below KR4.out hb46) 0).trans (Eq.refl (some (Value.int .i8 3))); clear hb4 hs4 hz4 hB4 hb46)
            | ((with_reducible refine gate_ (.load 28 (.tmp 3)) rfl ?_); clear U3; (try (refine gate_guard (by rfl) ?_; dsimp only)); refine wpList_load_row rfl 28 (.tmp 3) rfl b3 rfl _ _ _ _ (blk_below KP4.out HB46.out) Tryd.underlying28 rfl HSP.out ?_)
            | ((with_reducible refine gate_ (.load 30 (.tmp 4)) rfl ?_); clear U4; (try (refine gate_guard (by rfl) ?_; dsimp only)); refine wpList_load_row rfl 30 (.tmp 4) rfl b4 rfl _ _ _ _ (blk_below KT4.out HB46.out) Tryd.underlying30 rfl (by kernel_rfl) ?_)
            | ((with_reducible refine gate_ (.load 48 (.tmp 9)) rfl ?_); (try (refine gate_guard (by rfl) ?_; dsimp only)); refine wpList_load_row rfl 48 (.tmp 9) rfl b9 rfl _ _ _ _ (K96.out) Tryd.underlying48 rfl (by kernel_rfl) ?_)
            | (go_at_call 51; go_must (refine (matches_calls p C #[.bool true, .string u.f1, .string u.f2, .slice A6 u.f3.length c6, .int .i8 u.f4, .float .f64 u.f5] u t _ (k28.K_below BW6.out HK.out) (by have hr := k48_mk w6 u LU.out (Kd.C_below GU.out BW6.out); rw [← HB0.out] at hr; exact hr) OKP.out).mono ?_); rw [HM.out]; rintro e w7 ⟨rfl, hb⟩; have HB47 := Lib.hid (HB46.out.trans (hb.mono HB46.out.size)); have K97 := Lib.hid (blk_below K96.out hb); have BW7 := Lib.hid (BW6.out.trans (hb.mono BW6.out.size)); clear z0 s0; have z0 := (blk_cell (blk_below K96.out hb) 0).trans (Eq.refl (some (Value.bool true))); clear hb)
            | ((with_reducible refine gate_ (.load 28 (.tmp 3)) rfl ?_); (try (refine gate_guard (by rfl) ?_; dsimp only)); refine wpList_load_row rfl 28 (.tmp 3) rfl b3 rfl _ _ _ _ (blk_below KP4.out HB47.out) Tryd.underlying28 rfl HSP.out ?_)
            | ((with_reducible refine gate_ (.load 30 (.tmp 4)) rfl ?_); (try (refine gate_guard (by rfl) ?_; dsimp only)); refine wpList_load_row rfl 30 (.tmp 4) rfl b4 rfl _ _ _ _ (blk_below KT4.out HB47.out) Tryd.underlying30 rfl (by kernel_rfl) ?_)
            | (go_at_call 20; go_must (refine (allows_pol_calls p C t _ (k28.K_below BW7.out HK.out) OKP.out).mono ?_); rw [HA.out]; rintro e w8 ⟨rfl, hb⟩; have HB48 := Lib.hid (HB47.out.trans (hb.mono HB47.out.size)); have K98 := Lib.hid (blk_below K97.out hb); have BW8 := Lib.hid (BW7.out.trans (hb.mono BW7.out.size)); clear hb))
          refine h15a.region p t u C 3 n A2 A3 A6 ws wt c2 c3 u.f3.length c6 b3 b4 b5 b9 bw (k28.K_below BW7.out HK.out) (by have := HZ.out.l5; have := HZ.out.l6; omega) (by have := HZ.out.l7; have := HZ.out.l8; omega) L2.out (Kd.C_below G2.out BW7.out) L3.out (Kd.C_below G3.out BW7.out) (by have := HLW.out.1; omega) (by have := HLW.out.2; omega) HW1.out HW2.out (by kernel_rfl) rfl rfl (blk_below KP4.out HB47.out) rfl (blk_below KT4.out HB47.out) rfl (by rw [← HM2.out, ← HM3.out]; exact blk_below KR4.out HB47.out) rfl (by rw [← HB0.out]; exact K97.out) ?_
          rintro xs W9 hB9 hv
          have hv' : xs 20 = _ := hv
          simp only [putZ, Act.put, List.setIfInBounds_toArray, List.set_cons_zero, List.set_cons_succ, Nat.reduceAdd]
          rw [hv']
          have BW9 := Lib.hid (BW7.out.trans (hB9.mono BW7.out.size))
          clear hB9 hv hv'
          go_wp2_with fail
          go_ret
          exact ⟨rfl, BW9.out⟩
        | true =>
          obtain ⟨bw, hw2⟩ : ∃ b, wayB (p.f7 ++ p.f8) wt t.f1 u.f2 = b := ⟨_, rfl⟩
          rw [hw2]
          show Calls _ _ _ _ fun e w' => e = .returned (.bool bw) ∧ _
          have HW1 := Lib.hid hw1
          have HW2 := Lib.hid hw2
          clear hw1 hw2
          go_enter Tryd.func22, Tryd.ntmps22
          go_upto_region 1 with (first
            | ((with_reducible refine gate_dst (N := 3) rfl ?_); refine box_event ?hg (N := 3) ?hd (cs := C) (t := 28) ?hr ?_; (case hd => rfl); (case hg => rfl); (case hr => first | (go_simp; done) | (go_simp; rfl)); intro b3 hg_ w1 hbx hBx; have BW1 := Lib.hid hBx; have K3 := Lib.hid hbx; clear hg_ hbx hBx)
            | ((with_reducible refine gate_dst (N := 4) rfl ?_); refine box_event ?hg (N := 4) ?hd (cs := #[.string t.f0, .string t.f1, .string t.f2]) (t := 30) ?hr ?_; (case hd => rfl); (case hg => rfl); (case hr => first | (go_simp; done) | (go_simp; rfl)); intro b4 hg_ w2 hbx hBx; have K32 := Lib.hid (blk_below K3.out hBx); have BW2 := Lib.hid (BW1.out.trans (hBx.mono BW1.out.size)); have K4 := Lib.hid hbx; clear hg_ hbx hBx)
            | ((with_reducible refine gate_dst (N := 5) rfl ?_); refine box_event ?hg (N := 5) ?hd (cs := #[.int .i8 3, .int .i64 n, .slice A2 m2 c2, .slice A3 m3 c3]) (t := 33) ?hr ?_; (case hd => rfl); (case hg => rfl); (case hr => first | (go_simp; done) | (go_simp; rfl)); intro b5 hg_ w3 hbx hBx; have KP := Lib.hid (blk_below K32.out hBx); have KT := Lib.hid (blk_below K4.out hBx); have BW3 := Lib.hid (BW2.out.trans (hBx.mono BW2.out.size)); have KR := Lib.hid hbx; have r2 := (blk_cell hbx 2).trans (Eq.refl (some (Value.slice A2 m2 c2))); have r3 := (blk_cell hbx 3).trans (Eq.refl (some (Value.slice A3 m3 c3))); clear hg_ hbx hBx))
          go_cut [7] (fun v7 wx => (∃ b : Bool, v7 = .bool b) ∧ wx = w3)
          case first =>
            rcases bare_cases m2 m3 with ⟨x1, x2, x3, x4⟩ | ⟨rfl, x1, x2, x3, x4⟩ | ⟨rfl, rfl⟩
            · go_wp2_with fail
              go_meet
              exact ⟨⟨_, rfl⟩, rfl⟩
            · go_wp2_with fail
              go_meet
              exact ⟨⟨_, rfl⟩, rfl⟩
            · go_wp2_with fail
              go_meet
              exact ⟨⟨_, rfl⟩, rfl⟩
          obtain ⟨⟨b7, rfl⟩, rfl⟩ := hcut
          clear r2 r3
          go_upto_region 15 with (first
            | ((with_reducible refine gate_ (.load 28 (.tmp 3)) rfl ?_); clear U1; go_must (refine wpList_load_row rfl 28 (.tmp 3) rfl b3 rfl _ _ _ _ KP.out Tryd.underlying28 rfl HSP.out ?_))
            | ((with_reducible refine gate_ (.load 30 (.tmp 4)) rfl ?_); clear U2; go_must (refine wpList_load_row rfl 30 (.tmp 4) rfl b4 rfl _ _ _ _ KT.out Tryd.underlying30 rfl (by kernel_rfl) ?_))
            | (go_at_call 50; go_must (refine (known_calls p C t _ (k28.K_below BW3.out HK.out)).mono ?_);  rintro e w4 ⟨rfl, hb⟩; have KP4 := Lib.hid (blk_below KP.out hb); have KT4 := Lib.hid (blk_below KT.out hb); have k5 := blk_below KR.out hb; have KR4 := Lib.hid k5; have BW4 := Lib.hid (BW3.out.trans (hb.mono BW3.out.size)); have s0 := (blk_cell k5 0).trans (Eq.refl (some (Value.int .i8 3))); have s1 := (blk_cell k5 1).trans (Eq.refl (some (Value.int .i64 n))); have s9 := (blk_cell (blk_below KP.out hb) 9).trans HC9.out; obtain ⟨e0, e1, e2, e3, e4, e5⟩ := HEL.out w4 (BW3.out.trans (hb.mono BW3.out.size)); rw [← HB0.out] at e0; clear k5 hb)
            | ((with_reducible refine gate_dst (N := 9) rfl ?_); refine box_event ?hg (N := 9) ?hd (cs := #[.bool false, .string ⟨#[]⟩, .string ⟨#[]⟩, .slice none 0 0, .int .i8 0, .float .f64 0]) (t := 48) ?hr ?_; (case hd => rfl); (case hg => rfl); (case hr => first | (go_simp; done) | (go_simp; rfl)); intro b9 hg_ w5 hbx hBx; have HL9 := Lib.hid (show w4.heap.size ≤ b9 from by rw [hg_]; exact Nat.le_refl _); have HB5 := Lib.hid hBx; have K9 := Lib.hid hbx; clear hg_ hbx hBx)
            | ((with_reducible refine gate_ (.store 48 (.tmp 9) (.tmp 87)) rfl ?_); go_must (refine bstore (t := 48) (p := 9) (v := .tmp 87) rfl rfl rfl b9 _ #[.bool true, .string u.f1, .string u.f2, .slice A6 u.f3.length c6, .int .i8 u.f4, .float .f64 u.f5] (.agg #[.bool true, .string u.f1, .string u.f2, .slice A6 u.f3.length c6, .int .i8 u.f4, .float .f64 u.f5]) rfl rfl rfl K9.out (by kernel_rfl) rfl (by simp [Value.oneCell']) ?_); intro w6 hb4 hs4 hz4 hB4; have K96 := Lib.hid hb4; have hb46 := HB5.out.trans (hB4 _ HL9.out); have HB46 := Lib.hid hb46; have BW6 := Lib.hid (BW4.out.trans (hb46.mono BW4.out.size)); clear e0 e1 e2 e3 e4 e5 s0 s1 s9; have z0 := (blk_cell hb4 0).trans (Eq.refl (some (Value.bool true))); have s0 := (blk_cell (blk_below KR4.out hb46) 0).trans (Eq.refl (some (Value.int .i8 3))); clear hb4 hs4 hz4 hB4 hb46)
            | ((with_reducible refine gate_ (.load 28 (.tmp 3)) rfl ?_); clear U3; (try (refine gate_guard (by rfl) ?_; dsimp only)); refine wpList_load_row rfl 28 (.tmp 3) rfl b3 rfl _ _ _ _ (blk_below KP4.out HB46.out) Tryd.underlying28 rfl HSP.out ?_)
            | ((with_reducible refine gate_ (.load 30 (.tmp 4)) rfl ?_); clear U4; (try (refine gate_guard (by rfl) ?_; dsimp only)); refine wpList_load_row rfl 30 (.tmp 4) rfl b4 rfl _ _ _ _ (blk_below KT4.out HB46.out) Tryd.underlying30 rfl (by kernel_rfl) ?_)
            | ((with_reducible refine gate_ (.load 48 (.tmp 9)) rfl ?_); (try (refine gate_guard (by rfl) ?_; dsimp only)); refine wpList_load_row rfl 48 (.tmp 9) rfl b9 rfl _ _ _ _ (K96.out) Tryd.underlying48 rfl (by kernel_rfl) ?_)
            | (go_at_call 51; go_must (refine (matches_calls p C #[.bool true, .string u.f1, .string u.f2, .slice A6 u.f3.length c6, .int .i8 u.f4, .float .f64 u.f5] u t _ (k28.K_below BW6.out HK.out) (by have hr := k48_mk w6 u LU.out (Kd.C_below GU.out BW6.out); rw [← HB0.out] at hr; exact hr) OKP.out).mono ?_); rw [HM.out]; rintro e w7 ⟨rfl, hb⟩; have HB47 := Lib.hid (HB46.out.trans (hb.mono HB46.out.size)); have K97 := Lib.hid (blk_below K96.out hb); have BW7 := Lib.hid (BW6.out.trans (hb.mono BW6.out.size)); clear z0 s0; have z0 := (blk_cell (blk_below K96.out hb) 0).trans (Eq.refl (some (Value.bool true))); clear hb)
            | ((with_reducible refine gate_ (.load 28 (.tmp 3)) rfl ?_); (try (refine gate_guard (by rfl) ?_; dsimp only)); refine wpList_load_row rfl 28 (.tmp 3) rfl b3 rfl _ _ _ _ (blk_below KP4.out HB47.out) Tryd.underlying28 rfl HSP.out ?_)
            | ((with_reducible refine gate_ (.load 30 (.tmp 4)) rfl ?_); (try (refine gate_guard (by rfl) ?_; dsimp only)); refine wpList_load_row rfl 30 (.tmp 4) rfl b4 rfl _ _ _ _ (blk_below KT4.out HB47.out) Tryd.underlying30 rfl (by kernel_rfl) ?_)
            | (go_at_call 20; go_must (refine (allows_pol_calls p C t _ (k28.K_below BW7.out HK.out) OKP.out).mono ?_); rw [HA.out]; rintro e w8 ⟨rfl, hb⟩; have HB48 := Lib.hid (HB47.out.trans (hb.mono HB47.out.size)); have K98 := Lib.hid (blk_below K97.out hb); have BW8 := Lib.hid (BW7.out.trans (hb.mono BW7.out.size)); clear hb))
          refine h15b.region p t u C 3 n A2 A3 A6 ws wt c2 c3 u.f3.length c6 b3 b4 b5 b9 bw (k28.K_below BW7.out HK.out) (by have := HZ.out.l5; have := HZ.out.l6; omega) (by have := HZ.out.l7; have := HZ.out.l8; omega) L2.out (Kd.C_below G2.out BW7.out) L3.out (Kd.C_below G3.out BW7.out) (by have := HLW.out.1; omega) (by have := HLW.out.2; omega) HW1.out HW2.out (by kernel_rfl) rfl rfl (blk_below KP4.out HB47.out) rfl (blk_below KT4.out HB47.out) rfl (by rw [← HM2.out, ← HM3.out]; exact blk_below KR4.out HB47.out) rfl (by rw [← HB0.out]; exact K97.out) ?_
          rintro xs W9 hB9 hv
          have hv' : xs 20 = _ := hv
          simp only [putZ, Act.put, List.setIfInBounds_toArray, List.set_cons_zero, List.set_cons_succ, Nat.reduceAdd]
          rw [hv']
          have BW9 := Lib.hid (BW7.out.trans (hB9.mono BW7.out.size))
          clear hB9 hv hv'
          go_wp2_with fail
          go_ret
          exact ⟨rfl, BW9.out⟩
    · rw [holds_3, decide_eq_false h2, Bool.false_and, Bool.and_false]
      have y1 : ¬ n < 1 := by omega
      have y2 : (p.f9.length : Int) < n := by omega
      have y3 : decide (n < 1) = false := decide_eq_false y1
      have y4 : decide ((p.f9.length : Int) < n) = true := decide_eq_true y2
      clear h1 h2
      go_enter Tryd.func22, Tryd.ntmps22
      go_upto_region 1 with (first
        | ((with_reducible refine gate_dst (N := 3) rfl ?_); refine box_event ?hg (N := 3) ?hd (cs := C) (t := 28) ?hr ?_; (case hd => rfl); (case hg => rfl); (case hr => first | (go_simp; done) | (go_simp; rfl)); intro b3 hg_ w1 hbx hBx; have BW1 := Lib.hid hBx; have K3 := Lib.hid hbx; clear hg_ hbx hBx)
        | ((with_reducible refine gate_dst (N := 4) rfl ?_); refine box_event ?hg (N := 4) ?hd (cs := #[.string t.f0, .string t.f1, .string t.f2]) (t := 30) ?hr ?_; (case hd => rfl); (case hg => rfl); (case hr => first | (go_simp; done) | (go_simp; rfl)); intro b4 hg_ w2 hbx hBx; have K32 := Lib.hid (blk_below K3.out hBx); have BW2 := Lib.hid (BW1.out.trans (hBx.mono BW1.out.size)); have K4 := Lib.hid hbx; clear hg_ hbx hBx)
        | ((with_reducible refine gate_dst (N := 5) rfl ?_); refine box_event ?hg (N := 5) ?hd (cs := #[.int .i8 3, .int .i64 n, .slice A2 m2 c2, .slice A3 m3 c3]) (t := 33) ?hr ?_; (case hd => rfl); (case hg => rfl); (case hr => first | (go_simp; done) | (go_simp; rfl)); intro b5 hg_ w3 hbx hBx; have KP := Lib.hid (blk_below K32.out hBx); have KT := Lib.hid (blk_below K4.out hBx); have BW3 := Lib.hid (BW2.out.trans (hBx.mono BW2.out.size)); have KR := Lib.hid hbx; have r2 := (blk_cell hbx 2).trans (Eq.refl (some (Value.slice A2 m2 c2))); have r3 := (blk_cell hbx 3).trans (Eq.refl (some (Value.slice A3 m3 c3))); clear hg_ hbx hBx))
      go_cut [7] (fun v7 wx => (∃ b : Bool, v7 = .bool b) ∧ wx = w3)
      case first =>
        rcases bare_cases m2 m3 with ⟨x1, x2, x3, x4⟩ | ⟨rfl, x1, x2, x3, x4⟩ | ⟨rfl, rfl⟩
        · go_wp2_with fail
          go_meet
          exact ⟨⟨_, rfl⟩, rfl⟩
        · go_wp2_with fail
          go_meet
          exact ⟨⟨_, rfl⟩, rfl⟩
        · go_wp2_with fail
          go_meet
          exact ⟨⟨_, rfl⟩, rfl⟩
      obtain ⟨⟨b7, rfl⟩, rfl⟩ := hcut
      clear r2 r3
      go_wp2_with (first
        | ((with_reducible refine gate_ (.load 28 (.tmp 3)) rfl ?_); clear U1; go_must (refine wpList_load_row rfl 28 (.tmp 3) rfl b3 rfl _ _ _ _ KP.out Tryd.underlying28 rfl HSP.out ?_))
        | ((with_reducible refine gate_ (.load 30 (.tmp 4)) rfl ?_); clear U2; go_must (refine wpList_load_row rfl 30 (.tmp 4) rfl b4 rfl _ _ _ _ KT.out Tryd.underlying30 rfl (by kernel_rfl) ?_))
        | (go_at_call 50; go_must (refine (known_calls p C t _ (k28.K_below BW3.out HK.out)).mono ?_);  rintro e w4 ⟨rfl, hb⟩; have KP4 := Lib.hid (blk_below KP.out hb); have KT4 := Lib.hid (blk_below KT.out hb); have k5 := blk_below KR.out hb; have KR4 := Lib.hid k5; have BW4 := Lib.hid (BW3.out.trans (hb.mono BW3.out.size)); have s0 := (blk_cell k5 0).trans (Eq.refl (some (Value.int .i8 3))); have s1 := (blk_cell k5 1).trans (Eq.refl (some (Value.int .i64 n))); have s9 := (blk_cell (blk_below KP.out hb) 9).trans HC9.out; clear k5 hb))
      go_ret
      exact ⟨rfl, BW4.out⟩
  · rw [holds_3, decide_eq_false h1, Bool.false_and]
    have y1 : n < 1 := by omega
    have y3 : decide (n < 1) = true := decide_eq_true y1
    clear h1
    go_enter Tryd.func22, Tryd.ntmps22
    go_upto_region 1 with (first
      | ((with_reducible refine gate_dst (N := 3) rfl ?_); refine box_event ?hg (N := 3) ?hd (cs := C) (t := 28) ?hr ?_; (case hd => rfl); (case hg => rfl); (case hr => first | (go_simp; done) | (go_simp; rfl)); intro b3 hg_ w1 hbx hBx; have BW1 := Lib.hid hBx; have K3 := Lib.hid hbx; clear hg_ hbx hBx)
      | ((with_reducible refine gate_dst (N := 4) rfl ?_); refine box_event ?hg (N := 4) ?hd (cs := #[.string t.f0, .string t.f1, .string t.f2]) (t := 30) ?hr ?_; (case hd => rfl); (case hg => rfl); (case hr => first | (go_simp; done) | (go_simp; rfl)); intro b4 hg_ w2 hbx hBx; have K32 := Lib.hid (blk_below K3.out hBx); have BW2 := Lib.hid (BW1.out.trans (hBx.mono BW1.out.size)); have K4 := Lib.hid hbx; clear hg_ hbx hBx)
      | ((with_reducible refine gate_dst (N := 5) rfl ?_); refine box_event ?hg (N := 5) ?hd (cs := #[.int .i8 3, .int .i64 n, .slice A2 m2 c2, .slice A3 m3 c3]) (t := 33) ?hr ?_; (case hd => rfl); (case hg => rfl); (case hr => first | (go_simp; done) | (go_simp; rfl)); intro b5 hg_ w3 hbx hBx; have KP := Lib.hid (blk_below K32.out hBx); have KT := Lib.hid (blk_below K4.out hBx); have BW3 := Lib.hid (BW2.out.trans (hBx.mono BW2.out.size)); have KR := Lib.hid hbx; have r2 := (blk_cell hbx 2).trans (Eq.refl (some (Value.slice A2 m2 c2))); have r3 := (blk_cell hbx 3).trans (Eq.refl (some (Value.slice A3 m3 c3))); clear hg_ hbx hBx))
    go_cut [7] (fun v7 wx => (∃ b : Bool, v7 = .bool b) ∧ wx = w3)
    case first =>
      rcases bare_cases m2 m3 with ⟨x1, x2, x3, x4⟩ | ⟨rfl, x1, x2, x3, x4⟩ | ⟨rfl, rfl⟩
      · go_wp2_with fail
        go_meet
        exact ⟨⟨_, rfl⟩, rfl⟩
      · go_wp2_with fail
        go_meet
        exact ⟨⟨_, rfl⟩, rfl⟩
      · go_wp2_with fail
        go_meet
        exact ⟨⟨_, rfl⟩, rfl⟩
    obtain ⟨⟨b7, rfl⟩, rfl⟩ := hcut
    clear r2 r3
    go_wp2_with (first
      | ((with_reducible refine gate_ (.load 28 (.tmp 3)) rfl ?_); clear U1; go_must (refine wpList_load_row rfl 28 (.tmp 3) rfl b3 rfl _ _ _ _ KP.out Tryd.underlying28 rfl HSP.out ?_))
      | ((with_reducible refine gate_ (.load 30 (.tmp 4)) rfl ?_); clear U2; go_must (refine wpList_load_row rfl 30 (.tmp 4) rfl b4 rfl _ _ _ _ KT.out Tryd.underlying30 rfl (by kernel_rfl) ?_))
      | (go_at_call 50; go_must (refine (known_calls p C t _ (k28.K_below BW3.out HK.out)).mono ?_);  rintro e w4 ⟨rfl, hb⟩; have KP4 := Lib.hid (blk_below KP.out hb); have KT4 := Lib.hid (blk_below KT.out hb); have k5 := blk_below KR.out hb; have KR4 := Lib.hid k5; have BW4 := Lib.hid (BW3.out.trans (hb.mono BW3.out.size)); have s0 := (blk_cell k5 0).trans (Eq.refl (some (Value.int .i8 3))); have s1 := (blk_cell k5 1).trans (Eq.refl (some (Value.int .i64 n))); have s9 := (blk_cell (blk_below KP.out hb) 9).trans HC9.out; clear k5 hb))
    go_ret
    exact ⟨rfl, BW4.out⟩
end Go.Proofs.YteefneemmdfncaaDoor.M
