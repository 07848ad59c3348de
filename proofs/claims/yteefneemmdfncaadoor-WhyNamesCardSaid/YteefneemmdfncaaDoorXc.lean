import Derived.Test.YteefneemmdfncaaDoorXb
/- why.Holds, walked: the verdict 'excepted'. Conditions: the policy and the reason read as they must; lists are bounded. -/
namespace Go.Proofs.YteefneemmdfncaaDoor.M
open Go.RowKit Go.Proofs.YteefneemmdfncaaDoorW.Raw Go.Proofs.YteefneemmdfncaaDoorW.PrintWords Go.Proofs.YteefneemmdfncaaDoorW.PrintLast Go.Proofs.YteefneemmdfncaaDoorW.PrintAll Go.Proofs.YteefneemmdfncaaDoor.F
set_option linter.unusedVariables false
set_option linter.unusedSimpArgs false
attribute [local go_sem high] eqA30
attribute [local go_sem] run_store_float

set_option maxRecDepth 100000 in
set_option maxHeartbeats 16000000 in
theorem holds_v2 (p : Pol) (C : Array Value) (t : Tri) (n : Int) (ws wt : List ByteArray) (A2 A3 : Option Addr) (c2 c3 : Nat) (w : World) (hk : k28.K w p C.toList) (l2 : ws.length ≤ c2) (g2 : Kd.C Kd.string w A2 ws.length ws) (l3 : wt.length ≤ c3) (g3 : Kd.C Kd.string w A3 wt.length wt) (hz : Sz p):
    Calls Tryd.prog 22 #[.agg C, .agg #[.string t.f0, .string t.f1, .string t.f2], .agg #[.int .i8 2, .int .i64 n, .slice A2 ws.length c2, .slice A3 wt.length c3]] w fun e w' => e = .returned (.bool (holdsL p t ⟨2, n, ws, wt⟩)) ∧ Below w.heap.size w w' := by
  have HK := Lib.hid hk
  have HSP := Lib.hid (pol_size hk)
  have OKP := Lib.hid (okB_iff.1 hz.ok)
  have HZ := Lib.hid hz
  have G2 := Lib.hid g2
  have G3 := Lib.hid g3
  have L2 := Lib.hid l2
  have L3 := Lib.hid l3
  have hl9 := hz.l9
  have hl10 := hz.l10
  have hk' := hk
  obtain ⟨C', hC'⟩ : ∃ C' : Array Value, C' = C := ⟨_, rfl⟩
  rw [← hC'] at hk'
  obtain ⟨A0, c0, A1, c1, A12, c12, A13, c13, A4, c4, A5, c5, A6, c6, A7, c7, A8, c8, A9, c9, A10, c10, e_, l0', g0', l1', g1', l2', g2', l3', g3', l4', g4', l5', g5', l6', g6', l7', g7', l8', g8', l9', g9', l10', g10'⟩ := k28_open hk'
  obtain rfl : C' = #[.slice A0 p.f0.length c0, .slice A1 p.f1.length c1, .slice A12 p.f2.length c12, .slice A13 p.f3.length c13, .slice A4 p.f4.length c4, .slice A5 p.f5.length c5, .slice A6 p.f6.length c6, .slice A7 p.f7.length c7, .slice A8 p.f8.length c8, .slice A9 p.f9.length c9, .slice A10 p.f10.length c10] := Array.toList_inj.1 e_
  clear e_
  have HC9 := Lib.hid (show C[9]? = some (.slice A9 p.f9.length c9) by rw [← hC']; rfl)
  have HC10 := Lib.hid (show C[10]? = some (.slice A10 p.f10.length c10) by rw [← hC']; rfl)
  have H9 := Lib.hid g9'
  have H10 := Lib.hid g10'
  clear hC'
  obtain ⟨m2, hm2⟩ : ∃ m, m = ws.length := ⟨_, rfl⟩
  obtain ⟨m3, hm3⟩ : ∃ m, m = wt.length := ⟨_, rfl⟩
  rw [← hm2, ← hm3]
  have HM2 := Lib.hid hm2
  have HM3 := Lib.hid hm3
  have U1 : True := trivial
  have U2 : True := trivial
  have U3 : True := trivial
  have U4 : True := trivial
  clear hk hk' hz g2 g3 l2 l3 hm2 hm3 l0' g0' l1' g1' l2' g2' l3' g3' l4' g4' l5' g5' l6' g6' l7' g7' l8' g8' l9' g9' l10' g10'
  rcases bare_cases m2 m3 with ⟨x1, x2, x3, x4⟩ | ⟨rfl, x1, x2, x3, x4⟩ | ⟨rfl, rfl⟩
  · rw [holds_2, bare_no2 HM2.out x3, Bool.false_and]
    go_enter Tryd.func22, Tryd.ntmps22
    go_upto_region 7 with (first
      | ((with_reducible refine gate_dst (N := 3) rfl ?_); refine box_event ?hg (N := 3) ?hd (cs := C) (t := 28) ?hr ?_; (case hd => rfl); (case hg => rfl); (case hr => first | (go_simp; done) | (go_simp; rfl)); intro b3 hg_ w1 hbx hBx; have BW1 := Lib.hid hBx; have K3 := Lib.hid hbx; clear hg_ hbx hBx)
      | ((with_reducible refine gate_dst (N := 4) rfl ?_); refine box_event ?hg (N := 4) ?hd (cs := #[.string t.f0, .string t.f1, .string t.f2]) (t := 30) ?hr ?_; (case hd => rfl); (case hg => rfl); (case hr => first | (go_simp; done) | (go_simp; rfl)); intro b4 hg_ w2 hbx hBx; have K32 := Lib.hid (blk_below K3.out hBx); have BW2 := Lib.hid (BW1.out.trans (hBx.mono BW1.out.size)); have K4 := Lib.hid hbx; clear hg_ hbx hBx)
      | ((with_reducible refine gate_dst (N := 5) rfl ?_); refine box_event ?hg (N := 5) ?hd (cs := #[.int .i8 2, .int .i64 n, .slice A2 m2 c2, .slice A3 m3 c3]) (t := 33) ?hr ?_; (case hd => rfl); (case hg => rfl); (case hr => first | (go_simp; done) | (go_simp; rfl)); intro b5 hg_ w3 hbx hBx; have KP := Lib.hid (blk_below K32.out hBx); have KT := Lib.hid (blk_below K4.out hBx); have BW3 := Lib.hid (BW2.out.trans (hBx.mono BW2.out.size)); have KR := Lib.hid hbx; have r2 := (blk_cell hbx 2).trans (Eq.refl (some (Value.slice A2 m2 c2))); have r3 := (blk_cell hbx 3).trans (Eq.refl (some (Value.slice A3 m3 c3))); clear hg_ hbx hBx)
      | ((with_reducible refine gate_ (.load 28 (.tmp 3)) rfl ?_); clear U1; go_must (refine wpList_load_row rfl 28 (.tmp 3) rfl b3 rfl _ _ _ _ KP.out Tryd.underlying28 rfl HSP.out ?_))
      | ((with_reducible refine gate_ (.load 30 (.tmp 4)) rfl ?_); clear U2; go_must (refine wpList_load_row rfl 30 (.tmp 4) rfl b4 rfl _ _ _ _ KT.out Tryd.underlying30 rfl (by kernel_rfl) ?_))
      | (go_at_call 50; go_must (refine (known_calls p C t _ (k28.K_below BW3.out HK.out)).mono ?_);  rintro e w4 ⟨rfl, hb⟩; have KP4 := Lib.hid (blk_below KP.out hb); have KT4 := Lib.hid (blk_below KT.out hb); have k5 := blk_below KR.out hb; have KR4 := Lib.hid k5; have BW4 := Lib.hid (BW3.out.trans (hb.mono BW3.out.size)); clear r2 r3; have s0 := (blk_cell k5 0).trans (Eq.refl (some (Value.int .i8 2))); have s1 := (blk_cell k5 1).trans (Eq.refl (some (Value.int .i64 n)));  clear k5 hb))
    refine h7a.region (knownB p t) p t ⟨⟨#[]⟩, ⟨#[]⟩, ⟨#[]⟩⟩ C A10 ⟨0, 0, none⟩ p.f10.length c10 0 2 n A2 A3 m2 c2 m3 c3 b3 b4 b5 (k28.K_below BW4.out HK.out) (by kernel_rfl) rfl rfl KP4.out rfl KT4.out rfl KR4.out rfl rfl ?_
    rintro xs W6 hB6 hv
    have hv' : xs 28 = _ := hv
    simp only [putZ, Act.put, List.setIfInBounds_toArray, List.set_cons_zero, List.set_cons_succ, Nat.reduceAdd]
    rw [hv']
    have BW6 := Lib.hid (BW4.out.trans (hB6.mono BW4.out.size))
    clear hB6 hv hv'
    go_wp2_with fail
    go_ret
    exact ⟨rfl, BW6.out⟩
  · rw [holds_2, bare_no3 HM3.out x3, Bool.false_and]
    go_enter Tryd.func22, Tryd.ntmps22
    go_upto_region 7 with (first
      | ((with_reducible refine gate_dst (N := 3) rfl ?_); refine box_event ?hg (N := 3) ?hd (cs := C) (t := 28) ?hr ?_; (case hd => rfl); (case hg => rfl); (case hr => first | (go_simp; done) | (go_simp; rfl)); intro b3 hg_ w1 hbx hBx; have BW1 := Lib.hid hBx; have K3 := Lib.hid hbx; clear hg_ hbx hBx)
      | ((with_reducible refine gate_dst (N := 4) rfl ?_); refine box_event ?hg (N := 4) ?hd (cs := #[.string t.f0, .string t.f1, .string t.f2]) (t := 30) ?hr ?_; (case hd => rfl); (case hg => rfl); (case hr => first | (go_simp; done) | (go_simp; rfl)); intro b4 hg_ w2 hbx hBx; have K32 := Lib.hid (blk_below K3.out hBx); have BW2 := Lib.hid (BW1.out.trans (hBx.mono BW1.out.size)); have K4 := Lib.hid hbx; clear hg_ hbx hBx)
      | ((with_reducible refine gate_dst (N := 5) rfl ?_); refine box_event ?hg (N := 5) ?hd (cs := #[.int .i8 2, .int .i64 n, .slice A2 0 c2, .slice A3 m3 c3]) (t := 33) ?hr ?_; (case hd => rfl); (case hg => rfl); (case hr => first | (go_simp; done) | (go_simp; rfl)); intro b5 hg_ w3 hbx hBx; have KP := Lib.hid (blk_below K32.out hBx); have KT := Lib.hid (blk_below K4.out hBx); have BW3 := Lib.hid (BW2.out.trans (hBx.mono BW2.out.size)); have KR := Lib.hid hbx; have r2 := (blk_cell hbx 2).trans (Eq.refl (some (Value.slice A2 0 c2))); have r3 := (blk_cell hbx 3).trans (Eq.refl (some (Value.slice A3 m3 c3))); clear hg_ hbx hBx)
      | ((with_reducible refine gate_ (.load 28 (.tmp 3)) rfl ?_); clear U1; go_must (refine wpList_load_row rfl 28 (.tmp 3) rfl b3 rfl _ _ _ _ KP.out Tryd.underlying28 rfl HSP.out ?_))
      | ((with_reducible refine gate_ (.load 30 (.tmp 4)) rfl ?_); clear U2; go_must (refine wpList_load_row rfl 30 (.tmp 4) rfl b4 rfl _ _ _ _ KT.out Tryd.underlying30 rfl (by kernel_rfl) ?_))
      | (go_at_call 50; go_must (refine (known_calls p C t _ (k28.K_below BW3.out HK.out)).mono ?_);  rintro e w4 ⟨rfl, hb⟩; have KP4 := Lib.hid (blk_below KP.out hb); have KT4 := Lib.hid (blk_below KT.out hb); have k5 := blk_below KR.out hb; have KR4 := Lib.hid k5; have BW4 := Lib.hid (BW3.out.trans (hb.mono BW3.out.size)); clear r2 r3; have s0 := (blk_cell k5 0).trans (Eq.refl (some (Value.int .i8 2))); have s1 := (blk_cell k5 1).trans (Eq.refl (some (Value.int .i64 n)));  clear k5 hb))
    refine h7a.region (knownB p t) p t ⟨⟨#[]⟩, ⟨#[]⟩, ⟨#[]⟩⟩ C A10 ⟨0, 0, none⟩ p.f10.length c10 0 2 n A2 A3 0 c2 m3 c3 b3 b4 b5 (k28.K_below BW4.out HK.out) (by kernel_rfl) rfl rfl KP4.out rfl KT4.out rfl KR4.out rfl rfl ?_
    rintro xs W6 hB6 hv
    have hv' : xs 28 = _ := hv
    simp only [putZ, Act.put, List.setIfInBounds_toArray, List.set_cons_zero, List.set_cons_succ, Nat.reduceAdd]
    rw [hv']
    have BW6 := Lib.hid (BW4.out.trans (hB6.mono BW4.out.size))
    clear hB6 hv hv'
    go_wp2_with fail
    go_ret
    exact ⟨rfl, BW6.out⟩
  · cases hq : knownB p t with
    | false =>
      have HQ := Lib.hid hq
      rw [holds_2, hq, Bool.false_and, Bool.and_false]
      clear hq
      go_enter Tryd.func22, Tryd.ntmps22
      go_upto_region 7 with (first
        | ((with_reducible refine gate_dst (N := 3) rfl ?_); refine box_event ?hg (N := 3) ?hd (cs := C) (t := 28) ?hr ?_; (case hd => rfl); (case hg => rfl); (case hr => first | (go_simp; done) | (go_simp; rfl)); intro b3 hg_ w1 hbx hBx; have BW1 := Lib.hid hBx; have K3 := Lib.hid hbx; clear hg_ hbx hBx)
        | ((with_reducible refine gate_dst (N := 4) rfl ?_); refine box_event ?hg (N := 4) ?hd (cs := #[.string t.f0, .string t.f1, .string t.f2]) (t := 30) ?hr ?_; (case hd => rfl); (case hg => rfl); (case hr => first | (go_simp; done) | (go_simp; rfl)); intro b4 hg_ w2 hbx hBx; have K32 := Lib.hid (blk_below K3.out hBx); have BW2 := Lib.hid (BW1.out.trans (hBx.mono BW1.out.size)); have K4 := Lib.hid hbx; clear hg_ hbx hBx)
        | ((with_reducible refine gate_dst (N := 5) rfl ?_); refine box_event ?hg (N := 5) ?hd (cs := #[.int .i8 2, .int .i64 n, .slice A2 0 c2, .slice A3 0 c3]) (t := 33) ?hr ?_; (case hd => rfl); (case hg => rfl); (case hr => first | (go_simp; done) | (go_simp; rfl)); intro b5 hg_ w3 hbx hBx; have KP := Lib.hid (blk_below K32.out hBx); have KT := Lib.hid (blk_below K4.out hBx); have BW3 := Lib.hid (BW2.out.trans (hBx.mono BW2.out.size)); have KR := Lib.hid hbx; have r2 := (blk_cell hbx 2).trans (Eq.refl (some (Value.slice A2 0 c2))); have r3 := (blk_cell hbx 3).trans (Eq.refl (some (Value.slice A3 0 c3))); clear hg_ hbx hBx)
        | ((with_reducible refine gate_ (.load 28 (.tmp 3)) rfl ?_); clear U1; go_must (refine wpList_load_row rfl 28 (.tmp 3) rfl b3 rfl _ _ _ _ KP.out Tryd.underlying28 rfl HSP.out ?_))
        | ((with_reducible refine gate_ (.load 30 (.tmp 4)) rfl ?_); clear U2; go_must (refine wpList_load_row rfl 30 (.tmp 4) rfl b4 rfl _ _ _ _ KT.out Tryd.underlying30 rfl (by kernel_rfl) ?_))
        | (go_at_call 50; go_must (refine (known_calls p C t _ (k28.K_below BW3.out HK.out)).mono ?_); rw [HQ.out]; rintro e w4 ⟨rfl, hb⟩; have KP4 := Lib.hid (blk_below KP.out hb); have KT4 := Lib.hid (blk_below KT.out hb); have k5 := blk_below KR.out hb; have KR4 := Lib.hid k5; have BW4 := Lib.hid (BW3.out.trans (hb.mono BW3.out.size)); clear r2 r3; have s0 := (blk_cell k5 0).trans (Eq.refl (some (Value.int .i8 2))); have s1 := (blk_cell k5 1).trans (Eq.refl (some (Value.int .i64 n)));  clear k5 hb))
      refine h7b.region p t ⟨⟨#[]⟩, ⟨#[]⟩, ⟨#[]⟩⟩ C A10 ⟨0, 0, none⟩ p.f10.length c10 0 2 n A2 A3 0 c2 0 c3 b3 b4 b5 (k28.K_below BW4.out HK.out) (by kernel_rfl) rfl rfl KP4.out rfl KT4.out rfl KR4.out rfl rfl ?_
      rintro xs W6 hB6 hv
      have hv' : xs 28 = _ := hv
      simp only [putZ, Act.put, List.setIfInBounds_toArray, List.set_cons_zero, List.set_cons_succ, Nat.reduceAdd]
      rw [hv']
      have BW6 := Lib.hid (BW4.out.trans (hB6.mono BW4.out.size))
      clear hB6 hv hv'
      go_wp2_with fail
      go_ret
      exact ⟨rfl, BW6.out⟩
    | true =>
      have HQ := Lib.hid hq
      by_cases h1 : 1 ≤ n
      · by_cases h2 : n ≤ (p.f10.length : Int)
        · obtain ⟨i, x, hi1, hi2, hx, hil⟩ := in_range h1 h2
          rw [holds_2, hq, bare_yes HM2.out HM3.out, decide_eq_true h1, decide_eq_true h2, hi2, hx, Bool.true_and, Bool.true_and, Bool.true_and, Bool.true_and]
          show Calls _ _ _ _ fun e w' => e = .returned (.bool (eqT x t)) ∧ _
          rw [← eqT_l]
          obtain ⟨ad, rfl, hel⟩ := tri_at H10.out rfl hx
          have HEL := Lib.hid hel
          have HD1 := Lib.hid (decide_eq_true h1)
          have HD2 := Lib.hid (decide_eq_true h2)
          have HWN := Lib.hid (show wrap64 (n - 1) = (i : Int) by unfold wrap64; omega)
          have HWK := Lib.hid (show IntKind.i64.wrap (n - 1) = (i : Int) by rw [IntKind.wrap_i64]; omega)
          have HI := Lib.hid (show (0 : Int) ≤ (i : Int) ∧ (i : Int) < (p.f10.length : Int) by omega)
          clear hq h1 h2 hi1 hi2 hx hil hel
          go_enter Tryd.func22, Tryd.ntmps22
          go_upto_region 7 with (first
            | ((with_reducible refine gate_dst (N := 3) rfl ?_); refine box_event ?hg (N := 3) ?hd (cs := C) (t := 28) ?hr ?_; (case hd => rfl); (case hg => rfl); (case hr => first | (go_simp; done) | (go_simp; rfl)); intro b3 hg_ w1 hbx hBx; have BW1 := Lib.hid hBx; have K3 := Lib.hid hbx; clear hg_ hbx hBx)
            | ((with_reducible refine gate_dst (N := 4) rfl ?_); refine box_event ?hg (N := 4) ?hd (cs := #[.string t.f0, .string t.f1, .string t.f2]) (t := 30) ?hr ?_; (case hd => rfl); (case hg => rfl); (case hr => first | (go_simp; done) | (go_simp; rfl)); intro b4 hg_ w2 hbx hBx; have K32 := Lib.hid (blk_below K3.out hBx); have BW2 := Lib.hid (BW1.out.trans (hBx.mono BW1.out.size)); have K4 := Lib.hid hbx; clear hg_ hbx hBx)
            | ((with_reducible refine gate_dst (N := 5) rfl ?_); refine box_event ?hg (N := 5) ?hd (cs := #[.int .i8 2, .int .i64 n, .slice A2 0 c2, .slice A3 0 c3]) (t := 33) ?hr ?_; (case hd => rfl); (case hg => rfl); (case hr => first | (go_simp; done) | (go_simp; rfl)); intro b5 hg_ w3 hbx hBx; have KP := Lib.hid (blk_below K32.out hBx); have KT := Lib.hid (blk_below K4.out hBx); have BW3 := Lib.hid (BW2.out.trans (hBx.mono BW2.out.size)); have KR := Lib.hid hbx; have r2 := (blk_cell hbx 2).trans (Eq.refl (some (Value.slice A2 0 c2))); have r3 := (blk_cell hbx 3).trans (Eq.refl (some (Value.slice A3 0 c3))); clear hg_ hbx hBx)
            | ((with_reducible refine gate_ (.load 28 (.tmp 3)) rfl ?_); clear U1; go_must (refine wpList_load_row rfl 28 (.tmp 3) rfl b3 rfl _ _ _ _ KP.out Tryd.underlying28 rfl HSP.out ?_))
            | ((with_reducible refine gate_ (.load 30 (.tmp 4)) rfl ?_); clear U2; go_must (refine wpList_load_row rfl 30 (.tmp 4) rfl b4 rfl _ _ _ _ KT.out Tryd.underlying30 rfl (by kernel_rfl) ?_))
            | (go_at_call 50; go_must (refine (known_calls p C t _ (k28.K_below BW3.out HK.out)).mono ?_); rw [HQ.out]; rintro e w4 ⟨rfl, hb⟩; have KP4 := Lib.hid (blk_below KP.out hb); have KT4 := Lib.hid (blk_below KT.out hb); have k5 := blk_below KR.out hb; have KR4 := Lib.hid k5; have BW4 := Lib.hid (BW3.out.trans (hb.mono BW3.out.size)); clear r2 r3; have s0 := (blk_cell k5 0).trans (Eq.refl (some (Value.int .i8 2))); have s1 := (blk_cell k5 1).trans (Eq.refl (some (Value.int .i64 n)));  clear k5 hb))
          refine h7e.region p t x C none ad p.f10.length c10 i 2 n A2 A3 0 c2 0 c3 b3 b4 b5 (k28.K_below BW4.out HK.out) HD1.out HC10.out HD2.out HI.out.1 HI.out.2 HWN.out HWK.out (fun W hW => HEL.out W (BW4.out.trans (hW.mono BW4.out.size))) (by kernel_rfl) rfl rfl KP4.out rfl KT4.out rfl KR4.out rfl rfl ?_
          rintro xs W6 hB6 hv
          have hv' : xs 28 = _ := hv
          simp only [putZ, Act.put, List.setIfInBounds_toArray, List.set_cons_zero, List.set_cons_succ, Nat.reduceAdd]
          rw [hv']
          have BW6 := Lib.hid (BW4.out.trans (hB6.mono BW4.out.size))
          clear hB6 hv hv'
          go_wp2_with fail
          go_ret
          exact ⟨rfl, BW6.out⟩
        · rw [holds_2, hq, decide_eq_false h2, Bool.false_and, Bool.and_false, Bool.and_false, Bool.and_false]
          have HD1 := Lib.hid (decide_eq_true h1)
          have HD2 := Lib.hid (decide_eq_false h2)
          clear hq h1 h2
          go_enter Tryd.func22, Tryd.ntmps22
          go_upto_region 7 with (first
            | ((with_reducible refine gate_dst (N := 3) rfl ?_); refine box_event ?hg (N := 3) ?hd (cs := C) (t := 28) ?hr ?_; (case hd => rfl); (case hg => rfl); (case hr => first | (go_simp; done) | (go_simp; rfl)); intro b3 hg_ w1 hbx hBx; have BW1 := Lib.hid hBx; have K3 := Lib.hid hbx; clear hg_ hbx hBx)
            | ((with_reducible refine gate_dst (N := 4) rfl ?_); refine box_event ?hg (N := 4) ?hd (cs := #[.string t.f0, .string t.f1, .string t.f2]) (t := 30) ?hr ?_; (case hd => rfl); (case hg => rfl); (case hr => first | (go_simp; done) | (go_simp; rfl)); intro b4 hg_ w2 hbx hBx; have K32 := Lib.hid (blk_below K3.out hBx); have BW2 := Lib.hid (BW1.out.trans (hBx.mono BW1.out.size)); have K4 := Lib.hid hbx; clear hg_ hbx hBx)
            | ((with_reducible refine gate_dst (N := 5) rfl ?_); refine box_event ?hg (N := 5) ?hd (cs := #[.int .i8 2, .int .i64 n, .slice A2 0 c2, .slice A3 0 c3]) (t := 33) ?hr ?_; (case hd => rfl); (case hg => rfl); (case hr => first | (go_simp; done) | (go_simp; rfl)); intro b5 hg_ w3 hbx hBx; have KP := Lib.hid (blk_below K32.out hBx); have KT := Lib.hid (blk_below K4.out hBx); have BW3 := Lib.hid (BW2.out.trans (hBx.mono BW2.out.size)); have KR := Lib.hid hbx; have r2 := (blk_cell hbx 2).trans (Eq.refl (some (Value.slice A2 0 c2))); have r3 := (blk_cell hbx 3).trans (Eq.refl (some (Value.slice A3 0 c3))); clear hg_ hbx hBx)
            | ((with_reducible refine gate_ (.load 28 (.tmp 3)) rfl ?_); clear U1; go_must (refine wpList_load_row rfl 28 (.tmp 3) rfl b3 rfl _ _ _ _ KP.out Tryd.underlying28 rfl HSP.out ?_))
            | ((with_reducible refine gate_ (.load 30 (.tmp 4)) rfl ?_); clear U2; go_must (refine wpList_load_row rfl 30 (.tmp 4) rfl b4 rfl _ _ _ _ KT.out Tryd.underlying30 rfl (by kernel_rfl) ?_))
            | (go_at_call 50; go_must (refine (known_calls p C t _ (k28.K_below BW3.out HK.out)).mono ?_); rw [HQ.out]; rintro e w4 ⟨rfl, hb⟩; have KP4 := Lib.hid (blk_below KP.out hb); have KT4 := Lib.hid (blk_below KT.out hb); have k5 := blk_below KR.out hb; have KR4 := Lib.hid k5; have BW4 := Lib.hid (BW3.out.trans (hb.mono BW3.out.size)); clear r2 r3; have s0 := (blk_cell k5 0).trans (Eq.refl (some (Value.int .i8 2))); have s1 := (blk_cell k5 1).trans (Eq.refl (some (Value.int .i64 n)));  clear k5 hb))
          refine h7d.region p t ⟨⟨#[]⟩, ⟨#[]⟩, ⟨#[]⟩⟩ C A10 ⟨0, 0, none⟩ p.f10.length c10 0 2 n A2 A3 0 c2 0 c3 b3 b4 b5 (k28.K_below BW4.out HK.out) HD1.out HC10.out HD2.out (by kernel_rfl) rfl rfl KP4.out rfl KT4.out rfl KR4.out rfl rfl ?_
          rintro xs W6 hB6 hv
          have hv' : xs 28 = _ := hv
          simp only [putZ, Act.put, List.setIfInBounds_toArray, List.set_cons_zero, List.set_cons_succ, Nat.reduceAdd]
          rw [hv']
          have BW6 := Lib.hid (BW4.out.trans (hB6.mono BW4.out.size))
          clear hB6 hv hv'
          go_wp2_with fail
          go_ret
          exact ⟨rfl, BW6.out⟩
      · rw [holds_2, hq, decide_eq_false h1, Bool.false_and, Bool.and_false, Bool.and_false]
        have HD1 := Lib.hid (decide_eq_false h1)
        clear hq h1
        go_enter Tryd.func22, Tryd.ntmps22
        go_upto_region 7 with (first
          | ((with_reducible refine gate_dst (N := 3) rfl ?_); refine box_event ?hg (N := 3) ?hd (cs := C) (t := 28) ?hr ?_; (case hd => rfl); (case hg => rfl); (case hr => first | (go_simp; done) | (go_simp; rfl)); intro b3 hg_ w1 hbx hBx; have BW1 := Lib.hid hBx; have K3 := Lib.hid hbx; clear hg_ hbx hBx)
          | ((with_reducible refine gate_dst (N := 4) rfl ?_); refine box_event ?hg (N := 4) ?hd (cs := #[.string t.f0, .string t.f1, .string t.f2]) (t := 30) ?hr ?_; (case hd => rfl); (case hg => rfl); (case hr => first | (go_simp; done) | (go_simp; rfl)); intro b4 hg_ w2 hbx hBx; have K32 := Lib.hid (blk_below K3.out hBx); have BW2 := Lib.hid (BW1.out.trans (hBx.mono BW1.out.size)); have K4 := Lib.hid hbx; clear hg_ hbx hBx)
          | ((with_reducible refine gate_dst (N := 5) rfl ?_); refine box_event ?hg (N := 5) ?hd (cs := #[.int .i8 2, .int .i64 n, .slice A2 0 c2, .slice A3 0 c3]) (t := 33) ?hr ?_; (case hd => rfl); (case hg => rfl); (case hr => first | (go_simp; done) | (go_simp; rfl)); intro b5 hg_ w3 hbx hBx; have KP := Lib.hid (blk_below K32.out hBx); have KT := Lib.hid (blk_below K4.out hBx); have BW3 := Lib.hid (BW2.out.trans (hBx.mono BW2.out.size)); have KR := Lib.hid hbx; have r2 := (blk_cell hbx 2).trans (Eq.refl (some (Value.slice A2 0 c2))); have r3 := (blk_cell hbx 3).trans (Eq.refl (some (Value.slice A3 0 c3))); clear hg_ hbx hBx)
          | ((with_reducible refine gate_ (.load 28 (.tmp 3)) rfl ?_); clear U1; go_must (refine wpList_load_row rfl 28 (.tmp 3) rfl b3 rfl _ _ _ _ KP.out Tryd.underlying28 rfl HSP.out ?_))
          | ((with_reducible refine gate_ (.load 30 (.tmp 4)) rfl ?_); clear U2; go_must (refine wpList_load_row rfl 30 (.tmp 4) rfl b4 rfl _ _ _ _ KT.out Tryd.underlying30 rfl (by kernel_rfl) ?_))
          | (go_at_call 50; go_must (refine (known_calls p C t _ (k28.K_below BW3.out HK.out)).mono ?_); rw [HQ.out]; rintro e w4 ⟨rfl, hb⟩; have KP4 := Lib.hid (blk_below KP.out hb); have KT4 := Lib.hid (blk_below KT.out hb); have k5 := blk_below KR.out hb; have KR4 := Lib.hid k5; have BW4 := Lib.hid (BW3.out.trans (hb.mono BW3.out.size)); clear r2 r3; have s0 := (blk_cell k5 0).trans (Eq.refl (some (Value.int .i8 2))); have s1 := (blk_cell k5 1).trans (Eq.refl (some (Value.int .i64 n)));  clear k5 hb))
        refine h7c.region p t ⟨⟨#[]⟩, ⟨#[]⟩, ⟨#[]⟩⟩ C A10 ⟨0, 0, none⟩ p.f10.length c10 0 2 n A2 A3 0 c2 0 c3 b3 b4 b5 (k28.K_below BW4.out HK.out) HD1.out (by kernel_rfl) rfl rfl KP4.out rfl KT4.out rfl KR4.out rfl rfl ?_
        rintro xs W6 hB6 hv
        have hv' : xs 28 = _ := hv
        simp only [putZ, Act.put, List.setIfInBounds_toArray, List.set_cons_zero, List.set_cons_succ, Nat.reduceAdd]
        rw [hv']
        have BW6 := Lib.hid (BW4.out.trans (hB6.mono BW4.out.size))
        clear hB6 hv hv'
        go_wp2_with fail
        go_ret
        exact ⟨rfl, BW6.out⟩
end Go.Proofs.YteefneemmdfncaaDoor.M
