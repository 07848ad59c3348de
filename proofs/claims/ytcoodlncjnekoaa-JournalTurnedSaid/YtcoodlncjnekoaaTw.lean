/- JournalTurned: the walk. Conditions: none. -/
import Derived.Test.YtcoodlncjnekoaaTe
import Derived.StillTailTactics
namespace Go.Proofs.Ytcoodlncjnekoaa.F
open Go.RowKit Go.Proofs.YtcoodlncjnekoaaW.PrintWords Go.Proofs.YtcoodlncjnekoaaW.PrintLast Go.Proofs.YtcoodlncjnekoaaW.PrintMore Go.Proofs.JournalPlain
set_option linter.unusedVariables false
set_option maxRecDepth 100000 in
set_option maxHeartbeats 1000000 in
theorem turned_walk (v0 : Int) (t0 : ByteArray) (v1 : Int) (t1 : ByteArray) (at0 by0 : Int) (more : ByteArray) (w : World) (hmore : more.size ≤ 140737488351232) :
    Calls Try.prog 10 #[.agg #[.int .i64 v0, .string t0], .agg #[.int .i64 v1, .string t1], .int .i64 at0, .int .i64 by0, .string more] w fun e w' => e = .returned (.bool true) ∧ Below w.heap.size w w' := by
  have hu23 := Try.underlying23
  have CA := Lib.hid (fun W => gatehouselaw22_alive.calls 300 true W (alive_f 300 (Nat.le_refl _)))
  obtain ⟨x0, hx0⟩ : ∃ x, x = fitV v0 := ⟨_, rfl⟩
  obtain ⟨y0, hy0⟩ : ∃ y, y = fitT t0 := ⟨_, rfl⟩
  obtain ⟨x1, hx1⟩ : ∃ x, x = fitV v1 := ⟨_, rfl⟩
  obtain ⟨y1, hy1⟩ : ∃ y, y = fitT t1 := ⟨_, rfl⟩
  have hf0 : fit_ x0 y0 := by rw [hx0, hy0]; exact fit_fit _ _
  have hf1 : fit_ x1 y1 := by rw [hx1, hy1]; exact fit_fit _ _
  have CF0 := Lib.hid (fun W => gatehouselaw22_fit.calls v0 t0 x0 y0 W (by rw [hx0, hy0]; exact fit_f _ _))
  have CF1 := Lib.hid (fun W => gatehouselaw22_fit.calls v1 t1 x1 y1 W (by rw [hx1, hy1]; exact fit_f _ _))
  obtain ⟨S0, hS0⟩ : ∃ S, S = frameB x0 y0 := ⟨_, rfl⟩
  obtain ⟨S1, hS1⟩ : ∃ S, S = frameB x1 y1 := ⟨_, rfl⟩
  have CR0 := Lib.hid (fun W => journal_Frame.calls (KF y0) x0 y0 S0 0 W (by rw [Frame_f _ _ _ (Nat.le_refl _), frame_fit hf0, hS0]))
  have CR1 := Lib.hid (fun W => journal_Frame.calls (KF y1) x1 y1 S1 0 W (by rw [Frame_f _ _ _ (Nat.le_refl _), frame_fit hf1, hS1]))
  have HF0 := Lib.hid hf0
  have HF1 := Lib.hid hf1
  have HS0 := Lib.hid hS0
  have HS1 := Lib.hid hS1
  have hz1 : S1.size = y1.size + 17 := by rw [hS1, frameB_size]
  have hz1b : S1.size ≤ 65553 := by have := hf1.2.2; omega
  have hz0b : S0.size ≤ 65553 := by rw [hS0, frameB_size]; have := hf0.2.2; omega
  obtain ⟨kk, hk0, hk1, hk2⟩ := pick_f at0 (S1.size : Int) (by omega) (by omega)
  obtain ⟨dd, hd0, hd1, hd2⟩ := pick_f by0 255 (by omega) (by omega)
  have CK := Lib.hid (fun W => pick_same at0 (S1.size : Int) kk W (by omega) (by omega) hk0)
  have CD := Lib.hid (fun W => pick_same by0 255 dd W (by omega) (by omega) hd0)
  obtain ⟨k, rfl⟩ := Int.eq_ofNat_of_zero_le hk1
  obtain ⟨d, rfl⟩ := Int.eq_ofNat_of_zero_le hd1
  have hks : k < (bytesOf S1).length := by rw [bytesOf_length]; omega
  have hrr := bytesOf_range S1 _ (List.getElem_mem hks)
  obtain ⟨x, hx⟩ := Int.eq_ofNat_of_zero_le hrr.1
  have hgx : (bytesOf S1).getD k 0 = (x : Int) := by rw [List.getD_eq_getElem?_getD, List.getElem?_eq_getElem hks]; exact hx
  have HX := Lib.hid hgx
  have hxb : x < 256 := by omega
  obtain ⟨hY1, hY2⟩ := xor8_ne x d hxb (by omega)
  obtain ⟨Y, hYd⟩ : ∃ Y, Y = Go.bits .xor .u8 (x : Int) (1 + (d : Int)) := ⟨_, rfl⟩
  rw [← hYd] at hY1 hY2
  obtain ⟨T, hTd⟩ : ∃ T, T = strOfNums ((bytesOf S1).set k Y) := ⟨_, rfl⟩
  have hTb : bytesOf T = (bytesOf S1).set k Y := by
    rw [hTd]
    refine bytesOf_son _ fun z hz => ?_
    rcases List.mem_or_eq_of_mem_set hz with h | h
    · exact bytesOf_range S1 z h
    · rw [h]; exact hY1
  have hTz : T.size = S1.size := by rw [← bytesOf_length, hTb, List.length_set, bytesOf_length]
  have hks' : k < (recL x1 y1).length := by rw [← bytesOf_frameB, ← hS1]; exact hks
  obtain ⟨hR1, hR2⟩ := reads_one x0 y0 x1 y1 hf0 hf1 k hks' Y hY1 (by
    intro he
    refine hY2 ?_
    rw [← hgx, ← he, hS1, bytesOf_frameB, List.getD_eq_getElem?_getD, List.getElem?_eq_getElem hks']
    rfl) T more (by rw [hTb, hS1, bytesOf_frameB]) hmore
  rw [← hS0] at hR1
  have CRD := Lib.hid (fun W => journal_Read.calls 700002 ((S0 ++ T) ++ more) [⟨x0, y0⟩] (S0.size : Int) W hR1)
  have CRE := Lib.hid (fun W => journal_Read.calls 700002 T ([] : List S23) 0 W hR2)
  have HTd := Lib.hid hTd
  have HTz := Lib.hid hTz
  have HY := Lib.hid hYd
  clear hrr hY1 hY2 hYd hTd hTb hTz hks' hR1 hR2 hx hgx hx0 hy0 hx1 hy1 hf0 hf1 hS0 hS1 hk0 hd0 hz1
  have Hk := Lib.hid hks
  clear hks
  go_enter Try.func10, Try.ntmps10
  go_wp2_with (first | ((with_reducible refine gate_dst (N := 5) rfl ?_); refine box_event rfl (N := 5) rfl (cs := #[.int .i64 v0, .string t0]) (t := 23) ?hr ?_; (case hr => first | (go_simp; done) | (go_simp; rfl)); intro g0 hg w1 hb0 hbel; have HB := Lib.hid hbel; have BK0 := Lib.hid hb0; clear hg hb0 hbel) | ((with_reducible refine gate_dst (N := 6) rfl ?_); refine box_event rfl (N := 6) rfl (cs := #[.int .i64 v1, .string t1]) (t := 23) ?hr ?_; (case hr => first | (go_simp; done) | (go_simp; rfl)); intro g1 hg w2 hb1 hbel; have BK1 := Lib.hid hb1; have BK0' := Lib.hid (blk_below BK0.out hbel); have HB' := Lib.hid (below_step HB.out hbel); clear BK0 HB; clear hg hb1 hbel))
  have HB2 := Lib.hid (Below.refl w2.heap.size w2)
  refine (CA.out _).mono ?_
  rintro e w3 ⟨rfl, hb⟩
  have HB3 := Lib.hid (below_step HB2.out hb)
  obtain ⟨c0, c1⟩ := cells23 BK0'.out HB3.out
  clear hb
  go_wp2_with fail
  refine (CF0.out _).mono ?_
  rintro e w4 ⟨rfl, hb⟩
  have HB4 := Lib.hid (below_step HB3.out hb)
  clear hb c0 c1
  go_wp2_with fail
  refine (CR0.out _).mono ?_
  rintro e w5 ⟨rfl, hb⟩
  have HB5 := Lib.hid (below_step HB4.out hb)
  obtain ⟨c0, c1⟩ := cells23 BK1.out HB5.out
  clear hb
  go_wp2_with fail
  refine (CF1.out _).mono ?_
  rintro e w6 ⟨rfl, hb⟩
  have HB6 := Lib.hid (below_step HB5.out hb)
  clear hb c0 c1
  go_wp2_with fail
  refine (CR1.out _).mono ?_
  rintro e w7 ⟨rfl, hb⟩
  have HB7 := Lib.hid (below_step HB6.out hb)
  clear hb
  go_wp2_with fail
  refine (CK.out _).mono ?_
  rintro e w8 ⟨rfl, rfl⟩
  go_wp2_with ((with_reducible refine gate_dst (N := 50) rfl ?_); refine ev50 rfl rfl S1 rfl ?_; intro g c W8 hg hblk hbel hcap; have HBL := Lib.hid hblk; have HB8 := Lib.hid (below_step HB7.out hbel); have HGE := Lib.hid hg; clear hg hblk hbel)
  refine wp_region_still_tail 12 (by kernel_rfl) (by kernel_rfl) ?_
  obtain ⟨W9, hW9⟩ : ∃ W9 : World, W9 = { W8 with drawn := W8.drawn + 1 } := ⟨_, rfl⟩
  rw [← hW9]
  have HBL9 := Lib.hid (show Blk W9 g (bytesOf S1) by rw [hW9]; exact HBL.out)
  have HB9 := Lib.hid (show Below w2.heap.size w2 W9 by rw [hW9]; exact HB8.out.drew)
  obtain ⟨hcx, hfx⟩ := HBL9.out.cell k Hk.out
  rw [HX.out] at hcx
  clear hW9
  have hkS : (k : Int) < (S1.size : Int) := hk2
  simp only [List.take_succ_cons, List.take_zero, List.drop_succ_cons, List.drop_zero]
  iterate 7 still_step
  refine wpStill_step (fun K hK => ?_)
  go_simp
  refine ⟨_, CD.out _, hK _ ?_⟩
  clear hK K
  iterate 4 still_step
  refine wpStill_nil ?_
  have HBLs := Lib.hid (show Blk (W9.setCell ⟨g, k, none⟩ (.int .u8 (Go.bits .xor .u8 (x : Int) (1 + (d : Int))))) g ((bytesOf S1).set k Y) by rw [← HY.out]; exact HBL9.out.set k Y)
  have hcv : (convert 62 9 (.slice (some ⟨g, 0, none⟩) S1.size c)).run Try.prog (W9.setCell ⟨g, k, none⟩ (.int .u8 (Go.bits .xor .u8 (x : Int) (1 + (d : Int))))) = .ok (.string T) (W9.setCell ⟨g, k, none⟩ (.int .u8 (Go.bits .xor .u8 (x : Int) (1 + (d : Int))))) := by
    have h := HBLs.out.str c (by rw [List.length_set, bytesOf_length]; omega)
    rw [List.length_set, bytesOf_length, ← HTd.out] at h
    exact h
  have HB10 := Lib.hid (show Below w2.heap.size w2 (W9.setCell ⟨g, k, none⟩ (.int .u8 (Go.bits .xor .u8 (x : Int) (1 + (d : Int))))) from below_set HB9.out (by have := HGE.out; exact Nat.le_trans HB7.out.size this))
  have hTz := HTz.out
  have hq1 : (9223372036854775807 < S0.size + T.size) = False := eq_false (by omega)
  have hq2 : (9223372036854775807 < S0.size + T.size + more.size) = False := eq_false (by omega)
  clear hTz
  go_wp2_with fail
  refine (CRD.out _).mono ?_
  rintro e w11 ⟨u0, rfl, hR, hb⟩
  obtain ⟨Ag, cg, rfl⟩ := Kd.R_slice hR
  have HBL11 := Lib.hid (HBLs.out.below hb)
  have HB11 := Lib.hid (below_step HB10.out hb)
  have HR11 := Lib.hid hR
  clear hR hb hcv hq1 hq2 hcx hfx
  have hcv : (convert 62 9 (.slice (some ⟨g, 0, none⟩) S1.size c)).run Try.prog w11 = .ok (.string T) w11 := by
    have h := HBL11.out.str c (by rw [List.length_set, bytesOf_length]; omega)
    rw [List.length_set, bytesOf_length, ← HTd.out] at h
    exact h
  go_wp2_with fail
  refine (CRE.out _).mono ?_
  rintro e w12 ⟨u1, rfl, hR, hb⟩
  obtain ⟨Ah, ch, rfl⟩ := Kd.R_slice hR
  have HB12 := Lib.hid (below_step HB11.out hb)
  have HR12 := Lib.hid (Kd.R_below HR11.out hb)
  clear hR hb hcv
  obtain ⟨c0, c1⟩ := cells23 BK0'.out HB12.out
  go_wp2_with fail
  refine (CF0.out _).mono ?_
  rintro e w13 ⟨rfl, hb⟩
  have HB13 := Lib.hid (below_step HB12.out hb)
  have HR13 := Lib.hid (Kd.R_below HR12.out hb)
  clear hb c0 c1
  go_wp2_with fail
  obtain ⟨A3, q3, e3, hc3, hC3⟩ := Kd.R_reads (Kd.R_below HR13.out (below_alloc (Below.refl _ _) (.cells #[.int .i64 x0, .string y0] 23)))
  injection e3 with e31 e32 e33
  subst e31 e33
  obtain ⟨A4, q4, e4, hc4, hC4⟩ := Kd.R_reads (lit23 w13 x0 y0)
  injection e4 with e41 e42 e43
  subst e41 e43
  refine (gatehouselaw22_same.calls 2 Ag cg [⟨x0, y0⟩] (some ⟨w13.heap.size, 0, none⟩) 1 [⟨x0, y0⟩] true _ hC3 hc3 hC4 hc4 (same_refl _ (by show 1 ≤ _; decide) 2 (by show 2 ≤ _; decide))).mono ?_
  rintro e w14 ⟨rfl, hd⟩
  have HB14 := Lib.hid (show Below w2.heap.size w2 w14 from below_step (below_alloc HB13.out _) hd.below)
  clear hd hC3 hc3 hC4 hc4
  clear e32 e42
  clear hkS hmore hz1b hz0b hcap hk1 hk2 hd1 hd2 hxb
  go_wp2_with fail
  go_ret
  exact ⟨rfl, below_step HB'.out HB14.out⟩
theorem JournalTurned.walk (x0 : S23) (c0 : Array Value) (x1 : S23) (c1 : Array Value) (x2 : Int) (v2 : Value) (x3 : Int) (v3 : Value) (x4 : ByteArray) (v4 : Value) (w : World) (hk0 : Kd.K k23 w x0 c0.toList) (hg0 : (Lit.int .i64 x0.f0).wf = true ∧ x0.f1.size ≤ 140737488351232) (hk1 : Kd.K k23 w x1 c1.toList) (hg1 : (Lit.int .i64 x1.f0).wf = true ∧ x1.f1.size ≤ 140737488351232) (hk2 : Kd.K (Kd.int .i64) w x2 [v2]) (hg2 : (Lit.int .i64 x2).wf = true) (hk3 : Kd.K (Kd.int .i64) w x3 [v3]) (hg3 : (Lit.int .i64 x3).wf = true) (hk4 : Kd.K Kd.string w x4 [v4]) (hg4 : x4.size ≤ 140737488351232) :
    Calls Try.prog 10 #[.agg c0, .agg c1, v2, v3, v4] w fun e w' => e = .returned (.bool true) ∧ Below w.heap.size w w' := by
  obtain rfl := agg_of hk0
  obtain rfl := agg_of hk1
  have h2 : [v2] = [Value.int .i64 x2] := hk2
  injection h2 with h2
  subst h2
  have h3 : [v3] = [Value.int .i64 x3] := hk3
  injection h3 with h3
  subst h3
  have h4 : [v4] = [Value.string x4] := hk4
  injection h4 with h4
  subst h4
  exact turned_walk x0.f0 x0.f1 x1.f0 x1.f1 x2 x3 x4 w hg4
end Go.Proofs.Ytcoodlncjnekoaa.F
