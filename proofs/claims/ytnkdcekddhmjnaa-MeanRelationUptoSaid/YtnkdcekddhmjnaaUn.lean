import Derived.Test.YtnkdcekddhmjnaaRoB
import Derived.Test.YtnkdcekddhmjnaaF1
import Derived.Test.YtnkdcekddhmjnaaF2
import Derived.Deep.QuietTactic
import Derived.BigQuiet
/- Room.untouched, walked: of a policy and the same one with a mark behind each list it answers true. Conditions: they read as they must, and no list is longer than 1048576. -/
namespace Go.Proofs.Ytnkdcekddhmjnaa.M
open Go.RowKit Go.Proofs.YtnkdcekddhmjnaaW.Raw Go.Proofs.YtnkdcekddhmjnaaW.PrintWords Go.Proofs.YtnkdcekddhmjnaaW.PrintLast Go.Proofs.Ytnkdcekddhmjnaa.F
set_option linter.unusedVariables false
set_option linter.unusedSimpArgs false
attribute [local go_sem] flt_eql flt_neq flt_lss flt_leq flt_gtr flt_geq run_store_float
attribute [local go_sem high] eqA36 eqA57
theorem asLong_true {w : World} {X A : Option Addr} {y c : Nat} {q l : List ByteArray} (hq : q = l ++ [mark]) (hl : l.length ≤ 1048576) (h1 : Kd.C Kd.string w X q.length q) (k1 : q.length ≤ y) (h2 : Kd.C Kd.string w A l.length l) (k2 : l.length ≤ c) :
    Calls Try.prog 54 #[.slice X q.length y, .slice A l.length c] w fun e w' => e = .returned (.bool true) ∧ ∃ n, w' = w.drewN n := by
  obtain ⟨k, hk⟩ := asLong_f l (by omega)
  have hk := hk k (Nat.le_refl _)
  rw [← hq] at hk
  exact (gatehouselaw08_asLong.calls k X y q A c l true w h1 k1 h2 k2 hk).mono fun e w' ⟨h1, h2⟩ => ⟨h1, by obtain ⟨n, rfl⟩ := h2; exact ⟨n, rfl⟩⟩
theorem asPairs_true {w : World} {X A : Option Addr} {y c : Nat} {q l : List Pair} (hq : q = l ++ [mPair]) (hl : l.length ≤ 1048576) (h1 : Kd.C k86 w X q.length q) (k1 : q.length ≤ y) (h2 : Kd.C k86 w A l.length l) (k2 : l.length ≤ c) :
    Calls Try.prog 55 #[.slice X q.length y, .slice A l.length c] w fun e w' => e = .returned (.bool true) ∧ ∃ n, w' = w.drewN n := by
  obtain ⟨k, hk⟩ := asPairs_f l (by omega)
  have hk := hk k (Nat.le_refl _)
  rw [← hq] at hk
  exact (gatehouselaw08_asPairs.calls k X y q A c l true w h1 k1 h2 k2 hk).mono fun e w' ⟨h1, h2⟩ => ⟨h1, by obtain ⟨n, rfl⟩ := h2; exact ⟨n, rfl⟩⟩
theorem equals_true (a : Nat) (w : World) : Calls Try.prog 56 #[.float .f64 a, .float .f64 a] w fun e w' => e = .returned (.bool true) ∧ ∃ n, w' = w.drewN n := by
  refine (gatehouselaw08_equals.calls a a true w ?_).mono fun e w' ⟨h1, h2⟩ => ⟨h1, by obtain ⟨n, rfl⟩ := h2; exact ⟨n, rfl⟩⟩
  unfold gatehouselaw08_equals.f
  cases h : feq a a <;> simp [h]
theorem size34r : (Try.prog.info? 34).map (·.size) = some 11 := by kernel_rfl
structure Un (w0 : World) (b2 b3 b5 : Nat) (cr cp cf : Array Value) (W : World) : Prop where
  h2 : W.heap[b2]? = some (Obj.cells cr 39 (0, 0))
  h3 : W.heap[b3]? = some (Obj.cells cp 34 (0, 0))
  h5 : W.heap[b5]? = some (Obj.cells cf 34 (0, 0))
  bel : Below w0.heap.size w0 W
theorem Un.below {w0 W W' : World} {b2 b3 b5 : Nat} {cr cp cf : Array Value} (h : Un w0 b2 b3 b5 cr cp cf W) (hb : Below W.heap.size W W') : Un w0 b2 b3 b5 cr cp cf W' := ⟨blk_below h.h2 hb, blk_below h.h3 hb, blk_below h.h5 hb, h.bel.trans (hb.mono h.bel.size)⟩
theorem Un.drewN {w0 W : World} {b2 b3 b5 : Nat} {cr cp cf : Array Value} (h : Un w0 b2 b3 b5 cr cp cf W) (n : Nat) : Un w0 b2 b3 b5 cr cp cf (W.drewN n) := h.below (pw_below_drewN (Below.refl _ _) n)
set_option maxRecDepth 100000 in
set_option maxHeartbeats 8000000 in
theorem untouched_calls (p : Pol) (o0 o1 o2 o3 o4 o5 o6 o7 o8 o9 o10 : Value) (cf cp : Array Value) (v : Value) (B : Nat) (w : World) (hf : k34.K w (fullP p) cf.toList) (hv : Kd.R (Kd.slice 9 Kd.string) 25 w B (fun _ => True) v (actsM p.f9)) (hk : k34.K w p cp.toList) (hz : Sz p) :
    Calls Try.prog 21 #[.agg (#[o0, o1, o2, o3, o4, o5, o6, o7, o8, o9, o10] ++ cf ++ #[v]), .agg cp] w fun e w' => e = .returned (.bool true) ∧ Below w.heap.size w w' := by
  obtain ⟨A0, c0, A1, c1, A2, c2, A3, c3, A4, c4, A5, c5, A6, c6, A7, c7, A8, c8, A9, c9, A10, c10, e_, l0, g0, l1, g1, l2, g2, l3, g3, l4, g4, l5, g5, l6, g6, l7, g7, l8, g8, l9, g9, l10, g10⟩ := k34_open hk
  obtain rfl : cp = #[.slice A0 p.f0.length c0, .slice A1 p.f1.length c1, .slice A2 p.f2.length c2, .slice A3 p.f3.length c3, .slice A4 p.f4.length c4, .slice A5 p.f5.length c5, .slice A6 p.f6.length c6, .slice A7 p.f7.length c7, .slice A8 p.f8.length c8, .slice A9 p.f9.length c9, .slice A10 p.f10.length c10] := by cases cp; simpa using e_
  clear e_
  obtain ⟨q, hq⟩ : ∃ q, q = fullP p := ⟨_, rfl⟩
  rw [← hq] at hf
  obtain ⟨X0, y0, X1, y1, X2, y2, X3, y3, X4, y4, X5, y5, X6, y6, X7, y7, X8, y8, X9, y9, X10, y10, e_, m0, d0, m1, d1, m2, d2, m3, d3, m4, d4, m5, d5, m6, d6, m7, d7, m8, d8, m9, d9, m10, d10⟩ := k34_open hf
  obtain rfl : cf = #[.slice X0 q.f0.length y0, .slice X1 q.f1.length y1, .slice X2 q.f2.length y2, .slice X3 q.f3.length y3, .slice X4 q.f4.length y4, .slice X5 q.f5.length y5, .slice X6 q.f6.length y6, .slice X7 q.f7.length y7, .slice X8 q.f8.length y8, .slice X9 q.f9.length y9, .slice X10 q.f10.length y10] := by cases cf; simpa using e_
  clear e_ hf
  obtain ⟨AL, cL, rfl, mL, dL⟩ := Kd.R_reads hv
  have hal : (actsM p.f9).length = p.f9.length := List.length_map _
  rw [hal] at dL mL ⊢
  have Sl0 := hz.l0
  have Sl1 := hz.l1
  have Sl2 := hz.l2
  have Sl3 := hz.l3
  have Sl4 := hz.l4
  have Sl5 := hz.l5
  have Sl6 := hz.l6
  have Sl7 := hz.l7
  have Sl8 := hz.l8
  have Sl9 := hz.l9
  have Sl10 := hz.l10
  have Sla := hz.la
  have HQ0 := Lib.hid (show q.f0 = p.f0 ++ [mark] from by rw [hq])
  have HQ1 := Lib.hid (show q.f1 = p.f1 ++ [mSub] from by rw [hq])
  have HQ2 := Lib.hid (show q.f2 = p.f2 ++ [mark] from by rw [hq])
  have HQ3 := Lib.hid (show q.f3 = p.f3 ++ [mark] from by rw [hq])
  have HQ4 := Lib.hid (show q.f4 = p.f4 ++ [mark] from by rw [hq])
  have HQ5 := Lib.hid (show q.f5 = p.f5 ++ [mPair] from by rw [hq])
  have HQ6 := Lib.hid (show q.f6 = p.f6 ++ [mPair] from by rw [hq])
  have HQ7 := Lib.hid (show q.f7 = p.f7 ++ [mPair] from by rw [hq])
  have HQ8 := Lib.hid (show q.f8 = p.f8 ++ [mPair] from by rw [hq])
  have HQ9 := Lib.hid (show q.f9 = p.f9 ++ [mRule] from by rw [hq])
  have HQ10 := Lib.hid (show q.f10 = p.f10 ++ [mTri] from by rw [hq])
  have HP0 := Lib.hid g0
  have HD0 := Lib.hid d0
  have HP1 := Lib.hid g1
  have HD1 := Lib.hid d1
  have HP2 := Lib.hid g2
  have HD2 := Lib.hid d2
  have HP3 := Lib.hid g3
  have HD3 := Lib.hid d3
  have HP4 := Lib.hid g4
  have HD4 := Lib.hid d4
  have HP5 := Lib.hid g5
  have HD5 := Lib.hid d5
  have HP6 := Lib.hid g6
  have HD6 := Lib.hid d6
  have HP7 := Lib.hid g7
  have HD7 := Lib.hid d7
  have HP8 := Lib.hid g8
  have HD8 := Lib.hid d8
  have HP9 := Lib.hid g9
  have HD9 := Lib.hid d9
  have HP10 := Lib.hid g10
  have HD10 := Lib.hid d10
  have HDL := Lib.hid dL
  have HLA := Lib.hid Sla
  clear hq hv hal dL Sla hz g0 g1 g2 g3 g4 g5 g6 g7 g8 g9 g10 d0 d1 d2 d3 d4 d5 d6 d7 d8 d9 d10
  go_enter Try.func21, Try.ntmps21
  go_upto_region 2 with (first | ((with_reducible refine gate_dst (N := 2) rfl ?_); refine box_event ?hg (N := 2) ?hd (cs := #[o0, o1, o2, o3, o4, o5, o6, o7, o8, o9, o10, .slice X0 q.f0.length y0, .slice X1 q.f1.length y1, .slice X2 q.f2.length y2, .slice X3 q.f3.length y3, .slice X4 q.f4.length y4, .slice X5 q.f5.length y5, .slice X6 q.f6.length y6, .slice X7 q.f7.length y7, .slice X8 q.f8.length y8, .slice X9 q.f9.length y9, .slice X10 q.f10.length y10, .slice AL p.f9.length cL]) (t := 39) ?hr ?_; (case hd => rfl); (case hg => rfl); (case hr => first | (go_simp; done) | (go_simp; rfl)); intro b2 hg_ w1 hb2 hB2; go_must (have hle2 : w.heap.size ≤ b2 := (by omega)); clear hg_) | ((with_reducible refine gate_dst (N := 3) rfl ?_); refine box_event ?hg (N := 3) ?hd (cs := #[.slice A0 p.f0.length c0, .slice A1 p.f1.length c1, .slice A2 p.f2.length c2, .slice A3 p.f3.length c3, .slice A4 p.f4.length c4, .slice A5 p.f5.length c5, .slice A6 p.f6.length c6, .slice A7 p.f7.length c7, .slice A8 p.f8.length c8, .slice A9 p.f9.length c9, .slice A10 p.f10.length c10]) (t := 34) ?hr ?_; (case hd => rfl); (case hg => rfl); (case hr => first | (go_simp; done) | (go_simp; rfl)); intro b3 hg_ w2 hb3 hB3; go_must (have hle3 : w.heap.size ≤ b3 := (by have := hB2.size; omega); have n23 : b2 ≠ b3 := (by have := blk_lt hb2; omega); have hb22 := blk_below hb2 hB3; have r11 := (blk_cell hb22 11).trans (show _ = some (.slice X0 q.f0.length y0) from rfl); have r12 := (blk_cell hb22 12).trans (show _ = some (.slice X1 q.f1.length y1) from rfl); have r13 := (blk_cell hb22 13).trans (show _ = some (.slice X2 q.f2.length y2) from rfl); have r14 := (blk_cell hb22 14).trans (show _ = some (.slice X3 q.f3.length y3) from rfl); have r15 := (blk_cell hb22 15).trans (show _ = some (.slice X4 q.f4.length y4) from rfl); have r16 := (blk_cell hb22 16).trans (show _ = some (.slice X5 q.f5.length y5) from rfl); have r17 := (blk_cell hb22 17).trans (show _ = some (.slice X6 q.f6.length y6) from rfl); have r18 := (blk_cell hb22 18).trans (show _ = some (.slice X7 q.f7.length y7) from rfl); have r19 := (blk_cell hb22 19).trans (show _ = some (.slice X8 q.f8.length y8) from rfl); have r20 := (blk_cell hb22 20).trans (show _ = some (.slice X9 q.f9.length y9) from rfl); have r21 := (blk_cell hb22 21).trans (show _ = some (.slice X10 q.f10.length y10) from rfl)); clear hg_) | ((with_reducible refine gate_dst (N := 5) rfl ?_); refine box_event ?hg (N := 5) ?hd (cs := #[.slice none 0 0, .slice none 0 0, .slice none 0 0, .slice none 0 0, .slice none 0 0, .slice none 0 0, .slice none 0 0, .slice none 0 0, .slice none 0 0, .slice none 0 0, .slice none 0 0]) (t := 34) ?hr ?_; (case hd => rfl); (case hg => rfl); (case hr => first | (go_simp; done) | (go_simp; rfl)); intro b5 hg_ w3 hb5 hB5; go_must (have hle5 : w.heap.size ≤ b5 := (by have := hB2.size; have := hB3.size; omega); have n25 : b2 ≠ b5 := (by have := blk_lt hb22; omega); have n35 : b3 ≠ b5 := (by have := blk_lt hb3; omega); have hb23 := blk_below hb22 hB5; have hb33 := blk_below hb3 hB5; have r11 := (blk_cell hb23 11).trans (show _ = some (.slice X0 q.f0.length y0) from rfl); have r12 := (blk_cell hb23 12).trans (show _ = some (.slice X1 q.f1.length y1) from rfl); have r13 := (blk_cell hb23 13).trans (show _ = some (.slice X2 q.f2.length y2) from rfl); have r14 := (blk_cell hb23 14).trans (show _ = some (.slice X3 q.f3.length y3) from rfl); have r15 := (blk_cell hb23 15).trans (show _ = some (.slice X4 q.f4.length y4) from rfl); have r16 := (blk_cell hb23 16).trans (show _ = some (.slice X5 q.f5.length y5) from rfl); have r17 := (blk_cell hb23 17).trans (show _ = some (.slice X6 q.f6.length y6) from rfl); have r18 := (blk_cell hb23 18).trans (show _ = some (.slice X7 q.f7.length y7) from rfl); have r19 := (blk_cell hb23 19).trans (show _ = some (.slice X8 q.f8.length y8) from rfl); have r20 := (blk_cell hb23 20).trans (show _ = some (.slice X9 q.f9.length y9) from rfl); have r21 := (blk_cell hb23 21).trans (show _ = some (.slice X10 q.f10.length y10) from rfl)); clear hg_) | ((with_reducible refine gate_ (.store 34 (.tmp 5) (.tmp 14)) rfl ?_); go_must (refine bstore (t := 34) (p := 5) (v := .tmp 14) rfl rfl rfl b5 _ #[.slice X0 q.f0.length y0, .slice X1 q.f1.length y1, .slice X2 q.f2.length y2, .slice X3 q.f3.length y3, .slice X4 q.f4.length y4, .slice X5 q.f5.length y5, .slice X6 q.f6.length y6, .slice X7 q.f7.length y7, .slice X8 q.f8.length y8, .slice X9 q.f9.length y9, .slice X10 q.f10.length y10] (.agg #[.slice X0 q.f0.length y0, .slice X1 q.f1.length y1, .slice X2 q.f2.length y2, .slice X3 q.f3.length y3, .slice X4 q.f4.length y4, .slice X5 q.f5.length y5, .slice X6 q.f6.length y6, .slice X7 q.f7.length y7, .slice X8 q.f8.length y8, .slice X9 q.f9.length y9, .slice X10 q.f10.length y10]) rfl rfl rfl hb5 size34r rfl (by simp [Value.oneCell']) ?_); intro w4 hb6 hoth hsz hbel))
  have HU := Lib.hid (show Un w b2 b3 b5 #[o0, o1, o2, o3, o4, o5, o6, o7, o8, o9, o10, .slice X0 q.f0.length y0, .slice X1 q.f1.length y1, .slice X2 q.f2.length y2, .slice X3 q.f3.length y3, .slice X4 q.f4.length y4, .slice X5 q.f5.length y5, .slice X6 q.f6.length y6, .slice X7 q.f7.length y7, .slice X8 q.f8.length y8, .slice X9 q.f9.length y9, .slice X10 q.f10.length y10, .slice AL p.f9.length cL] #[.slice A0 p.f0.length c0, .slice A1 p.f1.length c1, .slice A2 p.f2.length c2, .slice A3 p.f3.length c3, .slice A4 p.f4.length c4, .slice A5 p.f5.length c5, .slice A6 p.f6.length c6, .slice A7 p.f7.length c7, .slice A8 p.f8.length c8, .slice A9 p.f9.length c9, .slice A10 p.f10.length c10] #[.slice X0 q.f0.length y0, .slice X1 q.f1.length y1, .slice X2 q.f2.length y2, .slice X3 q.f3.length y3, .slice X4 q.f4.length y4, .slice X5 q.f5.length y5, .slice X6 q.f6.length y6, .slice X7 q.f7.length y7, .slice X8 q.f8.length y8, .slice X9 q.f9.length y9, .slice X10 q.f10.length y10] w4 from ⟨(hoth b2 n25).trans hb23, (hoth b3 n35).trans hb33, hb6, ((hB2.trans (hB3.mono hB2.size)).trans (hB5.mono (Nat.le_trans hB2.size hB3.size))).trans (hbel _ hle5)⟩)
  clear hb2 hB2 hb3 hB3 hb5 hB5 hb22 hb23 hb33 hb6 hoth hsz hbel r11 r12 r13 r14 r15 r16 r17 r18 r19 r20 r21
  obtain ⟨qf0, qf1, qf2, qf3, qf4, qf5, qf6, qf7, qf8, qf9, qf10, qf11, qf12, qf13, qf14, qf15, qf16, qf17, qf18, qf19, qf20, qf21⟩ := bC11 (Aside0.mk HU.out.h5); obtain ⟨qb0, qb1, qb2, qb3, qb4, qb5, qb6, qb7, qb8, qb9, qb10, qb11, qb12, qb13, qb14, qb15, qb16, qb17, qb18, qb19, qb20, qb21⟩ := bC11 (Aside0.mk HU.out.h3)
  go_upto_region 4 with (first | (go_at_call 54; (with_reducible refine (asLong_true HQ0.out Sl0 (Kd.C_below HD0.out ?s1) m0 (Kd.C_below HP0.out ?s2) l0).mono ?_); (case s1 => exact (HU.out.bel.trans (by (with_reducible repeat (first | apply pw_below_drewN | apply below_drew)); exact Below.refl _ _))); (case s2 => exact (HU.out.bel.trans (by (with_reducible repeat (first | apply pw_below_drewN | apply below_drew)); exact Below.refl _ _))); rintro e w5 ⟨rfl, n_, rfl⟩) | (go_at_call 54; (with_reducible refine (asLong_true HQ2.out Sl2 (Kd.C_below HD2.out ?s1) m2 (Kd.C_below HP2.out ?s2) l2).mono ?_); (case s1 => exact (HU.out.bel.trans (by (with_reducible repeat (first | apply pw_below_drewN | apply below_drew)); exact Below.refl _ _))); (case s2 => exact (HU.out.bel.trans (by (with_reducible repeat (first | apply pw_below_drewN | apply below_drew)); exact Below.refl _ _))); rintro e w5 ⟨rfl, n_, rfl⟩) | (go_at_call 54; (with_reducible refine (asLong_true HQ3.out Sl3 (Kd.C_below HD3.out ?s1) m3 (Kd.C_below HP3.out ?s2) l3).mono ?_); (case s1 => exact (HU.out.bel.trans (by (with_reducible repeat (first | apply pw_below_drewN | apply below_drew)); exact Below.refl _ _))); (case s2 => exact (HU.out.bel.trans (by (with_reducible repeat (first | apply pw_below_drewN | apply below_drew)); exact Below.refl _ _))); rintro e w5 ⟨rfl, n_, rfl⟩) | (go_at_call 54; (with_reducible refine (asLong_true HQ4.out Sl4 (Kd.C_below HD4.out ?s1) m4 (Kd.C_below HP4.out ?s2) l4).mono ?_); (case s1 => exact (HU.out.bel.trans (by (with_reducible repeat (first | apply pw_below_drewN | apply below_drew)); exact Below.refl _ _))); (case s2 => exact (HU.out.bel.trans (by (with_reducible repeat (first | apply pw_below_drewN | apply below_drew)); exact Below.refl _ _))); rintro e w5 ⟨rfl, n_, rfl⟩))
  obtain ⟨qf0, qf1, qf2, qf3, qf4, qf5, qf6, qf7, qf8, qf9, qf10, qf11, qf12, qf13, qf14, qf15, qf16, qf17, qf18, qf19, qf20, qf21⟩ := bC11 (Aside0.mk HU.out.h5); obtain ⟨qb0, qb1, qb2, qb3, qb4, qb5, qb6, qb7, qb8, qb9, qb10, qb11, qb12, qb13, qb14, qb15, qb16, qb17, qb18, qb19, qb20, qb21⟩ := bC11 (Aside0.mk HU.out.h3)
  go_upto_region 6 with (first | (go_at_call 55; (with_reducible refine (asPairs_true HQ5.out Sl5 (Kd.C_below HD5.out ?s1) m5 (Kd.C_below HP5.out ?s2) l5).mono ?_); (case s1 => exact (HU.out.bel.trans (by (with_reducible repeat (first | apply pw_below_drewN | apply below_drew)); exact Below.refl _ _))); (case s2 => exact (HU.out.bel.trans (by (with_reducible repeat (first | apply pw_below_drewN | apply below_drew)); exact Below.refl _ _))); rintro e w5 ⟨rfl, n_, rfl⟩) | (go_at_call 55; (with_reducible refine (asPairs_true HQ6.out Sl6 (Kd.C_below HD6.out ?s1) m6 (Kd.C_below HP6.out ?s2) l6).mono ?_); (case s1 => exact (HU.out.bel.trans (by (with_reducible repeat (first | apply pw_below_drewN | apply below_drew)); exact Below.refl _ _))); (case s2 => exact (HU.out.bel.trans (by (with_reducible repeat (first | apply pw_below_drewN | apply below_drew)); exact Below.refl _ _))); rintro e w5 ⟨rfl, n_, rfl⟩) | (go_at_call 55; (with_reducible refine (asPairs_true HQ7.out Sl7 (Kd.C_below HD7.out ?s1) m7 (Kd.C_below HP7.out ?s2) l7).mono ?_); (case s1 => exact (HU.out.bel.trans (by (with_reducible repeat (first | apply pw_below_drewN | apply below_drew)); exact Below.refl _ _))); (case s2 => exact (HU.out.bel.trans (by (with_reducible repeat (first | apply pw_below_drewN | apply below_drew)); exact Below.refl _ _))); rintro e w5 ⟨rfl, n_, rfl⟩) | (go_at_call 55; (with_reducible refine (asPairs_true HQ8.out Sl8 (Kd.C_below HD8.out ?s1) m8 (Kd.C_below HP8.out ?s2) l8).mono ?_); (case s1 => exact (HU.out.bel.trans (by (with_reducible repeat (first | apply pw_below_drewN | apply below_drew)); exact Below.refl _ _))); (case s2 => exact (HU.out.bel.trans (by (with_reducible repeat (first | apply pw_below_drewN | apply below_drew)); exact Below.refl _ _))); rintro e w5 ⟨rfl, n_, rfl⟩))
  go_wp2_with fail
  clear qf0 qf1 qf2 qf3 qf4 qf5 qf6 qf7 qf8 qf9 qf10 qf11 qf12 qf13 qf14 qf15 qf16 qf17 qf18 qf19 qf20 qf21 qb0 qb1 qb2 qb3 qb4 qb5 qb6 qb7 qb8 qb9 qb10 qb11 qb12 qb13 qb14 qb15 qb16 qb17 qb18 qb19 qb20 qb21
  go_loopw [7] (fun i wr => ∃ k : Nat, k ≤ p.f1.length ∧ i = .int .i64 (k : Nat) ∧ Un w b2 b3 b5 #[o0, o1, o2, o3, o4, o5, o6, o7, o8, o9, o10, .slice X0 q.f0.length y0, .slice X1 q.f1.length y1, .slice X2 q.f2.length y2, .slice X3 q.f3.length y3, .slice X4 q.f4.length y4, .slice X5 q.f5.length y5, .slice X6 q.f6.length y6, .slice X7 q.f7.length y7, .slice X8 q.f8.length y8, .slice X9 q.f9.length y9, .slice X10 q.f10.length y10, .slice AL p.f9.length cL] #[.slice A0 p.f0.length c0, .slice A1 p.f1.length c1, .slice A2 p.f2.length c2, .slice A3 p.f3.length c3, .slice A4 p.f4.length c4, .slice A5 p.f5.length c5, .slice A6 p.f6.length c6, .slice A7 p.f7.length c7, .slice A8 p.f8.length c8, .slice A9 p.f9.length c9, .slice A10 p.f10.length c10] #[.slice X0 q.f0.length y0, .slice X1 q.f1.length y1, .slice X2 q.f2.length y2, .slice X3 q.f3.length y3, .slice X4 q.f4.length y4, .slice X5 q.f5.length y5, .slice X6 q.f6.length y6, .slice X7 q.f7.length y7, .slice X8 q.f8.length y8, .slice X9 q.f9.length y9, .slice X10 q.f10.length y10] wr) (fun i _ => p.f1.length - (intOf i).toNat)
  case atStart => exact ⟨0, Nat.zero_le _, rfl, HU.out.drewN _⟩
  case round =>
    obtain ⟨k, hk, rfl, hU⟩ := hrel
    clear HU
    have HU := Lib.hid hU
    clear hU
    obtain ⟨qf0, qf1, qf2, qf3, qf4, qf5, qf6, qf7, qf8, qf9, qf10, qf11, qf12, qf13, qf14, qf15, qf16, qf17, qf18, qf19, qf20, qf21⟩ := bC11 (Aside0.mk HU.out.h5); obtain ⟨qb0, qb1, qb2, qb3, qb4, qb5, qb6, qb7, qb8, qb9, qb10, qb11, qb12, qb13, qb14, qb15, qb16, qb17, qb18, qb19, qb20, qb21⟩ := bC11 (Aside0.mk HU.out.h3)
    by_cases hlt : k < p.f1.length
    · obtain ⟨adp, hap, s0, s1⟩ := at_T57 (Kd.C_below HP1.out HU.out.bel) (k : Int) (by omega) (by omega)
      have hql : q.f1.length = p.f1.length + 1 := by rw [HQ1.out]; simp
      obtain ⟨adq, haq, t0, t1⟩ := at_T57 (Kd.C_below HD1.out HU.out.bel) (k : Int) (by omega) (by omega)
      have hrd : rd_T57 q.f1 (k : Int) = rd_T57 p.f1 (k : Int) := by rw [HQ1.out]; simp [rd_T57, List.getD_eq_getElem?_getD, List.getElem?_append_left hlt]
      rw [hrd, Int.toNat_natCast] at t0 t1
      rw [Int.toNat_natCast] at s0 s1
      obtain ⟨s, hs⟩ : ∃ s, s = rd_T57 p.f1 (k : Int) := ⟨_, rfl⟩
      rw [← hs] at s0 s1 t0 t1
      clear hrd hs
      have HQL := Lib.hid hql
      have i0 : (0 : Int) ≤ (k : Int) := by omega
      have i1 : (k : Int) < (p.f1.length : Int) := by omega
      have i2 : (k : Int) < (q.f1.length : Int) := by omega
      have i3 : (s.f0.toList != s.f0.toList) = false := by simp
      subst hap haq
      clear hql
      go_wp2_with fail
      go_quiet ((go_at_call 56; exact Calls.quiet_of (equals_true s.f1 _)))
      go_wp2_with fail
      go_roundw
      case rel => exact ⟨k + 1, hlt, by go_num, HU.out.drewN _⟩
      case measure => simp [intOf]; omega
    · obtain rfl : k = p.f1.length := by omega
      go_wp2_with fail
      clear qf0 qf1 qf2 qf3 qf4 qf5 qf6 qf7 qf8 qf9 qf10 qf11 qf12 qf13 qf14 qf15 qf16 qf17 qf18 qf19 qf20 qf21 qb0 qb1 qb2 qb3 qb4 qb5 qb6 qb7 qb8 qb9 qb10 qb11 qb12 qb13 qb14 qb15 qb16 qb17 qb18 qb19 qb20 qb21
      obtain ⟨W2, rfl⟩ : ∃ x, x = wr := ⟨wr, rfl⟩
      clear hlt hk
      go_loopw [8] (fun i wr => ∃ k : Nat, k ≤ p.f10.length ∧ i = .int .i64 (k : Nat) ∧ Un w b2 b3 b5 #[o0, o1, o2, o3, o4, o5, o6, o7, o8, o9, o10, .slice X0 q.f0.length y0, .slice X1 q.f1.length y1, .slice X2 q.f2.length y2, .slice X3 q.f3.length y3, .slice X4 q.f4.length y4, .slice X5 q.f5.length y5, .slice X6 q.f6.length y6, .slice X7 q.f7.length y7, .slice X8 q.f8.length y8, .slice X9 q.f9.length y9, .slice X10 q.f10.length y10, .slice AL p.f9.length cL] #[.slice A0 p.f0.length c0, .slice A1 p.f1.length c1, .slice A2 p.f2.length c2, .slice A3 p.f3.length c3, .slice A4 p.f4.length c4, .slice A5 p.f5.length c5, .slice A6 p.f6.length c6, .slice A7 p.f7.length c7, .slice A8 p.f8.length c8, .slice A9 p.f9.length c9, .slice A10 p.f10.length c10] #[.slice X0 q.f0.length y0, .slice X1 q.f1.length y1, .slice X2 q.f2.length y2, .slice X3 q.f3.length y3, .slice X4 q.f4.length y4, .slice X5 q.f5.length y5, .slice X6 q.f6.length y6, .slice X7 q.f7.length y7, .slice X8 q.f8.length y8, .slice X9 q.f9.length y9, .slice X10 q.f10.length y10] wr) (fun i _ => p.f10.length - (intOf i).toNat)
      case atStart => exact ⟨0, Nat.zero_le _, rfl, HU.out⟩
      case round =>
        obtain ⟨k, hk, rfl, hU⟩ := hrel
        clear HU
        have HU := Lib.hid hU
        clear hU
        obtain ⟨qf0, qf1, qf2, qf3, qf4, qf5, qf6, qf7, qf8, qf9, qf10, qf11, qf12, qf13, qf14, qf15, qf16, qf17, qf18, qf19, qf20, qf21⟩ := bC11 (Aside0.mk HU.out.h5); obtain ⟨qb0, qb1, qb2, qb3, qb4, qb5, qb6, qb7, qb8, qb9, qb10, qb11, qb12, qb13, qb14, qb15, qb16, qb17, qb18, qb19, qb20, qb21⟩ := bC11 (Aside0.mk HU.out.h3)
        by_cases hlt : k < p.f10.length
        · obtain ⟨adp, hap, s0, s1, s2⟩ := at_T36 (Kd.C_below HP10.out HU.out.bel) (k : Int) (by omega) (by omega)
          have hql : q.f10.length = p.f10.length + 1 := by rw [HQ10.out]; simp
          obtain ⟨adq, haq, t0, t1, t2⟩ := at_T36 (Kd.C_below HD10.out HU.out.bel) (k : Int) (by omega) (by omega)
          have hrd : rd_T36 q.f10 (k : Int) = rd_T36 p.f10 (k : Int) := by rw [HQ10.out]; simp [rd_T36, List.getD_eq_getElem?_getD, List.getElem?_append_left hlt]
          rw [hrd, Int.toNat_natCast] at t0 t1 t2
          rw [Int.toNat_natCast] at s0 s1 s2
          obtain ⟨s, hs⟩ : ∃ s, s = rd_T36 p.f10 (k : Int) := ⟨_, rfl⟩
          rw [← hs] at s0 s1 s2 t0 t1 t2
          clear hrd hs
          have i0 : (0 : Int) ≤ (k : Int) := by omega
          have i1 : (k : Int) < (p.f10.length : Int) := by omega
          have i2 : (k : Int) < (q.f10.length : Int) := by omega
          have i3 : ∀ b : ByteArray, (b.toList == b.toList) = true := fun b => by simp
          subst hap haq
          clear hql
          go_wp2_with fail
          go_quiet (fail)
          go_wp2_with fail
          go_roundw
          case rel => exact ⟨k + 1, hlt, by go_num, HU.out.drewN _⟩
          case measure => simp [intOf]; omega
        · obtain rfl : k = p.f10.length := by omega
          obtain ⟨W3, rfl⟩ : ∃ x, x = wr := ⟨wr, rfl⟩
          clear hlt hk
          have hql : q.f1.length = p.f1.length + 1 := by rw [HQ1.out]; simp
          have hqx : q.f10.length = p.f10.length + 1 := by rw [HQ10.out]; simp
          obtain ⟨adq, haq, t0, t1⟩ := at_T57 (Kd.C_below HD1.out HU.out.bel) (p.f1.length : Int) (by omega) (by omega)
          obtain ⟨adx, hax, x0, x1, x2⟩ := at_T36 (Kd.C_below HD10.out HU.out.bel) (p.f10.length : Int) (by omega) (by omega)
          have hrd : rd_T57 q.f1 (p.f1.length : Int) = mSub := by rw [HQ1.out]; simp [rd_T57, List.getD_eq_getElem?_getD]
          have hrx : rd_T36 q.f10 (p.f10.length : Int) = mTri := by rw [HQ10.out]; simp [rd_T36, List.getD_eq_getElem?_getD]
          rw [hrd, Int.toNat_natCast] at t0 t1
          rw [hrx, Int.toNat_natCast] at x0 x1 x2
          clear hrd hrx
          have i0 : (0 : Int) ≤ (p.f1.length : Int) := by omega
          have i1 : (p.f1.length : Int) < (q.f1.length : Int) := by omega
          have i2 : (0 : Int) ≤ (p.f10.length : Int) := by omega
          have i3 : (p.f10.length : Int) < (q.f10.length : Int) := by omega
          have i4 : feq 0 0 = true := by decide
          subst haq hax
          clear hql hqx
          go_wp2_with fail
          clear qf0 qf1 qf2 qf3 qf4 qf5 qf6 qf7 qf8 qf9 qf10 qf11 qf12 qf13 qf14 qf15 qf16 qf17 qf18 qf19 qf20 qf21 qb0 qb1 qb2 qb3 qb4 qb5 qb6 qb7 qb8 qb9 qb10 qb11 qb12 qb13 qb14 qb15 qb16 qb17 qb18 qb19 qb20 qb21
          clear t0 t1 x0 x1 x2 i0 i1 i2 i3 i4
          go_loopw [9] (fun i wr => ∃ k : Nat, k ≤ p.f9.length ∧ i = .int .i64 (k : Nat) ∧ Un w b2 b3 b5 #[o0, o1, o2, o3, o4, o5, o6, o7, o8, o9, o10, .slice X0 q.f0.length y0, .slice (some adq) q.f1.length y1, .slice X2 q.f2.length y2, .slice X3 q.f3.length y3, .slice X4 q.f4.length y4, .slice X5 q.f5.length y5, .slice X6 q.f6.length y6, .slice X7 q.f7.length y7, .slice X8 q.f8.length y8, .slice X9 q.f9.length y9, .slice (some adx) q.f10.length y10, .slice AL p.f9.length cL] #[.slice A0 p.f0.length c0, .slice A1 p.f1.length c1, .slice A2 p.f2.length c2, .slice A3 p.f3.length c3, .slice A4 p.f4.length c4, .slice A5 p.f5.length c5, .slice A6 p.f6.length c6, .slice A7 p.f7.length c7, .slice A8 p.f8.length c8, .slice A9 p.f9.length c9, .slice A10 p.f10.length c10] #[.slice X0 q.f0.length y0, .slice (some adq) q.f1.length y1, .slice X2 q.f2.length y2, .slice X3 q.f3.length y3, .slice X4 q.f4.length y4, .slice X5 q.f5.length y5, .slice X6 q.f6.length y6, .slice X7 q.f7.length y7, .slice X8 q.f8.length y8, .slice X9 q.f9.length y9, .slice (some adx) q.f10.length y10] wr) (fun i _ => p.f9.length - (intOf i).toNat)
          case atStart => exact ⟨0, Nat.zero_le _, rfl, HU.out⟩
          case round =>
            obtain ⟨k, hk, rfl, hU⟩ := hrel
            clear HU
            have HU := Lib.hid hU
            clear hU
            have hql : q.f9.length = p.f9.length + 1 := by rw [HQ9.out]; simp
            by_cases hlt : k < p.f9.length
            · obtain ⟨adp, AP, cP, hap, s0, s1, s2, s3, s4, s5, lP, gP⟩ := at_T27 (Kd.C_below HP9.out HU.out.bel) (k : Int) (by omega) (by omega)
              obtain ⟨adr, AQ, cQ, haq, t0, t1, t2, t3, t4, t5, lQ, gQ⟩ := at_T27 (Kd.C_below HD9.out HU.out.bel) (k : Int) (by omega) (by omega)
              have hrd : rd_T27 q.f9 (k : Int) = rd_T27 p.f9 (k : Int) := by rw [HQ9.out]; simp [rd_T27, List.getD_eq_getElem?_getD, List.getElem?_append_left hlt]
              rw [hrd, Int.toNat_natCast] at t0 t1 t2 t3 t4 t5
              rw [hrd] at lQ gQ
              rw [Int.toNat_natCast] at s0 s1 s2 s3 s4 s5
              obtain ⟨r, hr⟩ : ∃ r, r = rd_T27 p.f9 (k : Int) := ⟨_, rfl⟩
              rw [← hr] at s0 s1 s2 s3 s4 s5 t0 t1 t2 t3 t4 t5 lP gP lQ gQ
              have hkr : p.f9[k]? = some r := by rw [hr, rdRule hlt]; exact List.getElem?_eq_getElem hlt
              have hla : r.f3.length ≤ 1048576 := HLA.out _ (List.mem_of_getElem? hkr)
              obtain ⟨adl, Aa, ca, hal, a0, lA, gA⟩ := at_L3 (Kd.C_below HDL.out HU.out.bel) (k : Int) (by omega) (by omega)
              have hra : rd_L3 (actsM p.f9) (k : Int) = r.f3 ++ [mark] := by simp [rd_L3, List.getD_eq_getElem?_getD, hkr]
              rw [hra, Int.toNat_natCast] at a0
              rw [hra] at lA gA
              obtain ⟨La, hLa⟩ : ∃ L, L = r.f3 ++ [mark] := ⟨_, rfl⟩
              rw [← hLa] at a0 lA gA
              have HLa := Lib.hid hLa
              have GP := Lib.hid gP
              have GA := Lib.hid gA
              clear hrd hr hkr hra hLa gP gQ gA
              subst hap haq hal
              have i0 : (0 : Int) ≤ (k : Int) := by omega
              have i1 : (k : Int) < (p.f9.length : Int) := by omega
              have i2 : (k : Int) < (q.f9.length : Int) := by omega
              clear hql
              obtain ⟨qf0, qf1, qf2, qf3, qf4, qf5, qf6, qf7, qf8, qf9, qf10, qf11, qf12, qf13, qf14, qf15, qf16, qf17, qf18, qf19, qf20, qf21⟩ := bC11 (Aside0.mk HU.out.h5); obtain ⟨qb0, qb1, qb2, qb3, qb4, qb5, qb6, qb7, qb8, qb9, qb10, qb11, qb12, qb13, qb14, qb15, qb16, qb17, qb18, qb19, qb20, qb21⟩ := bC11 (Aside0.mk HU.out.h3)
              go_upto_region 23 with (first | ((with_reducible refine gate_dst (N := 10) rfl ?_); refine box_event ?hg (N := 10) ?hd (cs := #[.bool false, .string ⟨#[]⟩, .string ⟨#[]⟩, .slice none 0 0, .int .i8 0, .float .f64 0]) (t := 27) ?hr ?_; (case hd => rfl); (case hg => rfl); (case hr => first | (go_simp; done) | (go_simp; rfl)); intro b10 hg_ w6 hb10 hB10; go_must (have hle10 : wr.heap.size ≤ b10 := (by omega)); clear hg_) | ((with_reducible refine gate_ (.store 27 (.tmp 10) (.tmp 159)) rfl ?_); go_must (refine bstore (t := 27) (p := 10) (v := .tmp 159) rfl rfl rfl b10 _ #[.bool r.f0, .string r.f1, .string r.f2, .slice AQ r.f3.length cQ, .int .i8 r.f4, .float .f64 r.f5] (.agg #[.bool r.f0, .string r.f1, .string r.f2, .slice AQ r.f3.length cQ, .int .i8 r.f4, .float .f64 r.f5]) rfl rfl rfl hb10 size27r rfl (by simp [Value.oneCell']) ?_); intro w7 hb7 hoth hsz hbel; have hB7 := hB10.trans (hbel _ hle10); clear hoth hsz hbel hb10 hB10))
              clear qf0 qf1 qf2 qf3 qf4 qf5 qf6 qf7 qf8 qf9 qf10 qf11 qf12 qf13 qf14 qf15 qf16 qf17 qf18 qf19 qf20 qf21 qb0 qb1 qb2 qb3 qb4 qb5 qb6 qb7 qb8 qb9 qb10 qb11 qb12 qb13 qb14 qb15 qb16 qb17 qb18 qb19 qb20 qb21
              have HU7 := Lib.hid (HU.out.below hB7)
              have HB7 := Lib.hid hB7
              have HC7 := Lib.hid hb7
              have GP7 := Lib.hid (Kd.C_below GP.out hB7)
              have GA7 := Lib.hid (Kd.C_below GA.out hB7)
              have s0 := hCb hB7 s0
              have s1 := hCb hB7 s1
              have s2 := hCb hB7 s2
              have s3 := hCb hB7 s3
              have s4 := hCb hB7 s4
              have s5 := hCb hB7 s5
              have a0 := hCb hB7 a0
              clear hB7 hb7 HU t0 t1 t2 t3 t4 t5 GP GA HB7
              have HU := HU7
              clear HU7
              obtain ⟨qf0, qf1, qf2, qf3, qf4, qf5, qf6, qf7, qf8, qf9, qf10, qf11, qf12, qf13, qf14, qf15, qf16, qf17, qf18, qf19, qf20, qf21⟩ := bC11 (Aside0.mk HU.out.h5); obtain ⟨qb0, qb1, qb2, qb3, qb4, qb5, qb6, qb7, qb8, qb9, qb10, qb11, qb12, qb13, qb14, qb15, qb16, qb17, qb18, qb19, qb20, qb21⟩ := bC11 (Aside0.mk HU.out.h3)
              go_upto_region 24 with (first | ((with_reducible refine gate_dst (N := 11) rfl ?_); refine box_event ?hg (N := 11) ?hd (cs := #[.bool false, .string ⟨#[]⟩, .string ⟨#[]⟩, .slice none 0 0, .int .i8 0, .float .f64 0]) (t := 27) ?hr ?_; (case hd => rfl); (case hg => rfl); (case hr => first | (go_simp; done) | (go_simp; rfl)); intro b11 hg_ w8 hb11 hB11; go_must (have hle11 : w7.heap.size ≤ b11 := (by omega)); clear hg_) | ((with_reducible refine gate_ (.store 27 (.tmp 11) (.tmp 164)) rfl ?_); go_must (refine bstore (t := 27) (p := 11) (v := .tmp 164) rfl rfl rfl b11 _ #[.bool r.f0, .string r.f1, .string r.f2, .slice AP r.f3.length cP, .int .i8 r.f4, .float .f64 r.f5] (.agg #[.bool r.f0, .string r.f1, .string r.f2, .slice AP r.f3.length cP, .int .i8 r.f4, .float .f64 r.f5]) rfl rfl rfl hb11 size27r rfl (by simp [Value.oneCell']) ?_); intro w9 hb9 hoth hsz hbel; have hB9 := hB11.trans (hbel _ hle11); clear hoth hsz hbel hb11 hB11))
              clear qf0 qf1 qf2 qf3 qf4 qf5 qf6 qf7 qf8 qf9 qf10 qf11 qf12 qf13 qf14 qf15 qf16 qf17 qf18 qf19 qf20 qf21 qb0 qb1 qb2 qb3 qb4 qb5 qb6 qb7 qb8 qb9 qb10 qb11 qb12 qb13 qb14 qb15 qb16 qb17 qb18 qb19 qb20 qb21
              have HU9 := Lib.hid (HU.out.below hB9)
              have HC9 := Lib.hid (blk_below HC7.out hB9)
              have HD9_ := Lib.hid hb9
              have GP9 := Lib.hid (Kd.C_below GP7.out hB9)
              have GA9 := Lib.hid (Kd.C_below GA7.out hB9)
              have a0 := hCb hB9 a0
              clear hB9 hb9 HU GP7 GA7 HC7 s0 s1 s2 s3 s4 s5
              have HU := HU9
              clear HU9
              obtain ⟨e0, e1, e2, e3, e4, e5, z0, z1, z2, z3, z4, z5⟩ := bC6 (Aside0.mk HC9.out)
              obtain ⟨f0, f1, f2, f3, f4, f5, y0_, y1_, y2_, y3_, y4_, y5_⟩ := bC6 (Aside0.mk HD9_.out)
              have r22 := (blk_cell HU.out.h2 22).trans (show _ = some (Value.slice (some adl) p.f9.length cL) from rfl)
              have j0 : (r.f1.toList != r.f1.toList) = false := by simp
              have j1 : (r.f2.toList != r.f2.toList) = false := by simp
              go_wp2_with fail
              go_quiet (first | (go_at_call 56; exact Calls.quiet_of (equals_true r.f5 _)) | (go_at_call 54; exact Calls.quiet_of (asLong_true HLa.out hla (Kd.C_below GA9.out (pw_below_drewN (Below.refl _ _) _)) lA (Kd.C_below GP9.out (pw_below_drewN (Below.refl _ _) _)) lP)))
              go_wp2_with fail
              go_roundw
              case rel => exact ⟨k + 1, hlt, by go_num, HU.out.drewN _⟩
              case measure => simp [intOf]; omega
            · obtain rfl : k = p.f9.length := by omega
              obtain ⟨W5, rfl⟩ : ∃ x, x = wr := ⟨wr, rfl⟩
              clear hlt hk
              obtain ⟨adr, AQ, cQ, haq, t0, t1, t2, t3, t4, t5, lQ, gQ⟩ := at_T27 (Kd.C_below HD9.out HU.out.bel) (p.f9.length : Int) (by omega) (by omega)
              have hrd : rd_T27 q.f9 (p.f9.length : Int) = mRule := by rw [HQ9.out]; simp [rd_T27, List.getD_eq_getElem?_getD]
              rw [hrd, Int.toNat_natCast] at t0 t1 t2 t3 t4 t5
              clear hrd lQ gQ
              have i0 : (0 : Int) ≤ (p.f9.length : Int) := by omega
              have i1 : (p.f9.length : Int) < (q.f9.length : Int) := by omega
              subst haq
              clear hql
              obtain ⟨qf0, qf1, qf2, qf3, qf4, qf5, qf6, qf7, qf8, qf9, qf10, qf11, qf12, qf13, qf14, qf15, qf16, qf17, qf18, qf19, qf20, qf21⟩ := bC11 (Aside0.mk HU.out.h5); obtain ⟨qb0, qb1, qb2, qb3, qb4, qb5, qb6, qb7, qb8, qb9, qb10, qb11, qb12, qb13, qb14, qb15, qb16, qb17, qb18, qb19, qb20, qb21⟩ := bC11 (Aside0.mk HU.out.h3)
              go_upto_region 27 with (first | ((with_reducible refine gate_dst (N := 12) rfl ?_); refine box_event ?hg (N := 12) ?hd (cs := #[.bool false, .string ⟨#[]⟩, .string ⟨#[]⟩, .slice none 0 0, .int .i8 0, .float .f64 0]) (t := 27) ?hr ?_; (case hd => rfl); (case hg => rfl); (case hr => first | (go_simp; done) | (go_simp; rfl)); intro b12 hg_ w6 hb12 hB12; go_must (have hle12 : W5.heap.size ≤ b12 := (by omega)); clear hg_) | ((with_reducible refine gate_ (.store 27 (.tmp 12) (.tmp 225)) rfl ?_); go_must (refine bstore (t := 27) (p := 12) (v := .tmp 225) rfl rfl rfl b12 _ #[.bool false, .string ⟨#[35]⟩, .string ⟨#[]⟩, .slice AQ 0 cQ, .int .i8 0, .float .f64 0] (.agg #[.bool false, .string ⟨#[35]⟩, .string ⟨#[]⟩, .slice AQ 0 cQ, .int .i8 0, .float .f64 0]) rfl rfl rfl hb12 size27r rfl (by simp [Value.oneCell']) ?_); intro w7 hb7 hoth hsz hbel; have hB7 := hB12.trans (hbel _ hle12); clear hoth hsz hbel hb12 hB12))
              clear qf0 qf1 qf2 qf3 qf4 qf5 qf6 qf7 qf8 qf9 qf10 qf11 qf12 qf13 qf14 qf15 qf16 qf17 qf18 qf19 qf20 qf21 qb0 qb1 qb2 qb3 qb4 qb5 qb6 qb7 qb8 qb9 qb10 qb11 qb12 qb13 qb14 qb15 qb16 qb17 qb18 qb19 qb20 qb21
              have HU9 := Lib.hid (HU.out.below hB7)
              clear hB7 HU t0 t1 t2 t3 t4 t5
              obtain ⟨e0, e1, e2, e3, e4, e5, z0, z1, z2, z3, z4, z5⟩ := bC6 (Aside0.mk hb7)
              go_wp2_with fail
              go_ret
              exact ⟨rfl, HU9.out.bel⟩
end Go.Proofs.Ytnkdcekddhmjnaa.M
