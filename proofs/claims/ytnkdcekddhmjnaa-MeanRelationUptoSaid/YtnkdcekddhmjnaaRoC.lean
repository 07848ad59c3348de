import Derived.Test.YtnkdcekddhmjnaaRoB
import Derived.Test.YtnkdcekddhmjnaaRoD
/- roomy, walked: a policy whose lists have a mark behind them, and the same lists without it. Conditions: the policy reads as it must, and no list is longer than 1048576. -/
namespace Go.Proofs.Ytnkdcekddhmjnaa.M
open Go.RowKit Go.Proofs.YtnkdcekddhmjnaaW.Raw Go.Proofs.YtnkdcekddhmjnaaW.PrintWords Go.Proofs.YtnkdcekddhmjnaaW.PrintLast Go.Proofs.YtnkdcekddhmjnaaW.PrintAll Go.Proofs.Ytnkdcekddhmjnaa.F
set_option linter.unusedVariables false
set_option maxRecDepth 100000 in
set_option maxHeartbeats 8000000 in
theorem roomy_calls (p : Pol) (c : Array Value) (w : World) (hk : k34.K w p c.toList) (hz : Sz p) :
    Calls Try.prog 18 #[.agg c] w fun e w' => ∃ (cg cf : Array Value) (v : Value), e = .returned (.agg (cg ++ cf ++ #[v])) ∧ k34.K w' p cg.toList ∧ k34.K w' (fullP p) cf.toList ∧ Kd.R (Kd.slice 9 Kd.string) 25 w' w.heap.size (fun _ => True) v (actsM p.f9) ∧ Below w.heap.size w w' := by
  obtain ⟨A0, c0, A1, c1, A2, c2, A3, c3, A4, c4, A5, c5, A6, c6, A7, c7, A8, c8, A9, c9, A10, c10, e_, l0, g0, l1, g1, l2, g2, l3, g3, l4, g4, l5, g5, l6, g6, l7, g7, l8, g8, l9, g9, l10, g10⟩ := k34_open hk
  obtain rfl : c = #[.slice A0 p.f0.length c0, .slice A1 p.f1.length c1, .slice A2 p.f2.length c2, .slice A3 p.f3.length c3, .slice A4 p.f4.length c4, .slice A5 p.f5.length c5, .slice A6 p.f6.length c6, .slice A7 p.f7.length c7, .slice A8 p.f8.length c8, .slice A9 p.f9.length c9, .slice A10 p.f10.length c10] := by cases c; simpa using e_
  clear e_
  have Sl0 := hz.l0
  have Sl1 := hz.l1
  have Sl2 := hz.l2
  have Sl3 := hz.l3
  have Sl4 := hz.l4
  have Sl5 := hz.l5
  have Sl6 := hz.l6
  have Sl7 := hz.l7
  have Sl8 := hz.l8
  have Sl9 := hz.l9
  have Sl10 := hz.l10
  have Sla := hz.la
  have H0 := Lib.hid g0
  have H1 := Lib.hid g1
  have H2 := Lib.hid g2
  have H3 := Lib.hid g3
  have H4 := Lib.hid g4
  have H5 := Lib.hid g5
  have H6 := Lib.hid g6
  have H7 := Lib.hid g7
  have H8 := Lib.hid g8
  have H9 := Lib.hid g9
  have H10 := Lib.hid g10
  have HLA := Lib.hid Sla
  clear g0 g1 g2 g3 g4 g5 g6 g7 g8 g9 g10 Sla hz
  go_enter Try.func18, Try.ntmps18
  go_wp2_with (first | ((with_reducible refine gate_dst (N := 1) rfl ?_); refine box_event ?hg (N := 1) ?hd (cs := #[.slice A0 p.f0.length c0, .slice A1 p.f1.length c1, .slice A2 p.f2.length c2, .slice A3 p.f3.length c3, .slice A4 p.f4.length c4, .slice A5 p.f5.length c5, .slice A6 p.f6.length c6, .slice A7 p.f7.length c7, .slice A8 p.f8.length c8, .slice A9 p.f9.length c9, .slice A10 p.f10.length c10]) (t := 34) ?hr ?_; (case hd => rfl); (case hg => rfl); (case hr => first | (go_simp; done) | (go_simp; rfl)); intro b1 hg_ w1 hb1 hB1; go_must (have hle1 : w.heap.size ≤ b1 := by omega); clear hg_) | ((with_reducible refine gate_dst (N := 2) rfl ?_); refine box_event ?hg (N := 2) ?hd (cs := #[.slice none 0 0, .slice none 0 0, .slice none 0 0, .slice none 0 0, .slice none 0 0, .slice none 0 0, .slice none 0 0, .slice none 0 0, .slice none 0 0, .slice none 0 0, .slice none 0 0, .slice none 0 0, .slice none 0 0, .slice none 0 0, .slice none 0 0, .slice none 0 0, .slice none 0 0, .slice none 0 0, .slice none 0 0, .slice none 0 0, .slice none 0 0, .slice none 0 0, .slice none 0 0]) (t := 39) ?hr ?_; (case hd => rfl); (case hg => rfl); (case hr => first | (go_simp; done) | (go_simp; rfl)); intro b2 hg_ w2 hb2 hB2; go_must (have h12 : b1 ≠ b2 := (by have := blk_lt hb1; omega); have hle2 : w.heap.size ≤ b2 := (by have := hB1.size; omega)); clear hg_))
  have hb12 := blk_below hb1 hB2
  have HHB := Lib.hid (hB1.trans (hB2.mono hB1.size))
  have HB2 := Lib.hid hb2
  clear hb1 hB1 hB2 hb2
  refine ro1 p rfl rfl rfl hb12 (Kd.C_below H0.out HHB.out) l0 (longer_f p.f0 Sl0) (Kd.C_below H2.out HHB.out) l2 (longer_f p.f2 Sl2) (Kd.C_below H3.out HHB.out) l3 (longer_f p.f3 Sl3) (Kd.C_below H4.out HHB.out) l4 (longer_f p.f4 Sl4) ?_
  intro xs b3 W hB3 hx3 hle3 hf R0 R2 R3 R4
  simp only [putZ, Act.put, List.setIfInBounds_toArray, List.set_cons_zero, List.set_cons_succ]
  rw [hx3]
  obtain ⟨X0, y0, e0⟩ := Kd.R_slice R0
  obtain ⟨X2, y2, e2⟩ := Kd.R_slice R2
  obtain ⟨X3, y3, e3⟩ := Kd.R_slice R3
  obtain ⟨X4, y4, e4⟩ := Kd.R_slice R4
  rw [e0, e2, e3, e4] at hf
  rw [e0] at R0
  obtain ⟨L0, hL0⟩ : ∃ L, L = p.f0 ++ [mark] := ⟨_, rfl⟩
  rw [e2] at R2
  obtain ⟨L2, hL2⟩ : ∃ L, L = p.f2 ++ [mark] := ⟨_, rfl⟩
  rw [e3] at R3
  obtain ⟨L3, hL3⟩ : ∃ L, L = p.f3 ++ [mark] := ⟨_, rfl⟩
  rw [e4] at R4
  obtain ⟨L4, hL4⟩ : ∃ L, L = p.f4 ++ [mark] := ⟨_, rfl⟩
  rw [← hL0] at hf R0
  rw [← hL2] at hf R2
  rw [← hL3] at hf R3
  rw [← hL4] at hf R4
  have HL0 := Lib.hid hL0
  have HL2 := Lib.hid hL2
  have HL3 := Lib.hid hL3
  have HL4 := Lib.hid hL4
  clear e0 e2 e3 e4 hx3 hL0 hL2 hL3 hL4
  have n1 : b1 ≠ b3 := by have := blk_lt hb12; omega
  have n2 : b2 ≠ b3 := by have := blk_lt HB2.out; omega
  have hle : w.heap.size ≤ b3 := Nat.le_trans HHB.out.size hle3
  have HS := Lib.hid (show RoS w b1 b2 #[.slice A0 p.f0.length c0, .slice A1 p.f1.length c1, .slice A2 p.f2.length c2, .slice A3 p.f3.length c3, .slice A4 p.f4.length c4, .slice A5 p.f5.length c5, .slice A6 p.f6.length c6, .slice A7 p.f7.length c7, .slice A8 p.f8.length c8, .slice A9 p.f9.length c9, .slice A10 p.f10.length c10] #[.slice none 0 0, .slice none 0 0, .slice none 0 0, .slice none 0 0, .slice none 0 0, .slice none 0 0, .slice none 0 0, .slice none 0 0, .slice none 0 0, .slice none 0 0, .slice none 0 0, .slice none 0 0, .slice none 0 0, .slice none 0 0, .slice none 0 0, .slice none 0 0, .slice none 0 0, .slice none 0 0, .slice none 0 0, .slice none 0 0, .slice none 0 0, .slice none 0 0, .slice none 0 0] L0 L2 L3 L4 [] [] [] [] (.slice X0 L0.length y0) (.slice X2 L2.length y2) (.slice X3 L3.length y3) (.slice X4 L4.length y4) (.slice none 0 0) (.slice none 0 0) (.slice none 0 0) (.slice none 0 0) W from ⟨blk_below hb12 hB3, blk_below HB2.out hB3, HHB.out.trans (hB3.mono HHB.out.size), Kd.R_lower R0 HHB.out.size, Kd.R_lower R2 HHB.out.size, Kd.R_lower R3 HHB.out.size, Kd.R_lower R4 HHB.out.size, Kd.R_nil _ _ _ _ _, Kd.R_nil _ _ _ _ _, Kd.R_nil _ _ _ _ _, Kd.R_nil _ _ _ _ _⟩)
  have HF := Lib.hid (show W.heap[b3]? = some (Obj.cells #[.slice X0 L0.length y0, .slice none 0 0, .slice X2 L2.length y2, .slice X3 L3.length y3, .slice X4 L4.length y4, .slice none 0 0, .slice none 0 0, .slice none 0 0, .slice none 0 0, .slice none 0 0, .slice none 0 0] 34 (0, 0)) from hf)
  clear hB3 hle3 hf R0 R2 R3 R4 hb12 HB2 HHB
  obtain ⟨qf0, qf1, qf2, qf3, qf4, qf5, qf6, qf7, qf8, qf9, qf10, qf11, qf12, qf13, qf14, qf15, qf16, qf17, qf18, qf19, qf20, qf21⟩ := bC11 (Aside0.mk HF.out)
  obtain ⟨qb0, qb1, qb2, qb3, qb4, qb5, qb6, qb7, qb8, qb9, qb10, qb11, qb12, qb13, qb14, qb15, qb16, qb17, qb18, qb19, qb20, qb21⟩ := bC11 (Aside0.mk HS.out.h1)
  go_upto_region 3 with (first | ((with_reducible refine gate_builtin (b := .append) (xs := #[.tmp 23, .tmp 25]) rfl ?_); at_builtin; refine Kd.R_append_rows k57 (w0 := w) w.heap.size rfl (.tmp 23) (.tmp 25) 29 57 (.agg #[(.string ⟨#[]⟩), (.float .f64 0)]) 24 rfl Try.underlying29 info57 rfl (by decide) (by omega) (.slice none 0 0) ([] : List Sub) p.f1 _ _ _ (fun _ => True) (fun _ => False) rfl rfl ?aO ?aR (fun _ _ h => h) (fun _ h => h.elim) ?aF ?aB ?aS ?aL ?_; (case aR => exact Kd.C_below H1.out HS.out.bel); (case aB => exact HS.out.bel); (case aF => exact (fun _ _ => trivial)); (case aO => exact Kd.R_nil _ _ _ _ _); (case aS => exact HS.out.bel.size); (case aL => simp; omega); intro v1 w4 ho hb hg hat; rw [List.nil_append] at ho; obtain ⟨X1, y1, e1⟩ := Kd.R_slice ho; subst e1; have HS1 := Lib.hid (HS.out.grown 57 hg nil_row hb (by decide)); have HF1 := Lib.hid (blk_gts HF.out hg nil_row (by decide : (34 : Nat) ≠ 57)); have RS_ := Lib.hid ho; clear ho hb hg hat; obtain ⟨qg0, qg1, qg2, qg3, qg4, qg5, qg6, qg7, qg8, qg9, qg10, qg11, qg12, qg13, qg14, qg15, qg16, qg17, qg18, qg19, qg20, qg21⟩ := bC11 (Aside0.mk HF1.out)))
  clear HS HF qf0 qf1 qf2 qf3 qf4 qf5 qf6 qf7 qf8 qf9 qf10 qf11 qf12 qf13 qf14 qf15 qf16 qf17 qf18 qf19 qf20 qf21 qb0 qb1 qb2 qb3 qb4 qb5 qb6 qb7 qb8 qb9 qb10 qb11 qb12 qb13 qb14 qb15 qb16 qb17 qb18 qb19 qb20 qb21 qg0 qg1 qg2 qg3 qg4 qg5 qg6 qg7 qg8 qg9 qg10 qg11 qg12 qg13 qg14 qg15 qg16 qg17 qg18 qg19 qg20 qg21
  obtain ⟨V1, hV⟩ : ∃ x, x = w4.setCell ⟨b3, 1, none⟩ (.slice X1 p.f1.length y1) := ⟨_, rfl⟩
  rw [← hV]
  have HS := Lib.hid (show RoS w b1 b2 #[.slice A0 p.f0.length c0, .slice A1 p.f1.length c1, .slice A2 p.f2.length c2, .slice A3 p.f3.length c3, .slice A4 p.f4.length c4, .slice A5 p.f5.length c5, .slice A6 p.f6.length c6, .slice A7 p.f7.length c7, .slice A8 p.f8.length c8, .slice A9 p.f9.length c9, .slice A10 p.f10.length c10] #[.slice none 0 0, .slice none 0 0, .slice none 0 0, .slice none 0 0, .slice none 0 0, .slice none 0 0, .slice none 0 0, .slice none 0 0, .slice none 0 0, .slice none 0 0, .slice none 0 0, .slice none 0 0, .slice none 0 0, .slice none 0 0, .slice none 0 0, .slice none 0 0, .slice none 0 0, .slice none 0 0, .slice none 0 0, .slice none 0 0, .slice none 0 0, .slice none 0 0, .slice none 0 0] L0 L2 L3 L4 [] [] [] [] (.slice X0 L0.length y0) (.slice X2 L2.length y2) (.slice X3 L3.length y3) (.slice X4 L4.length y4) (.slice none 0 0) (.slice none 0 0) (.slice none 0 0) (.slice none 0 0) V1 from by rw [hV]; exact HS1.out.put HF1.out hle n1 n2 (by decide) _ _)
  have RS := Lib.hid (show Kd.R k57 57 V1 w.heap.size (fun _ => True) (.slice X1 p.f1.length y1) (p.f1) from by rw [hV]; exact Kd.R_set RS_.out HF1.out (by decide) _ _)
  have HF := Lib.hid (show V1.heap[b3]? = some (Obj.cells #[.slice X0 L0.length y0, .slice X1 p.f1.length y1, .slice X2 L2.length y2, .slice X3 L3.length y3, .slice X4 L4.length y4, .slice none 0 0, .slice none 0 0, .slice none 0 0, .slice none 0 0, .slice none 0 0, .slice none 0 0] 34 (0, 0)) from by rw [hV]; exact blk_put HF1.out 1 _ rfl)
  clear hV HS1 HF1 RS_
  obtain ⟨qf0, qf1, qf2, qf3, qf4, qf5, qf6, qf7, qf8, qf9, qf10, qf11, qf12, qf13, qf14, qf15, qf16, qf17, qf18, qf19, qf20, qf21⟩ := bC11 (Aside0.mk HF.out)
  obtain ⟨qb0, qb1, qb2, qb3, qb4, qb5, qb6, qb7, qb8, qb9, qb10, qb11, qb12, qb13, qb14, qb15, qb16, qb17, qb18, qb19, qb20, qb21⟩ := bC11 (Aside0.mk HS.out.h1)
  go_upto_region 4 with (first | ((with_reducible refine gate_builtin (b := .append) (xs := #[.tmp 29, .tmp 31]) rfl ?_); at_builtin; go_must (refine Kd.R_append k57 (w0 := w) w.heap.size rfl (.tmp 29) (.tmp 31) 29 57 (.agg #[(.string ⟨#[]⟩), (.float .f64 0)]) 24 rfl Try.underlying29 info57 rfl (by decide) (by omega) (.slice X1 p.f1.length y1) p.f1 mSub [.string (⟨#[35]⟩ : ByteArray), .float .f64 0] (fun _ => True) (fun _ => False) rfl (by first | (go_simp; done) | (go_simp; rfl)) ?aP (fun _ hk => hk.elim) ?aF ?aO ?aB ?aS ?aL ?_); go_must (case aP => exact k57_mkM _ _ _ mSub); go_must (case aB => exact HS.out.bel); go_must (case aF => exact (fun _ _ => trivial)); go_must (case aO => exact RS.out); go_must (case aS => exact HS.out.bel.size); go_must (case aL => omega); go_must (intro v1 w5 ho hb hg hat); go_must (obtain ⟨Z1, z1, e1⟩ := Kd.R_slice ho); go_must (subst e1); go_must (have HS1 := Lib.hid (HS.out.grown 57 hg (R_typed RS.out) hb (by decide)); have HF1 := Lib.hid (blk_gts HF.out hg (R_typed RS.out) (by decide : (34 : Nat) ≠ 57)); obtain ⟨L1, hL1⟩ : ∃ L, L = p.f1 ++ [mSub] := ⟨_, rfl⟩); go_must (rw [← hL1] at ho ⊢); go_must (have HL1 := Lib.hid hL1; have RS_ := Lib.hid ho; clear ho hb hg hat hL1); go_must (obtain ⟨qg0, qg1, qg2, qg3, qg4, qg5, qg6, qg7, qg8, qg9, qg10, qg11, qg12, qg13, qg14, qg15, qg16, qg17, qg18, qg19, qg20, qg21⟩ := bC11 (Aside0.mk HF1.out))))
  clear HS HF RS qf0 qf1 qf2 qf3 qf4 qf5 qf6 qf7 qf8 qf9 qf10 qf11 qf12 qf13 qf14 qf15 qf16 qf17 qf18 qf19 qf20 qf21 qb0 qb1 qb2 qb3 qb4 qb5 qb6 qb7 qb8 qb9 qb10 qb11 qb12 qb13 qb14 qb15 qb16 qb17 qb18 qb19 qb20 qb21 qg0 qg1 qg2 qg3 qg4 qg5 qg6 qg7 qg8 qg9 qg10 qg11 qg12 qg13 qg14 qg15 qg16 qg17 qg18 qg19 qg20 qg21
  obtain ⟨V2, hV⟩ : ∃ x, x = w5.setCell ⟨b3, 1, none⟩ (.slice Z1 L1.length z1) := ⟨_, rfl⟩
  rw [← hV]
  have HS := Lib.hid (show RoS w b1 b2 #[.slice A0 p.f0.length c0, .slice A1 p.f1.length c1, .slice A2 p.f2.length c2, .slice A3 p.f3.length c3, .slice A4 p.f4.length c4, .slice A5 p.f5.length c5, .slice A6 p.f6.length c6, .slice A7 p.f7.length c7, .slice A8 p.f8.length c8, .slice A9 p.f9.length c9, .slice A10 p.f10.length c10] #[.slice none 0 0, .slice none 0 0, .slice none 0 0, .slice none 0 0, .slice none 0 0, .slice none 0 0, .slice none 0 0, .slice none 0 0, .slice none 0 0, .slice none 0 0, .slice none 0 0, .slice none 0 0, .slice none 0 0, .slice none 0 0, .slice none 0 0, .slice none 0 0, .slice none 0 0, .slice none 0 0, .slice none 0 0, .slice none 0 0, .slice none 0 0, .slice none 0 0, .slice none 0 0] L0 L2 L3 L4 [] [] [] [] (.slice X0 L0.length y0) (.slice X2 L2.length y2) (.slice X3 L3.length y3) (.slice X4 L4.length y4) (.slice none 0 0) (.slice none 0 0) (.slice none 0 0) (.slice none 0 0) V2 from by rw [hV]; exact HS1.out.put HF1.out hle n1 n2 (by decide) _ _)
  have RS := Lib.hid (show Kd.R k57 57 V2 w.heap.size (fun _ => True) (.slice Z1 L1.length z1) (L1) from by rw [hV]; exact Kd.R_set RS_.out HF1.out (by decide) _ _)
  have HF := Lib.hid (show V2.heap[b3]? = some (Obj.cells #[.slice X0 L0.length y0, .slice Z1 L1.length z1, .slice X2 L2.length y2, .slice X3 L3.length y3, .slice X4 L4.length y4, .slice none 0 0, .slice none 0 0, .slice none 0 0, .slice none 0 0, .slice none 0 0, .slice none 0 0] 34 (0, 0)) from by rw [hV]; exact blk_put HF1.out 1 _ rfl)
  clear hV HS1 HF1 RS_
  obtain ⟨qf0, qf1, qf2, qf3, qf4, qf5, qf6, qf7, qf8, qf9, qf10, qf11, qf12, qf13, qf14, qf15, qf16, qf17, qf18, qf19, qf20, qf21⟩ := bC11 (Aside0.mk HF.out)
  obtain ⟨qb0, qb1, qb2, qb3, qb4, qb5, qb6, qb7, qb8, qb9, qb10, qb11, qb12, qb13, qb14, qb15, qb16, qb17, qb18, qb19, qb20, qb21⟩ := bC11 (Aside0.mk HS.out.h1)
  go_upto_region 5 with (first | ((with_reducible refine gate_callee (f := 44) rfl ?_); refine goesL_ (some 36) rfl rfl Try.func44 (by kernel_rfl) rfl #[.slice A5 p.f5.length c5] rfl (by (try simp only [List.map_toArray, List.map_cons, List.map_nil]); first | done | rfl) ?_; (with_reducible refine (gatehouselaw08_pairs.calls A5 c5 p.f5 _ _ ?side1 ?side2 (pairs_f p.f5 Sl5)).mono ?_); (case side1 => exact Kd.C_below H5.out HS.out.bel); (case side2 => exact l5); rintro e W6 ⟨v, rfl, ho, hb⟩; refine ⟨v, rfl, ?_⟩; obtain ⟨X5, y5, e1⟩ := Kd.R_slice ho; subst e1; have HS0 := Lib.hid (HS.out.below hb); have HF1 := Lib.hid (blk_below HF.out hb); obtain ⟨L5, hL⟩ : ∃ L, L = p.f5 ++ [mPair] := ⟨_, rfl⟩; rw [← hL] at ho ⊢; have HL5 := Lib.hid hL; have hR := Kd.R_lower ho HS.out.bel.size; have RS_ := Lib.hid (Kd.R_below RS.out hb); clear ho hL; have HS1 := Lib.hid (show RoS w b1 b2 #[.slice A0 p.f0.length c0, .slice A1 p.f1.length c1, .slice A2 p.f2.length c2, .slice A3 p.f3.length c3, .slice A4 p.f4.length c4, .slice A5 p.f5.length c5, .slice A6 p.f6.length c6, .slice A7 p.f7.length c7, .slice A8 p.f8.length c8, .slice A9 p.f9.length c9, .slice A10 p.f10.length c10] #[.slice none 0 0, .slice none 0 0, .slice none 0 0, .slice none 0 0, .slice none 0 0, .slice none 0 0, .slice none 0 0, .slice none 0 0, .slice none 0 0, .slice none 0 0, .slice none 0 0, .slice none 0 0, .slice none 0 0, .slice none 0 0, .slice none 0 0, .slice none 0 0, .slice none 0 0, .slice none 0 0, .slice none 0 0, .slice none 0 0, .slice none 0 0, .slice none 0 0, .slice none 0 0] L0 L2 L3 L4 L5 [] [] [] (.slice X0 L0.length y0) (.slice X2 L2.length y2) (.slice X3 L3.length y3) (.slice X4 L4.length y4) (.slice X5 L5.length y5) (.slice none 0 0) (.slice none 0 0) (.slice none 0 0) W6 from { HS0.out with r5 := hR }); clear hb hR HS0; obtain ⟨qg0, qg1, qg2, qg3, qg4, qg5, qg6, qg7, qg8, qg9, qg10, qg11, qg12, qg13, qg14, qg15, qg16, qg17, qg18, qg19, qg20, qg21⟩ := bC11 (Aside0.mk HF1.out)))
  clear HS HF RS qf0 qf1 qf2 qf3 qf4 qf5 qf6 qf7 qf8 qf9 qf10 qf11 qf12 qf13 qf14 qf15 qf16 qf17 qf18 qf19 qf20 qf21 qb0 qb1 qb2 qb3 qb4 qb5 qb6 qb7 qb8 qb9 qb10 qb11 qb12 qb13 qb14 qb15 qb16 qb17 qb18 qb19 qb20 qb21 qg0 qg1 qg2 qg3 qg4 qg5 qg6 qg7 qg8 qg9 qg10 qg11 qg12 qg13 qg14 qg15 qg16 qg17 qg18 qg19 qg20 qg21
  obtain ⟨V3, hV⟩ : ∃ x, x = W6.setCell ⟨b3, 5, none⟩ (.slice X5 L5.length y5) := ⟨_, rfl⟩
  rw [← hV]
  have HS := Lib.hid (show RoS w b1 b2 #[.slice A0 p.f0.length c0, .slice A1 p.f1.length c1, .slice A2 p.f2.length c2, .slice A3 p.f3.length c3, .slice A4 p.f4.length c4, .slice A5 p.f5.length c5, .slice A6 p.f6.length c6, .slice A7 p.f7.length c7, .slice A8 p.f8.length c8, .slice A9 p.f9.length c9, .slice A10 p.f10.length c10] #[.slice none 0 0, .slice none 0 0, .slice none 0 0, .slice none 0 0, .slice none 0 0, .slice none 0 0, .slice none 0 0, .slice none 0 0, .slice none 0 0, .slice none 0 0, .slice none 0 0, .slice none 0 0, .slice none 0 0, .slice none 0 0, .slice none 0 0, .slice none 0 0, .slice none 0 0, .slice none 0 0, .slice none 0 0, .slice none 0 0, .slice none 0 0, .slice none 0 0, .slice none 0 0] L0 L2 L3 L4 L5 [] [] [] (.slice X0 L0.length y0) (.slice X2 L2.length y2) (.slice X3 L3.length y3) (.slice X4 L4.length y4) (.slice X5 L5.length y5) (.slice none 0 0) (.slice none 0 0) (.slice none 0 0) V3 from by rw [hV]; exact HS1.out.put HF1.out hle n1 n2 (by decide) _ _)
  have RS := Lib.hid (show Kd.R k57 57 V3 w.heap.size (fun _ => True) (.slice Z1 L1.length z1) (L1) from by rw [hV]; exact Kd.R_set RS_.out HF1.out (by decide) _ _)
  have HF := Lib.hid (show V3.heap[b3]? = some (Obj.cells #[.slice X0 L0.length y0, .slice Z1 L1.length z1, .slice X2 L2.length y2, .slice X3 L3.length y3, .slice X4 L4.length y4, .slice X5 L5.length y5, .slice none 0 0, .slice none 0 0, .slice none 0 0, .slice none 0 0, .slice none 0 0] 34 (0, 0)) from by rw [hV]; exact blk_put HF1.out 5 _ rfl)
  clear hV HS1 HF1 RS_
  obtain ⟨qf0, qf1, qf2, qf3, qf4, qf5, qf6, qf7, qf8, qf9, qf10, qf11, qf12, qf13, qf14, qf15, qf16, qf17, qf18, qf19, qf20, qf21⟩ := bC11 (Aside0.mk HF.out)
  obtain ⟨qb0, qb1, qb2, qb3, qb4, qb5, qb6, qb7, qb8, qb9, qb10, qb11, qb12, qb13, qb14, qb15, qb16, qb17, qb18, qb19, qb20, qb21⟩ := bC11 (Aside0.mk HS.out.h1)
  go_upto_region 6 with (first | ((with_reducible refine gate_callee (f := 44) rfl ?_); refine goesL_ (some 40) rfl rfl Try.func44 (by kernel_rfl) rfl #[.slice A6 p.f6.length c6] rfl (by (try simp only [List.map_toArray, List.map_cons, List.map_nil]); first | done | rfl) ?_; (with_reducible refine (gatehouselaw08_pairs.calls A6 c6 p.f6 _ _ ?side1 ?side2 (pairs_f p.f6 Sl6)).mono ?_); (case side1 => exact Kd.C_below H6.out HS.out.bel); (case side2 => exact l6); rintro e W6 ⟨v, rfl, ho, hb⟩; refine ⟨v, rfl, ?_⟩; obtain ⟨X6, y6, e1⟩ := Kd.R_slice ho; subst e1; have HS0 := Lib.hid (HS.out.below hb); have HF1 := Lib.hid (blk_below HF.out hb); obtain ⟨L6, hL⟩ : ∃ L, L = p.f6 ++ [mPair] := ⟨_, rfl⟩; rw [← hL] at ho ⊢; have HL6 := Lib.hid hL; have hR := Kd.R_lower ho HS.out.bel.size; have RS_ := Lib.hid (Kd.R_below RS.out hb); clear ho hL; have HS1 := Lib.hid (show RoS w b1 b2 #[.slice A0 p.f0.length c0, .slice A1 p.f1.length c1, .slice A2 p.f2.length c2, .slice A3 p.f3.length c3, .slice A4 p.f4.length c4, .slice A5 p.f5.length c5, .slice A6 p.f6.length c6, .slice A7 p.f7.length c7, .slice A8 p.f8.length c8, .slice A9 p.f9.length c9, .slice A10 p.f10.length c10] #[.slice none 0 0, .slice none 0 0, .slice none 0 0, .slice none 0 0, .slice none 0 0, .slice none 0 0, .slice none 0 0, .slice none 0 0, .slice none 0 0, .slice none 0 0, .slice none 0 0, .slice none 0 0, .slice none 0 0, .slice none 0 0, .slice none 0 0, .slice none 0 0, .slice none 0 0, .slice none 0 0, .slice none 0 0, .slice none 0 0, .slice none 0 0, .slice none 0 0, .slice none 0 0] L0 L2 L3 L4 L5 L6 [] [] (.slice X0 L0.length y0) (.slice X2 L2.length y2) (.slice X3 L3.length y3) (.slice X4 L4.length y4) (.slice X5 L5.length y5) (.slice X6 L6.length y6) (.slice none 0 0) (.slice none 0 0) W6 from { HS0.out with r6 := hR }); clear hb hR HS0; obtain ⟨qg0, qg1, qg2, qg3, qg4, qg5, qg6, qg7, qg8, qg9, qg10, qg11, qg12, qg13, qg14, qg15, qg16, qg17, qg18, qg19, qg20, qg21⟩ := bC11 (Aside0.mk HF1.out)))
  clear HS HF RS qf0 qf1 qf2 qf3 qf4 qf5 qf6 qf7 qf8 qf9 qf10 qf11 qf12 qf13 qf14 qf15 qf16 qf17 qf18 qf19 qf20 qf21 qb0 qb1 qb2 qb3 qb4 qb5 qb6 qb7 qb8 qb9 qb10 qb11 qb12 qb13 qb14 qb15 qb16 qb17 qb18 qb19 qb20 qb21 qg0 qg1 qg2 qg3 qg4 qg5 qg6 qg7 qg8 qg9 qg10 qg11 qg12 qg13 qg14 qg15 qg16 qg17 qg18 qg19 qg20 qg21
  obtain ⟨V4, hV⟩ : ∃ x, x = W6.setCell ⟨b3, 6, none⟩ (.slice X6 L6.length y6) := ⟨_, rfl⟩
  rw [← hV]
  have HS := Lib.hid (show RoS w b1 b2 #[.slice A0 p.f0.length c0, .slice A1 p.f1.length c1, .slice A2 p.f2.length c2, .slice A3 p.f3.length c3, .slice A4 p.f4.length c4, .slice A5 p.f5.length c5, .slice A6 p.f6.length c6, .slice A7 p.f7.length c7, .slice A8 p.f8.length c8, .slice A9 p.f9.length c9, .slice A10 p.f10.length c10] #[.slice none 0 0, .slice none 0 0, .slice none 0 0, .slice none 0 0, .slice none 0 0, .slice none 0 0, .slice none 0 0, .slice none 0 0, .slice none 0 0, .slice none 0 0, .slice none 0 0, .slice none 0 0, .slice none 0 0, .slice none 0 0, .slice none 0 0, .slice none 0 0, .slice none 0 0, .slice none 0 0, .slice none 0 0, .slice none 0 0, .slice none 0 0, .slice none 0 0, .slice none 0 0] L0 L2 L3 L4 L5 L6 [] [] (.slice X0 L0.length y0) (.slice X2 L2.length y2) (.slice X3 L3.length y3) (.slice X4 L4.length y4) (.slice X5 L5.length y5) (.slice X6 L6.length y6) (.slice none 0 0) (.slice none 0 0) V4 from by rw [hV]; exact HS1.out.put HF1.out hle n1 n2 (by decide) _ _)
  have RS := Lib.hid (show Kd.R k57 57 V4 w.heap.size (fun _ => True) (.slice Z1 L1.length z1) (L1) from by rw [hV]; exact Kd.R_set RS_.out HF1.out (by decide) _ _)
  have HF := Lib.hid (show V4.heap[b3]? = some (Obj.cells #[.slice X0 L0.length y0, .slice Z1 L1.length z1, .slice X2 L2.length y2, .slice X3 L3.length y3, .slice X4 L4.length y4, .slice X5 L5.length y5, .slice X6 L6.length y6, .slice none 0 0, .slice none 0 0, .slice none 0 0, .slice none 0 0] 34 (0, 0)) from by rw [hV]; exact blk_put HF1.out 6 _ rfl)
  clear hV HS1 HF1 RS_
  obtain ⟨qf0, qf1, qf2, qf3, qf4, qf5, qf6, qf7, qf8, qf9, qf10, qf11, qf12, qf13, qf14, qf15, qf16, qf17, qf18, qf19, qf20, qf21⟩ := bC11 (Aside0.mk HF.out)
  obtain ⟨qb0, qb1, qb2, qb3, qb4, qb5, qb6, qb7, qb8, qb9, qb10, qb11, qb12, qb13, qb14, qb15, qb16, qb17, qb18, qb19, qb20, qb21⟩ := bC11 (Aside0.mk HS.out.h1)
  go_upto_region 7 with (first | ((with_reducible refine gate_callee (f := 44) rfl ?_); refine goesL_ (some 44) rfl rfl Try.func44 (by kernel_rfl) rfl #[.slice A7 p.f7.length c7] rfl (by (try simp only [List.map_toArray, List.map_cons, List.map_nil]); first | done | rfl) ?_; (with_reducible refine (gatehouselaw08_pairs.calls A7 c7 p.f7 _ _ ?side1 ?side2 (pairs_f p.f7 Sl7)).mono ?_); (case side1 => exact Kd.C_below H7.out HS.out.bel); (case side2 => exact l7); rintro e W6 ⟨v, rfl, ho, hb⟩; refine ⟨v, rfl, ?_⟩; obtain ⟨X7, y7, e1⟩ := Kd.R_slice ho; subst e1; have HS0 := Lib.hid (HS.out.below hb); have HF1 := Lib.hid (blk_below HF.out hb); obtain ⟨L7, hL⟩ : ∃ L, L = p.f7 ++ [mPair] := ⟨_, rfl⟩; rw [← hL] at ho ⊢; have HL7 := Lib.hid hL; have hR := Kd.R_lower ho HS.out.bel.size; have RS_ := Lib.hid (Kd.R_below RS.out hb); clear ho hL; have HS1 := Lib.hid (show RoS w b1 b2 #[.slice A0 p.f0.length c0, .slice A1 p.f1.length c1, .slice A2 p.f2.length c2, .slice A3 p.f3.length c3, .slice A4 p.f4.length c4, .slice A5 p.f5.length c5, .slice A6 p.f6.length c6, .slice A7 p.f7.length c7, .slice A8 p.f8.length c8, .slice A9 p.f9.length c9, .slice A10 p.f10.length c10] #[.slice none 0 0, .slice none 0 0, .slice none 0 0, .slice none 0 0, .slice none 0 0, .slice none 0 0, .slice none 0 0, .slice none 0 0, .slice none 0 0, .slice none 0 0, .slice none 0 0, .slice none 0 0, .slice none 0 0, .slice none 0 0, .slice none 0 0, .slice none 0 0, .slice none 0 0, .slice none 0 0, .slice none 0 0, .slice none 0 0, .slice none 0 0, .slice none 0 0, .slice none 0 0] L0 L2 L3 L4 L5 L6 L7 [] (.slice X0 L0.length y0) (.slice X2 L2.length y2) (.slice X3 L3.length y3) (.slice X4 L4.length y4) (.slice X5 L5.length y5) (.slice X6 L6.length y6) (.slice X7 L7.length y7) (.slice none 0 0) W6 from { HS0.out with r7 := hR }); clear hb hR HS0; obtain ⟨qg0, qg1, qg2, qg3, qg4, qg5, qg6, qg7, qg8, qg9, qg10, qg11, qg12, qg13, qg14, qg15, qg16, qg17, qg18, qg19, qg20, qg21⟩ := bC11 (Aside0.mk HF1.out)))
  clear HS HF RS qf0 qf1 qf2 qf3 qf4 qf5 qf6 qf7 qf8 qf9 qf10 qf11 qf12 qf13 qf14 qf15 qf16 qf17 qf18 qf19 qf20 qf21 qb0 qb1 qb2 qb3 qb4 qb5 qb6 qb7 qb8 qb9 qb10 qb11 qb12 qb13 qb14 qb15 qb16 qb17 qb18 qb19 qb20 qb21 qg0 qg1 qg2 qg3 qg4 qg5 qg6 qg7 qg8 qg9 qg10 qg11 qg12 qg13 qg14 qg15 qg16 qg17 qg18 qg19 qg20 qg21
  obtain ⟨V5, hV⟩ : ∃ x, x = W6.setCell ⟨b3, 7, none⟩ (.slice X7 L7.length y7) := ⟨_, rfl⟩
  rw [← hV]
  have HS := Lib.hid (show RoS w b1 b2 #[.slice A0 p.f0.length c0, .slice A1 p.f1.length c1, .slice A2 p.f2.length c2, .slice A3 p.f3.length c3, .slice A4 p.f4.length c4, .slice A5 p.f5.length c5, .slice A6 p.f6.length c6, .slice A7 p.f7.length c7, .slice A8 p.f8.length c8, .slice A9 p.f9.length c9, .slice A10 p.f10.length c10] #[.slice none 0 0, .slice none 0 0, .slice none 0 0, .slice none 0 0, .slice none 0 0, .slice none 0 0, .slice none 0 0, .slice none 0 0, .slice none 0 0, .slice none 0 0, .slice none 0 0, .slice none 0 0, .slice none 0 0, .slice none 0 0, .slice none 0 0, .slice none 0 0, .slice none 0 0, .slice none 0 0, .slice none 0 0, .slice none 0 0, .slice none 0 0, .slice none 0 0, .slice none 0 0] L0 L2 L3 L4 L5 L6 L7 [] (.slice X0 L0.length y0) (.slice X2 L2.length y2) (.slice X3 L3.length y3) (.slice X4 L4.length y4) (.slice X5 L5.length y5) (.slice X6 L6.length y6) (.slice X7 L7.length y7) (.slice none 0 0) V5 from by rw [hV]; exact HS1.out.put HF1.out hle n1 n2 (by decide) _ _)
  have RS := Lib.hid (show Kd.R k57 57 V5 w.heap.size (fun _ => True) (.slice Z1 L1.length z1) (L1) from by rw [hV]; exact Kd.R_set RS_.out HF1.out (by decide) _ _)
  have HF := Lib.hid (show V5.heap[b3]? = some (Obj.cells #[.slice X0 L0.length y0, .slice Z1 L1.length z1, .slice X2 L2.length y2, .slice X3 L3.length y3, .slice X4 L4.length y4, .slice X5 L5.length y5, .slice X6 L6.length y6, .slice X7 L7.length y7, .slice none 0 0, .slice none 0 0, .slice none 0 0] 34 (0, 0)) from by rw [hV]; exact blk_put HF1.out 7 _ rfl)
  clear hV HS1 HF1 RS_
  obtain ⟨qf0, qf1, qf2, qf3, qf4, qf5, qf6, qf7, qf8, qf9, qf10, qf11, qf12, qf13, qf14, qf15, qf16, qf17, qf18, qf19, qf20, qf21⟩ := bC11 (Aside0.mk HF.out)
  obtain ⟨qb0, qb1, qb2, qb3, qb4, qb5, qb6, qb7, qb8, qb9, qb10, qb11, qb12, qb13, qb14, qb15, qb16, qb17, qb18, qb19, qb20, qb21⟩ := bC11 (Aside0.mk HS.out.h1)
  go_upto_region 8 with (first | ((with_reducible refine gate_callee (f := 44) rfl ?_); refine goesL_ (some 48) rfl rfl Try.func44 (by kernel_rfl) rfl #[.slice A8 p.f8.length c8] rfl (by (try simp only [List.map_toArray, List.map_cons, List.map_nil]); first | done | rfl) ?_; (with_reducible refine (gatehouselaw08_pairs.calls A8 c8 p.f8 _ _ ?side1 ?side2 (pairs_f p.f8 Sl8)).mono ?_); (case side1 => exact Kd.C_below H8.out HS.out.bel); (case side2 => exact l8); rintro e W6 ⟨v, rfl, ho, hb⟩; refine ⟨v, rfl, ?_⟩; obtain ⟨X8, y8, e1⟩ := Kd.R_slice ho; subst e1; have HS0 := Lib.hid (HS.out.below hb); have HF1 := Lib.hid (blk_below HF.out hb); obtain ⟨L8, hL⟩ : ∃ L, L = p.f8 ++ [mPair] := ⟨_, rfl⟩; rw [← hL] at ho ⊢; have HL8 := Lib.hid hL; have hR := Kd.R_lower ho HS.out.bel.size; have RS_ := Lib.hid (Kd.R_below RS.out hb); clear ho hL; have HS1 := Lib.hid (show RoS w b1 b2 #[.slice A0 p.f0.length c0, .slice A1 p.f1.length c1, .slice A2 p.f2.length c2, .slice A3 p.f3.length c3, .slice A4 p.f4.length c4, .slice A5 p.f5.length c5, .slice A6 p.f6.length c6, .slice A7 p.f7.length c7, .slice A8 p.f8.length c8, .slice A9 p.f9.length c9, .slice A10 p.f10.length c10] #[.slice none 0 0, .slice none 0 0, .slice none 0 0, .slice none 0 0, .slice none 0 0, .slice none 0 0, .slice none 0 0, .slice none 0 0, .slice none 0 0, .slice none 0 0, .slice none 0 0, .slice none 0 0, .slice none 0 0, .slice none 0 0, .slice none 0 0, .slice none 0 0, .slice none 0 0, .slice none 0 0, .slice none 0 0, .slice none 0 0, .slice none 0 0, .slice none 0 0, .slice none 0 0] L0 L2 L3 L4 L5 L6 L7 L8 (.slice X0 L0.length y0) (.slice X2 L2.length y2) (.slice X3 L3.length y3) (.slice X4 L4.length y4) (.slice X5 L5.length y5) (.slice X6 L6.length y6) (.slice X7 L7.length y7) (.slice X8 L8.length y8) W6 from { HS0.out with r8 := hR }); clear hb hR HS0; obtain ⟨qg0, qg1, qg2, qg3, qg4, qg5, qg6, qg7, qg8, qg9, qg10, qg11, qg12, qg13, qg14, qg15, qg16, qg17, qg18, qg19, qg20, qg21⟩ := bC11 (Aside0.mk HF1.out)))
  clear HS HF RS qf0 qf1 qf2 qf3 qf4 qf5 qf6 qf7 qf8 qf9 qf10 qf11 qf12 qf13 qf14 qf15 qf16 qf17 qf18 qf19 qf20 qf21 qb0 qb1 qb2 qb3 qb4 qb5 qb6 qb7 qb8 qb9 qb10 qb11 qb12 qb13 qb14 qb15 qb16 qb17 qb18 qb19 qb20 qb21 qg0 qg1 qg2 qg3 qg4 qg5 qg6 qg7 qg8 qg9 qg10 qg11 qg12 qg13 qg14 qg15 qg16 qg17 qg18 qg19 qg20 qg21
  obtain ⟨V6, hV⟩ : ∃ x, x = W6.setCell ⟨b3, 8, none⟩ (.slice X8 L8.length y8) := ⟨_, rfl⟩
  rw [← hV]
  have HS := Lib.hid (show RoS w b1 b2 #[.slice A0 p.f0.length c0, .slice A1 p.f1.length c1, .slice A2 p.f2.length c2, .slice A3 p.f3.length c3, .slice A4 p.f4.length c4, .slice A5 p.f5.length c5, .slice A6 p.f6.length c6, .slice A7 p.f7.length c7, .slice A8 p.f8.length c8, .slice A9 p.f9.length c9, .slice A10 p.f10.length c10] #[.slice none 0 0, .slice none 0 0, .slice none 0 0, .slice none 0 0, .slice none 0 0, .slice none 0 0, .slice none 0 0, .slice none 0 0, .slice none 0 0, .slice none 0 0, .slice none 0 0, .slice none 0 0, .slice none 0 0, .slice none 0 0, .slice none 0 0, .slice none 0 0, .slice none 0 0, .slice none 0 0, .slice none 0 0, .slice none 0 0, .slice none 0 0, .slice none 0 0, .slice none 0 0] L0 L2 L3 L4 L5 L6 L7 L8 (.slice X0 L0.length y0) (.slice X2 L2.length y2) (.slice X3 L3.length y3) (.slice X4 L4.length y4) (.slice X5 L5.length y5) (.slice X6 L6.length y6) (.slice X7 L7.length y7) (.slice X8 L8.length y8) V6 from by rw [hV]; exact HS1.out.put HF1.out hle n1 n2 (by decide) _ _)
  have RS := Lib.hid (show Kd.R k57 57 V6 w.heap.size (fun _ => True) (.slice Z1 L1.length z1) (L1) from by rw [hV]; exact Kd.R_set RS_.out HF1.out (by decide) _ _)
  have HF := Lib.hid (show V6.heap[b3]? = some (Obj.cells #[.slice X0 L0.length y0, .slice Z1 L1.length z1, .slice X2 L2.length y2, .slice X3 L3.length y3, .slice X4 L4.length y4, .slice X5 L5.length y5, .slice X6 L6.length y6, .slice X7 L7.length y7, .slice X8 L8.length y8, .slice none 0 0, .slice none 0 0] 34 (0, 0)) from by rw [hV]; exact blk_put HF1.out 8 _ rfl)
  clear hV HS1 HF1 RS_
  go_wp2_with fail
  obtain ⟨WL, rfl⟩ : ∃ x, x = V6 := ⟨_, rfl⟩
  go_loopw [4, 5] (fun v i wr => ∃ (k : Nat) (A' : Option Addr) (c' : Nat) (A9' : Option Addr) (c9' : Nat), k ≤ p.f9.length ∧ i = .int .i64 (k : Nat) ∧ v = .slice A' k c' ∧ RoS w b1 b2 #[.slice A0 p.f0.length c0, .slice A1 p.f1.length c1, .slice A2 p.f2.length c2, .slice A3 p.f3.length c3, .slice A4 p.f4.length c4, .slice A5 p.f5.length c5, .slice A6 p.f6.length c6, .slice A7 p.f7.length c7, .slice A8 p.f8.length c8, .slice A9 p.f9.length c9, .slice A10 p.f10.length c10] #[.slice none 0 0, .slice none 0 0, .slice none 0 0, .slice none 0 0, .slice none 0 0, .slice none 0 0, .slice none 0 0, .slice none 0 0, .slice none 0 0, .slice none 0 0, .slice none 0 0, .slice none 0 0, .slice none 0 0, .slice none 0 0, .slice none 0 0, .slice none 0 0, .slice none 0 0, .slice none 0 0, .slice none 0 0, .slice none 0 0, .slice none 0 0, .slice none 0 0, .slice none 0 0] L0 L2 L3 L4 L5 L6 L7 L8 (.slice X0 L0.length y0) (.slice X2 L2.length y2) (.slice X3 L3.length y3) (.slice X4 L4.length y4) (.slice X5 L5.length y5) (.slice X6 L6.length y6) (.slice X7 L7.length y7) (.slice X8 L8.length y8) wr ∧ wr.heap[b3]? = some (Obj.cells #[.slice X0 L0.length y0, .slice Z1 L1.length z1, .slice X2 L2.length y2, .slice X3 L3.length y3, .slice X4 L4.length y4, .slice X5 L5.length y5, .slice X6 L6.length y6, .slice X7 L7.length y7, .slice X8 L8.length y8, .slice A9' k c9', .slice none 0 0] 34 (0, 0)) ∧ Kd.R k57 57 wr w.heap.size (fun _ => True) (.slice Z1 L1.length z1) (L1) ∧ Kd.R (Kd.slice 9 Kd.string) 25 wr w.heap.size (fun _ => True) (.slice A' k c') (actsM (p.f9.take k)) ∧ Kd.R k27 27 wr w.heap.size (fun _ => True) (.slice A9' k c9') (p.f9.take k)) (fun _ i _ => p.f9.length - (intOf i).toNat)
  case atStart => exact ⟨0, none, 0, none, 0, Nat.zero_le _, rfl, rfl, HS.out, HF.out, RS.out, Kd.R_nil _ _ _ _ _, Kd.R_nil _ _ _ _ _⟩
  case round =>
    obtain ⟨k, A', c', A9', c9', hk, rfl, rfl, hs, hf, hrs, hrl, hr9⟩ := hrel
    clear HS HF RS
    have HS := Lib.hid hs
    have HF := Lib.hid hf
    have RS := Lib.hid hrs
    have RL := Lib.hid hrl
    have R9 := Lib.hid hr9
    clear hs hf hrs hrl hr9
    by_cases hlt : k < p.f9.length
    · obtain ⟨ad, AR, cR, hA9, e0, e1, e2, e3, e4, e5, lR, gR⟩ := at_T27 (Kd.C_below H9.out HS.out.bel) (k : Int) (by omega) (by omega)
      obtain ⟨r, hr⟩ : ∃ r, r = rd_T27 p.f9 (k : Int) := ⟨_, rfl⟩
      rw [← hr, Int.toNat_natCast] at e0 e1 e2 e3 e4 e5
      rw [← hr] at lR gR
      have hkr : p.f9[k]? = some r := by rw [hr, rdRule hlt]; exact List.getElem?_eq_getElem hlt
      have hla : r.f3.length ≤ 1048576 := HLA.out _ (List.mem_of_getElem? hkr)
      have HKR := Lib.hid hkr
      have G3 := Lib.hid gR
      subst hA9
      clear hr hkr gR
      obtain ⟨qf0, qf1, qf2, qf3, qf4, qf5, qf6, qf7, qf8, qf9, qf10, qf11, qf12, qf13, qf14, qf15, qf16, qf17, qf18, qf19, qf20, qf21⟩ := bC11 (Aside0.mk HF.out)
      obtain ⟨qb0, qb1, qb2, qb3, qb4, qb5, qb6, qb7, qb8, qb9, qb10, qb11, qb12, qb13, qb14, qb15, qb16, qb17, qb18, qb19, qb20, qb21⟩ := bC11 (Aside0.mk HS.out.h1)
      go_upto_region 13 with (first | ((with_reducible refine gate_dst (N := 6) rfl ?_); refine box_event ?hg (N := 6) ?hd (cs := #[.bool false, .string ⟨#[]⟩, .string ⟨#[]⟩, .slice none 0 0, .int .i8 0, .float .f64 0]) (t := 27) ?hr ?_; (case hd => rfl); (case hg => rfl); (case hr => first | (go_simp; done) | (go_simp; rfl)); intro b6 hg6 w6 hb6 hB6; have hle6 : wr.heap.size ≤ b6 := Nat.le_of_eq hg6.symm; clear hg6) | ((with_reducible refine gate_ (.store 27 (.tmp 6) (.tmp 61)) rfl ?_); go_must (refine bstore (t := 27) (p := 6) (v := .tmp 61) rfl rfl rfl b6 _ #[.bool r.f0, .string r.f1, .string r.f2, .slice AR r.f3.length cR, .int .i8 r.f4, .float .f64 r.f5] (.agg #[.bool r.f0, .string r.f1, .string r.f2, .slice AR r.f3.length cR, .int .i8 r.f4, .float .f64 r.f5]) rfl rfl rfl hb6 size27r rfl (by simp [Value.oneCell']) ?_); intro w7 hb7 hoth hsz hbel; have hB7 := hB6.trans (hbel _ hle6); clear hoth hsz hbel hb6 hB6))
      have n6 : b3 ≠ b6 := by have := blk_lt HF.out; omega
      have n16 : b1 ≠ b6 := by have := blk_lt HS.out.h1; omega
      have n26 : b2 ≠ b6 := by have := blk_lt HS.out.h2; omega
      have hB6 : w.heap.size ≤ b6 := Nat.le_trans HS.out.bel.size hle6
      have HS7 := Lib.hid (HS.out.below hB7)
      have HF7 := Lib.hid (blk_below HF.out hB7)
      have RS7 := Lib.hid (Kd.R_below RS.out hB7)
      have RL7 := Lib.hid (Kd.R_below RL.out hB7)
      have R97 := Lib.hid (Kd.R_below (Kd.R_mono (ok' := fun k => k ≠ b6) (Kd.R_bound R9.out) (fun k hk => by have := hk.2.2.1; omega)) hB7)
      have G7 := Lib.hid (Kd.C_below G3.out hB7)
      have HC7 := Lib.hid hb7
      clear e0 e1 e2 e3 e4 e5 hB7 hb7 HS HF RS RL R9 G3 qf0 qf1 qf2 qf3 qf4 qf5 qf6 qf7 qf8 qf9 qf10 qf11 qf12 qf13 qf14 qf15 qf16 qf17 qf18 qf19 qf20 qf21 qb0 qb1 qb2 qb3 qb4 qb5 qb6 qb7 qb8 qb9 qb10 qb11 qb12 qb13 qb14 qb15 qb16 qb17 qb18 qb19 qb20 qb21
      have c3_ := (blk_cell HC7.out 3).trans (Eq.refl (some (Value.slice AR r.f3.length cR)))
      go_upto_region 14 with ((with_reducible refine gate_callee (f := 43) rfl ?_); refine goesL_ (some 64) rfl rfl Try.func43 (by kernel_rfl) rfl #[.slice AR r.f3.length cR] rfl (by (try simp only [List.map_toArray, List.map_cons, List.map_nil]); first | done | rfl) ?_; (with_reducible refine (gatehouselaw08_longer.calls AR cR r.f3 _ _ ?side1 ?side2 (longer_f r.f3 hla)).mono ?_); (case side1 => exact G7.out); (case side2 => exact lR); rintro e W8 ⟨v, rfl, ho, hb⟩; refine ⟨v, rfl, ?_⟩; obtain ⟨X, y, e1⟩ := Kd.R_slice ho; subst e1; have HS8 := Lib.hid (HS7.out.below hb); have HF8 := Lib.hid (blk_below HF7.out hb); have RS8 := Lib.hid (Kd.R_below RS7.out hb); have RL8 := Lib.hid (Kd.R_below RL7.out hb); have R98 := Lib.hid (Kd.R_below R97.out hb); have HC8 := Lib.hid (blk_below HC7.out hb); have RA8 := Lib.hid (Kd.R_lower ho HS7.out.bel.size); clear ho hb)
      clear c3_ HS7 HF7 RS7 RL7 R97 G7 HC7
      obtain ⟨La, hLa⟩ : ∃ L, L = r.f3 ++ [mark] := ⟨_, rfl⟩
      have hLl : La.length = r.f3.length + 1 := by rw [hLa]; simp
      have hRA := RA8.out
      rw [← hLa] at hRA
      rw [hLl] at hRA
      have HLa := Lib.hid hLa
      have HLl := Lib.hid hLl
      have hyc := (Kd.R_reads' hRA).2.1
      have RA := Lib.hid hRA
      clear hLa hLl hRA RA8
      have hal : (actsM (p.f9.take k)).length = k := by rw [List.length_map, List.length_take]; omega
      have hal2 : (actsM (p.f9.take k) ++ [La]).length = k + 1 := by rw [List.length_append, hal]; rfl
      have HAL := Lib.hid hal
      have HAL2 := Lib.hid hal2
      clear hal hal2
      go_upto_region 15 with ((with_reducible refine gate_builtin (b := .append) (xs := #[.tmp 65, .tmp 67]) rfl ?_); at_builtin; go_must (refine Kd.R_append (Kd.slice 9 Kd.string) (w0 := w) w.heap.size rfl (.tmp 65) (.tmp 67) 37 25 (.slice none 0 0) 24 rfl Try.underlying37 info25r rfl (by decide) (by omega) (.slice A' k c') (actsM (p.f9.take k)) La [.slice X (r.f3.length + 1) y] (fun _ => True) (fun k_ => ∃ cs, W8.heap[k_]? = some (Obj.cells cs 9 (0, 0))) rfl (by first | (go_simp; done) | (go_simp; rfl)) ?aP ?aK ?aF ?aO ?aB ?aS ?aL ?_); go_must (case aP => exact ⟨_, rfl, R_in RA.out⟩); go_must (case aK => exact fun k_ hk_ => ⟨trivial, ne_typed hk_ (R_typed RL8.out) (by decide)⟩); go_must (case aB => exact HS8.out.bel); (case aF => exact (fun _ _ => trivial)); go_must (case aO => exact RL8.out); (case aS => exact HS8.out.bel.size); go_must (case aL => rw [HAL.out]; omega); intro v1 w9 ho hb hg hat; obtain ⟨A1_, c1_, e1⟩ := Kd.R_slice ho; rw [HAL2.out] at e1; subst e1; have HS9 := Lib.hid (HS8.out.grown 25 hg (R_typed RL8.out) hb (by decide)); have HF9 := Lib.hid (blk_gts HF8.out hg (R_typed RL8.out) (by decide : (34 : Nat) ≠ 25)); have HC9 := Lib.hid (blk_gts HC8.out hg (R_typed RL8.out) (by decide : (27 : Nat) ≠ 25)); have RS9 := Lib.hid (R_ts RS8.out (TS.grown (T := [57]) hg (R_typed RL8.out) (by decide)) (by decide)); have R99 := Lib.hid (R_ts R98.out (TS.grown (T := [27, 9]) hg (R_typed RL8.out) (by decide)) (by decide)); have RA9 := Lib.hid (R_ts RA.out (TS.grown (T := [9]) hg (R_typed RL8.out) (by decide)) (by decide)); have RL9 := Lib.hid ho; clear ho hb hg hat)
      clear HS8 HF8 RS8 RL8 R98 HC8 RA
      obtain ⟨u0, u1, u2, u3, u4, u5, z0, z1_, z2, z3, z4, z5⟩ := bC6 (Aside0.mk HC9.out)
      have hcut := cut_to (P := Try.prog) 25 9 .i64 Try.underlying25 (info_parts info9).choose_spec.1 X (r.f3.length + 1) y (r.f3.length : Int) (by omega) (by omega) hyc
      rw [Int.toNat_natCast] at hcut
      go_upto_region 16 with fail
      obtain ⟨wa, hwa⟩ : ∃ x, x = w9.setCell ⟨b6, 3, none⟩ (.slice X r.f3.length y) := ⟨_, rfl⟩
      rw [← hwa]
      have HSa := Lib.hid (show RoS w b1 b2 #[.slice A0 p.f0.length c0, .slice A1 p.f1.length c1, .slice A2 p.f2.length c2, .slice A3 p.f3.length c3, .slice A4 p.f4.length c4, .slice A5 p.f5.length c5, .slice A6 p.f6.length c6, .slice A7 p.f7.length c7, .slice A8 p.f8.length c8, .slice (some ad) p.f9.length c9, .slice A10 p.f10.length c10] #[.slice none 0 0, .slice none 0 0, .slice none 0 0, .slice none 0 0, .slice none 0 0, .slice none 0 0, .slice none 0 0, .slice none 0 0, .slice none 0 0, .slice none 0 0, .slice none 0 0, .slice none 0 0, .slice none 0 0, .slice none 0 0, .slice none 0 0, .slice none 0 0, .slice none 0 0, .slice none 0 0, .slice none 0 0, .slice none 0 0, .slice none 0 0, .slice none 0 0, .slice none 0 0] L0 L2 L3 L4 L5 L6 L7 L8 (.slice X0 L0.length y0) (.slice X2 L2.length y2) (.slice X3 L3.length y3) (.slice X4 L4.length y4) (.slice X5 L5.length y5) (.slice X6 L6.length y6) (.slice X7 L7.length y7) (.slice X8 L8.length y8) wa from by rw [hwa]; exact HS9.out.put HC9.out hB6 n16 n26 (by decide) _ _)
      have HFa := Lib.hid (by rw [hwa]; exact (Below.heap_setCell w9 _ _ b3 n6).trans HF9.out : wa.heap[b3]? = some (Obj.cells #[.slice X0 L0.length y0, .slice Z1 L1.length z1, .slice X2 L2.length y2, .slice X3 L3.length y3, .slice X4 L4.length y4, .slice X5 L5.length y5, .slice X6 L6.length y6, .slice X7 L7.length y7, .slice X8 L8.length y8, .slice A9' k c9', .slice none 0 0] 34 (0, 0)))
      have HCa := Lib.hid (by rw [hwa]; exact blk_put HC9.out 3 _ rfl : wa.heap[b6]? = some (Obj.cells #[.bool r.f0, .string r.f1, .string r.f2, .slice X r.f3.length y, .int .i8 r.f4, .float .f64 r.f5] 27 (0, 0)))
      have RSa := Lib.hid (by rw [hwa]; exact Kd.R_set RS9.out HC9.out (by decide) _ _ : Kd.R k57 57 wa w.heap.size (fun _ => True) (.slice Z1 L1.length z1) (L1))
      have RLa := Lib.hid (by rw [hwa]; exact Kd.R_set RL9.out HC9.out (by decide) _ _ : Kd.R (Kd.slice 9 Kd.string) 25 wa w.heap.size (fun _ => True) (.slice A1_ (k + 1) c1_) (actsM (p.f9.take k) ++ [La]))
      have R9a := Lib.hid (by rw [hwa]; exact R_all (Kd.R_far (p := ⟨b6, 3, none⟩) R99.out (fun k hk => hk) _) : Kd.R k27 27 wa w.heap.size (fun _ => True) (.slice A9' k c9') (p.f9.take k))
      have hT : Kd.R Kd.string 9 wa w.heap.size (fun _ => True) (.slice X r.f3.length y) r.f3 := by
        have h := Kd.R_take (Kd.R_set RA9.out HC9.out (by decide) 3 (.slice X r.f3.length y)) (m := r.f3.length) (by rw [HLl.out]; omega)
        rw [show La.take r.f3.length = r.f3 from by rw [HLa.out]; simp] at h
        rw [hwa]
        exact h
      have HT := Lib.hid hT
      have h9l : (p.f9.take k).length = k := by rw [List.length_take]; omega
      have h9l2 : (p.f9.take k ++ [r]).length = k + 1 := by rw [List.length_append, h9l]; rfl
      have H9L := Lib.hid h9l
      have H9L2 := Lib.hid h9l2
      clear hT h9l h9l2 hwa hcut u0 u1 u2 u3 u4 u5 z0 z1_ z2 z3 z4 z5 HS9 HF9 HC9 RS9 RL9 R99 RA9
      obtain ⟨qf0, qf1, qf2, qf3, qf4, qf5, qf6, qf7, qf8, qf9, qf10, qf11, qf12, qf13, qf14, qf15, qf16, qf17, qf18, qf19, qf20, qf21⟩ := bC11 (Aside0.mk HFa.out)
      obtain ⟨u0, u1, u2, u3, u4, u5, z0, z1_, z2, z3, z4, z5⟩ := bC6 (Aside0.mk HCa.out)
      go_upto_region 11 with ((with_reducible refine gate_builtin (b := .append) (xs := #[.tmp 76, .tmp 78]) rfl ?_); at_builtin; go_must (refine Kd.R_append k27 (w0 := w) w.heap.size rfl (.tmp 76) (.tmp 78) 31 27 (.agg #[.bool false, .string ⟨#[]⟩, .string ⟨#[]⟩, .slice none 0 0, .int .i8 0, .float .f64 0]) 80 rfl Try.underlying31 info27 rfl (by decide) (by omega) (.slice A9' k c9') (p.f9.take k) r [.bool r.f0, .string r.f1, .string r.f2, .slice X r.f3.length y, .int .i8 r.f4, .float .f64 r.f5] (fun _ => True) (fun k_ => ∃ cs, wa.heap[k_]? = some (Obj.cells cs 9 (0, 0))) rfl (by first | (go_simp; done) | (go_simp; rfl)) ?aP ?aK ?aF ?aO ?aB ?aS ?aL ?_); go_must (case aP => exact k27_mkM _ _ _ r (R_in HT.out)); go_must (case aK => exact fun k_ hk_ => ⟨trivial, ne_typed hk_ (R_typed R9a.out) (by decide)⟩); go_must (case aB => exact HSa.out.bel); (case aF => exact (fun _ _ => trivial)); go_must (case aO => exact R9a.out); (case aS => exact HSa.out.bel.size); go_must (case aL => rw [H9L.out]; omega); intro v1 w10 ho hb hg hat; obtain ⟨A9_, c9_, e1⟩ := Kd.R_slice ho; rw [H9L2.out] at e1; subst e1; have HSb := Lib.hid (HSa.out.grown 27 hg (R_typed R9a.out) hb (by decide)); have HFb := Lib.hid (blk_gts HFa.out hg (R_typed R9a.out) (by decide : (34 : Nat) ≠ 27)); have RSb := Lib.hid (R_ts RSa.out (TS.grown (T := [57]) hg (R_typed R9a.out) (by decide)) (by decide)); have RLb := Lib.hid (R_ts RLa.out (TS.grown (T := [25, 9]) hg (R_typed R9a.out) (by decide)) (by decide)); have R9b := Lib.hid ho; clear ho hb hg hat; obtain ⟨qg0, qg1, qg2, qg3, qg4, qg5, qg6, qg7, qg8, qg9, qg10, qg11, qg12, qg13, qg14, qg15, qg16, qg17, qg18, qg19, qg20, qg21⟩ := bC11 (Aside0.mk HFb.out))
      obtain ⟨wz, hwz⟩ : ∃ x, x = w10.setCell ⟨b3, 9, none⟩ (.slice A9_ (k + 1) c9_) := ⟨_, rfl⟩
      rw [← hwz]
      have HSz := Lib.hid (show RoS w b1 b2 #[.slice A0 p.f0.length c0, .slice A1 p.f1.length c1, .slice A2 p.f2.length c2, .slice A3 p.f3.length c3, .slice A4 p.f4.length c4, .slice A5 p.f5.length c5, .slice A6 p.f6.length c6, .slice A7 p.f7.length c7, .slice A8 p.f8.length c8, .slice (some ad) p.f9.length c9, .slice A10 p.f10.length c10] #[.slice none 0 0, .slice none 0 0, .slice none 0 0, .slice none 0 0, .slice none 0 0, .slice none 0 0, .slice none 0 0, .slice none 0 0, .slice none 0 0, .slice none 0 0, .slice none 0 0, .slice none 0 0, .slice none 0 0, .slice none 0 0, .slice none 0 0, .slice none 0 0, .slice none 0 0, .slice none 0 0, .slice none 0 0, .slice none 0 0, .slice none 0 0, .slice none 0 0, .slice none 0 0] L0 L2 L3 L4 L5 L6 L7 L8 (.slice X0 L0.length y0) (.slice X2 L2.length y2) (.slice X3 L3.length y3) (.slice X4 L4.length y4) (.slice X5 L5.length y5) (.slice X6 L6.length y6) (.slice X7 L7.length y7) (.slice X8 L8.length y8) wz from by rw [hwz]; exact HSb.out.put HFb.out hle n1 n2 (by decide) _ _)
      have HFz := Lib.hid (by rw [hwz]; exact blk_put HFb.out 9 _ rfl : wz.heap[b3]? = some (Obj.cells #[.slice X0 L0.length y0, .slice Z1 L1.length z1, .slice X2 L2.length y2, .slice X3 L3.length y3, .slice X4 L4.length y4, .slice X5 L5.length y5, .slice X6 L6.length y6, .slice X7 L7.length y7, .slice X8 L8.length y8, .slice A9_ (k + 1) c9_, .slice none 0 0] 34 (0, 0)))
      have RSz := Lib.hid (by rw [hwz]; exact Kd.R_set RSb.out HFb.out (by decide) _ _ : Kd.R k57 57 wz w.heap.size (fun _ => True) (.slice Z1 L1.length z1) (L1))
      have RLz := Lib.hid (by rw [hwz]; exact Kd.R_set RLb.out HFb.out (by decide) _ _ : Kd.R (Kd.slice 9 Kd.string) 25 wz w.heap.size (fun _ => True) (.slice A1_ (k + 1) c1_) (actsM (p.f9.take k) ++ [La]))
      have R9z := Lib.hid (by rw [hwz]; exact Kd.R_set R9b.out HFb.out (by decide) _ _ : Kd.R k27 27 wz w.heap.size (fun _ => True) (.slice A9_ (k + 1) c9_) (p.f9.take k ++ [r]))
      clear hwz u0 u1 u2 u3 u4 u5 z0 z1_ z2 z3 z4 z5 HSa HFa HCa RSa RLa R9a HT HSb HFb RSb RLb R9b qf0 qf1 qf2 qf3 qf4 qf5 qf6 qf7 qf8 qf9 qf10 qf11 qf12 qf13 qf14 qf15 qf16 qf17 qf18 qf19 qf20 qf21 qg0 qg1 qg2 qg3 qg4 qg5 qg6 qg7 qg8 qg9 qg10 qg11 qg12 qg13 qg14 qg15 qg16 qg17 qg18 qg19 qg20 qg21
      go_wp2_with fail
      go_roundw
      case rel =>
        have e1 : p.f9.take (k + 1) = p.f9.take k ++ [r] := by rw [List.take_add_one, HKR.out]; rfl
        have e2 : actsM (p.f9.take (k + 1)) = actsM (p.f9.take k) ++ [La] := by rw [e1, HLa.out]; simp [actsM]
        exact ⟨k + 1, A1_, c1_, A9_, c9_, hlt, by go_num, rfl, HSz.out, HFz.out, RSz.out, by rw [e2]; exact RLz.out, by rw [e1]; exact R9z.out⟩
      case measure => simp [intOf]; omega
    · obtain rfl : k = p.f9.length := by omega
      obtain ⟨WA, rfl⟩ : ∃ x, x = wr := ⟨wr, rfl⟩
      have h_ := RL.out
      rw [List.take_length] at h_
      clear RL
      have RL := Lib.hid h_
      clear h_
      have h_ := R9.out
      rw [List.take_length] at h_
      clear R9
      have R9 := Lib.hid h_
      clear h_
      clear hlt hk
      obtain ⟨qf0, qf1, qf2, qf3, qf4, qf5, qf6, qf7, qf8, qf9, qf10, qf11, qf12, qf13, qf14, qf15, qf16, qf17, qf18, qf19, qf20, qf21⟩ := bC11 (Aside0.mk HF.out)
      obtain ⟨qb0, qb1, qb2, qb3, qb4, qb5, qb6, qb7, qb8, qb9, qb10, qb11, qb12, qb13, qb14, qb15, qb16, qb17, qb18, qb19, qb20, qb21⟩ := bC11 (Aside0.mk HS.out.h1)
      go_upto_region 18 with ((with_reducible refine gate_builtin (b := .append) (xs := #[.tmp 82, .tmp 84]) rfl ?_); at_builtin; go_must (refine Kd.R_append k27 (w0 := w) w.heap.size rfl (.tmp 82) (.tmp 84) 31 27 (.agg #[.bool false, .string ⟨#[]⟩, .string ⟨#[]⟩, .slice none 0 0, .int .i8 0, .float .f64 0]) 80 rfl Try.underlying31 info27 rfl (by decide) (by omega) (.slice A9' p.f9.length c9') (p.f9) mRule [.bool false, .string (⟨#[35]⟩ : ByteArray), .string (⟨#[]⟩ : ByteArray), .slice none 0 0, .int .i8 0, .float .f64 0] (fun _ => True) (fun _ => False) rfl (by first | (go_simp; done) | (go_simp; rfl)) ?aP (fun _ hk => hk.elim) ?aF ?aO ?aB ?aS ?aL ?_); go_must (case aP => exact k27_mkM _ _ _ mRule (Kd.R_nil _ _ _ _ _)); (case aB => exact HS.out.bel); (case aF => exact (fun _ _ => trivial)); go_must (case aO => exact R9.out); (case aS => exact HS.out.bel.size); go_must (case aL => omega); intro v1 w11 ho hb hg hat; obtain ⟨ZZL9, zzL9, e1⟩ := Kd.R_slice ho; subst e1; have HS1 := Lib.hid (HS.out.grown 27 hg (R_typed R9.out) hb (by decide)); have HF1 := Lib.hid (blk_gts HF.out hg (R_typed R9.out) (by decide : (34 : Nat) ≠ 27)); have RS_ := Lib.hid (R_ts RS.out (TS.grown (T := [57]) hg (R_typed R9.out) (by decide)) (by decide)); have RL_ := Lib.hid (R_ts RL.out (TS.grown (T := [25, 9]) hg (R_typed R9.out) (by decide)) (by decide)); obtain ⟨L9, hL1⟩ : ∃ L, L = p.f9 ++ [mRule] := ⟨_, rfl⟩; rw [← hL1] at ho ⊢; have HL9 := Lib.hid hL1; have R9_ := Lib.hid ho; clear ho hb hg hat hL1; obtain ⟨qg0, qg1, qg2, qg3, qg4, qg5, qg6, qg7, qg8, qg9, qg10, qg11, qg12, qg13, qg14, qg15, qg16, qg17, qg18, qg19, qg20, qg21⟩ := bC11 (Aside0.mk HF1.out))
      clear HS HF RS RL R9 qf0 qf1 qf2 qf3 qf4 qf5 qf6 qf7 qf8 qf9 qf10 qf11 qf12 qf13 qf14 qf15 qf16 qf17 qf18 qf19 qf20 qf21 qb0 qb1 qb2 qb3 qb4 qb5 qb6 qb7 qb8 qb9 qb10 qb11 qb12 qb13 qb14 qb15 qb16 qb17 qb18 qb19 qb20 qb21 qg0 qg1 qg2 qg3 qg4 qg5 qg6 qg7 qg8 qg9 qg10 qg11 qg12 qg13 qg14 qg15 qg16 qg17 qg18 qg19 qg20 qg21
      obtain ⟨V7, hV⟩ : ∃ x, x = w11.setCell ⟨b3, 9, none⟩ (.slice ZZL9 L9.length zzL9) := ⟨_, rfl⟩
      rw [← hV]
      have HS := Lib.hid (show RoS w b1 b2 #[.slice A0 p.f0.length c0, .slice A1 p.f1.length c1, .slice A2 p.f2.length c2, .slice A3 p.f3.length c3, .slice A4 p.f4.length c4, .slice A5 p.f5.length c5, .slice A6 p.f6.length c6, .slice A7 p.f7.length c7, .slice A8 p.f8.length c8, .slice A9 p.f9.length c9, .slice A10 p.f10.length c10] #[.slice none 0 0, .slice none 0 0, .slice none 0 0, .slice none 0 0, .slice none 0 0, .slice none 0 0, .slice none 0 0, .slice none 0 0, .slice none 0 0, .slice none 0 0, .slice none 0 0, .slice none 0 0, .slice none 0 0, .slice none 0 0, .slice none 0 0, .slice none 0 0, .slice none 0 0, .slice none 0 0, .slice none 0 0, .slice none 0 0, .slice none 0 0, .slice none 0 0, .slice none 0 0] L0 L2 L3 L4 L5 L6 L7 L8 (.slice X0 L0.length y0) (.slice X2 L2.length y2) (.slice X3 L3.length y3) (.slice X4 L4.length y4) (.slice X5 L5.length y5) (.slice X6 L6.length y6) (.slice X7 L7.length y7) (.slice X8 L8.length y8) V7 from by rw [hV]; exact HS1.out.put HF1.out hle n1 n2 (by decide) _ _)
      have RS := Lib.hid (show Kd.R k57 57 V7 w.heap.size (fun _ => True) (.slice Z1 L1.length z1) (L1) from by rw [hV]; exact Kd.R_set RS_.out HF1.out (by decide) _ _)
      have RL := Lib.hid (show Kd.R (Kd.slice 9 Kd.string) 25 V7 w.heap.size (fun _ => True) (.slice A' p.f9.length c') (actsM p.f9) from by rw [hV]; exact Kd.R_set RL_.out HF1.out (by decide) _ _)
      have R9 := Lib.hid (show Kd.R k27 27 V7 w.heap.size (fun _ => True) (.slice ZZL9 L9.length zzL9) (L9) from by rw [hV]; exact Kd.R_set R9_.out HF1.out (by decide) _ _)
      have HF := Lib.hid (show V7.heap[b3]? = some (Obj.cells #[.slice X0 L0.length y0, .slice Z1 L1.length z1, .slice X2 L2.length y2, .slice X3 L3.length y3, .slice X4 L4.length y4, .slice X5 L5.length y5, .slice X6 L6.length y6, .slice X7 L7.length y7, .slice X8 L8.length y8, .slice ZZL9 L9.length zzL9, .slice none 0 0] 34 (0, 0)) from by rw [hV]; exact blk_put HF1.out 9 _ rfl)
      clear hV HS1 HF1 RS_ RL_ R9_
      obtain ⟨qf0, qf1, qf2, qf3, qf4, qf5, qf6, qf7, qf8, qf9, qf10, qf11, qf12, qf13, qf14, qf15, qf16, qf17, qf18, qf19, qf20, qf21⟩ := bC11 (Aside0.mk HF.out)
      obtain ⟨qb0, qb1, qb2, qb3, qb4, qb5, qb6, qb7, qb8, qb9, qb10, qb11, qb12, qb13, qb14, qb15, qb16, qb17, qb18, qb19, qb20, qb21⟩ := bC11 (Aside0.mk HS.out.h1)
      go_upto_region 19 with ((with_reducible refine gate_builtin (b := .append) (xs := #[.tmp 88, .tmp 90]) rfl ?_); at_builtin; go_must (refine Kd.R_append_rows k36 (w0 := w) w.heap.size rfl (.tmp 88) (.tmp 90) 32 36 (.agg #[(.string ⟨#[]⟩), (.string ⟨#[]⟩), (.string ⟨#[]⟩)]) 48 rfl Try.underlying32 info36 rfl (by decide) (by omega) (.slice none 0 0) ([] : List Tri) p.f10 _ _ _ (fun _ => True) (fun _ => False) rfl rfl ?aO ?aR (fun _ _ h => h) (fun _ h => h.elim) ?aF ?aB ?aS ?aL ?_); go_must (case aR => exact Kd.C_below H10.out HS.out.bel); (case aB => exact HS.out.bel); (case aF => exact (fun _ _ => trivial)); (case aO => exact Kd.R_nil _ _ _ _ _); (case aS => exact HS.out.bel.size); go_must (case aL => simp; omega); intro v1 w12 ho hb hg hat; go_must (rw [List.nil_append] at ho); obtain ⟨X10, y10, e1⟩ := Kd.R_slice ho; subst e1; go_must (have HS1 := Lib.hid (HS.out.grown 36 hg nil_row hb (by decide)); have HF1 := Lib.hid (blk_gts HF.out hg nil_row (by decide : (34 : Nat) ≠ 36)); have RS_ := Lib.hid (R_ts RS.out (TS.grown (T := [57]) hg (nil_row (e := 36)) (by decide)) (by decide)); have RL_ := Lib.hid (R_ts RL.out (TS.grown (T := [25, 9]) hg (nil_row (e := 36)) (by decide)) (by decide)); have R9_ := Lib.hid (R_ts R9.out (TS.grown (T := [27, 9]) hg (nil_row (e := 36)) (by decide)) (by decide)); have RX_ := Lib.hid ho; clear ho hb hg hat); obtain ⟨qg0, qg1, qg2, qg3, qg4, qg5, qg6, qg7, qg8, qg9, qg10, qg11, qg12, qg13, qg14, qg15, qg16, qg17, qg18, qg19, qg20, qg21⟩ := bC11 (Aside0.mk HF1.out))
      clear HS HF RS RL R9 qf0 qf1 qf2 qf3 qf4 qf5 qf6 qf7 qf8 qf9 qf10 qf11 qf12 qf13 qf14 qf15 qf16 qf17 qf18 qf19 qf20 qf21 qb0 qb1 qb2 qb3 qb4 qb5 qb6 qb7 qb8 qb9 qb10 qb11 qb12 qb13 qb14 qb15 qb16 qb17 qb18 qb19 qb20 qb21 qg0 qg1 qg2 qg3 qg4 qg5 qg6 qg7 qg8 qg9 qg10 qg11 qg12 qg13 qg14 qg15 qg16 qg17 qg18 qg19 qg20 qg21
      obtain ⟨V8, hV⟩ : ∃ x, x = w12.setCell ⟨b3, 10, none⟩ (.slice X10 p.f10.length y10) := ⟨_, rfl⟩
      rw [← hV]
      have HS := Lib.hid (show RoS w b1 b2 #[.slice A0 p.f0.length c0, .slice A1 p.f1.length c1, .slice A2 p.f2.length c2, .slice A3 p.f3.length c3, .slice A4 p.f4.length c4, .slice A5 p.f5.length c5, .slice A6 p.f6.length c6, .slice A7 p.f7.length c7, .slice A8 p.f8.length c8, .slice A9 p.f9.length c9, .slice A10 p.f10.length c10] #[.slice none 0 0, .slice none 0 0, .slice none 0 0, .slice none 0 0, .slice none 0 0, .slice none 0 0, .slice none 0 0, .slice none 0 0, .slice none 0 0, .slice none 0 0, .slice none 0 0, .slice none 0 0, .slice none 0 0, .slice none 0 0, .slice none 0 0, .slice none 0 0, .slice none 0 0, .slice none 0 0, .slice none 0 0, .slice none 0 0, .slice none 0 0, .slice none 0 0, .slice none 0 0] L0 L2 L3 L4 L5 L6 L7 L8 (.slice X0 L0.length y0) (.slice X2 L2.length y2) (.slice X3 L3.length y3) (.slice X4 L4.length y4) (.slice X5 L5.length y5) (.slice X6 L6.length y6) (.slice X7 L7.length y7) (.slice X8 L8.length y8) V8 from by rw [hV]; exact HS1.out.put HF1.out hle n1 n2 (by decide) _ _)
      have RS := Lib.hid (show Kd.R k57 57 V8 w.heap.size (fun _ => True) (.slice Z1 L1.length z1) (L1) from by rw [hV]; exact Kd.R_set RS_.out HF1.out (by decide) _ _)
      have RL := Lib.hid (show Kd.R (Kd.slice 9 Kd.string) 25 V8 w.heap.size (fun _ => True) (.slice A' p.f9.length c') (actsM p.f9) from by rw [hV]; exact Kd.R_set RL_.out HF1.out (by decide) _ _)
      have R9 := Lib.hid (show Kd.R k27 27 V8 w.heap.size (fun _ => True) (.slice ZZL9 L9.length zzL9) (L9) from by rw [hV]; exact Kd.R_set R9_.out HF1.out (by decide) _ _)
      have RX := Lib.hid (show Kd.R k36 36 V8 w.heap.size (fun _ => True) (.slice X10 p.f10.length y10) (p.f10) from by rw [hV]; exact Kd.R_set RX_.out HF1.out (by decide) _ _)
      have HF := Lib.hid (show V8.heap[b3]? = some (Obj.cells #[.slice X0 L0.length y0, .slice Z1 L1.length z1, .slice X2 L2.length y2, .slice X3 L3.length y3, .slice X4 L4.length y4, .slice X5 L5.length y5, .slice X6 L6.length y6, .slice X7 L7.length y7, .slice X8 L8.length y8, .slice ZZL9 L9.length zzL9, .slice X10 p.f10.length y10] 34 (0, 0)) from by rw [hV]; exact blk_put HF1.out 10 _ rfl)
      clear hV HS1 HF1 RS_ RL_ R9_ RX_
      obtain ⟨qf0, qf1, qf2, qf3, qf4, qf5, qf6, qf7, qf8, qf9, qf10, qf11, qf12, qf13, qf14, qf15, qf16, qf17, qf18, qf19, qf20, qf21⟩ := bC11 (Aside0.mk HF.out)
      obtain ⟨qb0, qb1, qb2, qb3, qb4, qb5, qb6, qb7, qb8, qb9, qb10, qb11, qb12, qb13, qb14, qb15, qb16, qb17, qb18, qb19, qb20, qb21⟩ := bC11 (Aside0.mk HS.out.h1)
      go_upto_region 20 with ((with_reducible refine gate_builtin (b := .append) (xs := #[.tmp 94, .tmp 96]) rfl ?_); at_builtin; go_must (refine Kd.R_append k36 (w0 := w) w.heap.size rfl (.tmp 94) (.tmp 96) 32 36 (.agg #[(.string ⟨#[]⟩), (.string ⟨#[]⟩), (.string ⟨#[]⟩)]) 48 rfl Try.underlying32 info36 rfl (by decide) (by omega) (.slice X10 p.f10.length y10) (p.f10) mTri [.string (⟨#[35]⟩ : ByteArray), .string (⟨#[]⟩ : ByteArray), .string (⟨#[]⟩ : ByteArray)] (fun _ => True) (fun _ => False) rfl (by first | (go_simp; done) | (go_simp; rfl)) ?aP (fun _ hk => hk.elim) ?aF ?aO ?aB ?aS ?aL ?_); go_must (case aP => exact k36_mkM _ _ _ mTri); (case aB => exact HS.out.bel); (case aF => exact (fun _ _ => trivial)); go_must (case aO => exact RX.out); (case aS => exact HS.out.bel.size); go_must (case aL => omega); intro v1 w13 ho hb hg hat; obtain ⟨ZZL10, zzL10, e1⟩ := Kd.R_slice ho; subst e1; have HS1 := Lib.hid (HS.out.grown 36 hg (R_typed RX.out) hb (by decide)); have HF1 := Lib.hid (blk_gts HF.out hg (R_typed RX.out) (by decide : (34 : Nat) ≠ 36)); have RS_ := Lib.hid (R_ts RS.out (TS.grown (T := [57]) hg (R_typed RX.out) (by decide)) (by decide)); have RL_ := Lib.hid (R_ts RL.out (TS.grown (T := [25, 9]) hg (R_typed RX.out) (by decide)) (by decide)); have R9_ := Lib.hid (R_ts R9.out (TS.grown (T := [27, 9]) hg (R_typed RX.out) (by decide)) (by decide)); obtain ⟨L10, hL1⟩ : ∃ L, L = p.f10 ++ [mTri] := ⟨_, rfl⟩; rw [← hL1] at ho ⊢; have HL10 := Lib.hid hL1; have RX_ := Lib.hid ho; clear ho hb hg hat hL1; obtain ⟨qg0, qg1, qg2, qg3, qg4, qg5, qg6, qg7, qg8, qg9, qg10, qg11, qg12, qg13, qg14, qg15, qg16, qg17, qg18, qg19, qg20, qg21⟩ := bC11 (Aside0.mk HF1.out))
      clear HS HF RS RL R9 RX qf0 qf1 qf2 qf3 qf4 qf5 qf6 qf7 qf8 qf9 qf10 qf11 qf12 qf13 qf14 qf15 qf16 qf17 qf18 qf19 qf20 qf21 qb0 qb1 qb2 qb3 qb4 qb5 qb6 qb7 qb8 qb9 qb10 qb11 qb12 qb13 qb14 qb15 qb16 qb17 qb18 qb19 qb20 qb21 qg0 qg1 qg2 qg3 qg4 qg5 qg6 qg7 qg8 qg9 qg10 qg11 qg12 qg13 qg14 qg15 qg16 qg17 qg18 qg19 qg20 qg21
      obtain ⟨V9, hV⟩ : ∃ x, x = w13.setCell ⟨b3, 10, none⟩ (.slice ZZL10 L10.length zzL10) := ⟨_, rfl⟩
      rw [← hV]
      have HS := Lib.hid (show RoS w b1 b2 #[.slice A0 p.f0.length c0, .slice A1 p.f1.length c1, .slice A2 p.f2.length c2, .slice A3 p.f3.length c3, .slice A4 p.f4.length c4, .slice A5 p.f5.length c5, .slice A6 p.f6.length c6, .slice A7 p.f7.length c7, .slice A8 p.f8.length c8, .slice A9 p.f9.length c9, .slice A10 p.f10.length c10] #[.slice none 0 0, .slice none 0 0, .slice none 0 0, .slice none 0 0, .slice none 0 0, .slice none 0 0, .slice none 0 0, .slice none 0 0, .slice none 0 0, .slice none 0 0, .slice none 0 0, .slice none 0 0, .slice none 0 0, .slice none 0 0, .slice none 0 0, .slice none 0 0, .slice none 0 0, .slice none 0 0, .slice none 0 0, .slice none 0 0, .slice none 0 0, .slice none 0 0, .slice none 0 0] L0 L2 L3 L4 L5 L6 L7 L8 (.slice X0 L0.length y0) (.slice X2 L2.length y2) (.slice X3 L3.length y3) (.slice X4 L4.length y4) (.slice X5 L5.length y5) (.slice X6 L6.length y6) (.slice X7 L7.length y7) (.slice X8 L8.length y8) V9 from by rw [hV]; exact HS1.out.put HF1.out hle n1 n2 (by decide) _ _)
      have RS := Lib.hid (show Kd.R k57 57 V9 w.heap.size (fun _ => True) (.slice Z1 L1.length z1) (L1) from by rw [hV]; exact Kd.R_set RS_.out HF1.out (by decide) _ _)
      have RL := Lib.hid (show Kd.R (Kd.slice 9 Kd.string) 25 V9 w.heap.size (fun _ => True) (.slice A' p.f9.length c') (actsM p.f9) from by rw [hV]; exact Kd.R_set RL_.out HF1.out (by decide) _ _)
      have R9 := Lib.hid (show Kd.R k27 27 V9 w.heap.size (fun _ => True) (.slice ZZL9 L9.length zzL9) (L9) from by rw [hV]; exact Kd.R_set R9_.out HF1.out (by decide) _ _)
      have RX := Lib.hid (show Kd.R k36 36 V9 w.heap.size (fun _ => True) (.slice ZZL10 L10.length zzL10) (L10) from by rw [hV]; exact Kd.R_set RX_.out HF1.out (by decide) _ _)
      have HF := Lib.hid (show V9.heap[b3]? = some (Obj.cells #[.slice X0 L0.length y0, .slice Z1 L1.length z1, .slice X2 L2.length y2, .slice X3 L3.length y3, .slice X4 L4.length y4, .slice X5 L5.length y5, .slice X6 L6.length y6, .slice X7 L7.length y7, .slice X8 L8.length y8, .slice ZZL9 L9.length zzL9, .slice ZZL10 L10.length zzL10] 34 (0, 0)) from by rw [hV]; exact blk_put HF1.out 10 _ rfl)
      clear hV HS1 HF1 RS_ RL_ R9_ RX_
      have K0 : p.f0.length ≤ L0.length := by rw [HL0.out]; simp
      have K1 : p.f1.length ≤ L1.length := by rw [HL1.out]; simp
      have K2 : p.f2.length ≤ L2.length := by rw [HL2.out]; simp
      have K3 : p.f3.length ≤ L3.length := by rw [HL3.out]; simp
      have K4 : p.f4.length ≤ L4.length := by rw [HL4.out]; simp
      have K5 : p.f5.length ≤ L5.length := by rw [HL5.out]; simp
      have K6 : p.f6.length ≤ L6.length := by rw [HL6.out]; simp
      have K7 : p.f7.length ≤ L7.length := by rw [HL7.out]; simp
      have K8 : p.f8.length ≤ L8.length := by rw [HL8.out]; simp
      have K9 : p.f9.length ≤ L9.length := by rw [HL9.out]; simp
      have K10 : p.f10.length ≤ L10.length := by rw [HL10.out]; simp
      have Y0 := (Kd.R_reads' HS.out.r0).2.1
      have Y1 := (Kd.R_reads' RS.out).2.1
      have Y2 := (Kd.R_reads' HS.out.r2).2.1
      have Y3 := (Kd.R_reads' HS.out.r3).2.1
      have Y4 := (Kd.R_reads' HS.out.r4).2.1
      have Y5 := (Kd.R_reads' HS.out.r5).2.1
      have Y6 := (Kd.R_reads' HS.out.r6).2.1
      have Y7 := (Kd.R_reads' HS.out.r7).2.1
      have Y8 := (Kd.R_reads' HS.out.r8).2.1
      have Y9 := (Kd.R_reads' R9.out).2.1
      have Y10 := (Kd.R_reads' RX.out).2.1
      refine ro20 rfl rfl rfl rfl HS.out.h1 HF.out K0 Y0 K1 Y1 K2 Y2 K3 Y3 K4 Y4 ?_
      intro xs2 b8 WG hBG hx8 hle8 hg8
      simp only [putZ, Act.put, List.setIfInBounds_toArray, List.set_cons_zero, List.set_cons_succ]
      rw [hx8]
      clear hx8
      have n18 : b1 ≠ b8 := by have := blk_lt HS.out.h1; omega
      have n28 : b2 ≠ b8 := by have := blk_lt HS.out.h2; omega
      have n38 : b3 ≠ b8 := by have := blk_lt HF.out; omega
      have hB8 : w.heap.size ≤ b8 := Nat.le_trans HS.out.bel.size hle8
      have HS0 := HS
      have HF0 := HF
      have RS0 := RS
      have RL0 := RL
      have R90 := R9
      have RX0 := RX
      clear HS HF RS RL R9 RX
      have HS := Lib.hid (HS0.out.below hBG)
      have HF := Lib.hid (blk_below HF0.out hBG)
      have RS := Lib.hid (Kd.R_below RS0.out hBG)
      have RL := Lib.hid (Kd.R_below RL0.out hBG)
      have R9 := Lib.hid (Kd.R_below R90.out hBG)
      have RX := Lib.hid (Kd.R_below RX0.out hBG)
      have HG := Lib.hid (show WG.heap[b8]? = some (Obj.cells #[.slice X0 p.f0.length y0, .slice Z1 p.f1.length z1, .slice X2 p.f2.length y2, .slice X3 p.f3.length y3, .slice X4 p.f4.length y4, .slice none 0 0, .slice none 0 0, .slice none 0 0, .slice none 0 0, .slice none 0 0, .slice none 0 0] 34 (0, 0)) from hg8)
      clear hBG hle8 hg8 HS0 HF0 RS0 RL0 R90 RX0
      obtain ⟨qf0, qf1, qf2, qf3, qf4, qf5, qf6, qf7, qf8, qf9, qf10, qf11, qf12, qf13, qf14, qf15, qf16, qf17, qf18, qf19, qf20, qf21⟩ := bC11 (Aside0.mk HF.out); obtain ⟨qb0, qb1, qb2, qb3, qb4, qb5, qb6, qb7, qb8, qb9, qb10, qb11, qb12, qb13, qb14, qb15, qb16, qb17, qb18, qb19, qb20, qb21⟩ := bC11 (Aside0.mk HS.out.h1); obtain ⟨qg0, qg1, qg2, qg3, qg4, qg5, qg6, qg7, qg8, qg9, qg10, qg11, qg12, qg13, qg14, qg15, qg16, qg17, qg18, qg19, qg20, qg21⟩ := bC11 (Aside0.mk HG.out)
      have hcut := cut_to (P := Try.prog) 30 86 .i64 Try.underlying30 (info_parts info86).choose_spec.1 X5 L5.length y5 (p.f5.length : Int) (by omega) (by omega) Y5
      rw [Int.toNat_natCast] at hcut
      go_upto_region 22 with fail
      obtain ⟨V10, hV⟩ : ∃ x, x = WG.setCell ⟨b8, 5, none⟩ (.slice X5 p.f5.length y5) := ⟨_, rfl⟩
      rw [← hV]
      have HS_ := Lib.hid (show RoS w b1 b2 #[.slice A0 p.f0.length c0, .slice A1 p.f1.length c1, .slice A2 p.f2.length c2, .slice A3 p.f3.length c3, .slice A4 p.f4.length c4, .slice A5 p.f5.length c5, .slice A6 p.f6.length c6, .slice A7 p.f7.length c7, .slice A8 p.f8.length c8, .slice A9 p.f9.length c9, .slice A10 p.f10.length c10] #[.slice none 0 0, .slice none 0 0, .slice none 0 0, .slice none 0 0, .slice none 0 0, .slice none 0 0, .slice none 0 0, .slice none 0 0, .slice none 0 0, .slice none 0 0, .slice none 0 0, .slice none 0 0, .slice none 0 0, .slice none 0 0, .slice none 0 0, .slice none 0 0, .slice none 0 0, .slice none 0 0, .slice none 0 0, .slice none 0 0, .slice none 0 0, .slice none 0 0, .slice none 0 0] L0 L2 L3 L4 L5 L6 L7 L8 (.slice X0 L0.length y0) (.slice X2 L2.length y2) (.slice X3 L3.length y3) (.slice X4 L4.length y4) (.slice X5 L5.length y5) (.slice X6 L6.length y6) (.slice X7 L7.length y7) (.slice X8 L8.length y8) V10 from by rw [hV]; exact HS.out.put HG.out hB8 n18 n28 (by decide) _ _)
      have RS_ := Lib.hid (show Kd.R k57 57 V10 w.heap.size (fun _ => True) (.slice Z1 L1.length z1) (L1) from by rw [hV]; exact Kd.R_set RS.out HG.out (by decide) _ _)
      have RL_ := Lib.hid (show Kd.R (Kd.slice 9 Kd.string) 25 V10 w.heap.size (fun _ => True) (.slice A' p.f9.length c') (actsM p.f9) from by rw [hV]; exact Kd.R_set RL.out HG.out (by decide) _ _)
      have R9_ := Lib.hid (show Kd.R k27 27 V10 w.heap.size (fun _ => True) (.slice ZZL9 L9.length zzL9) (L9) from by rw [hV]; exact Kd.R_set R9.out HG.out (by decide) _ _)
      have RX_ := Lib.hid (show Kd.R k36 36 V10 w.heap.size (fun _ => True) (.slice ZZL10 L10.length zzL10) (L10) from by rw [hV]; exact Kd.R_set RX.out HG.out (by decide) _ _)
      have HF_ := Lib.hid (show V10.heap[b3]? = some (Obj.cells #[.slice X0 L0.length y0, .slice Z1 L1.length z1, .slice X2 L2.length y2, .slice X3 L3.length y3, .slice X4 L4.length y4, .slice X5 L5.length y5, .slice X6 L6.length y6, .slice X7 L7.length y7, .slice X8 L8.length y8, .slice ZZL9 L9.length zzL9, .slice ZZL10 L10.length zzL10] 34 (0, 0)) from by rw [hV]; exact (Below.heap_setCell WG _ _ b3 n38).trans HF.out)
      have HG_ := Lib.hid (show V10.heap[b8]? = some (Obj.cells #[.slice X0 p.f0.length y0, .slice Z1 p.f1.length z1, .slice X2 p.f2.length y2, .slice X3 p.f3.length y3, .slice X4 p.f4.length y4, .slice X5 p.f5.length y5, .slice none 0 0, .slice none 0 0, .slice none 0 0, .slice none 0 0, .slice none 0 0] 34 (0, 0)) from by rw [hV]; exact blk_put HG.out 5 _ rfl)
      clear hV hcut HS HF HG RS RL R9 RX qf0 qf1 qf2 qf3 qf4 qf5 qf6 qf7 qf8 qf9 qf10 qf11 qf12 qf13 qf14 qf15 qf16 qf17 qf18 qf19 qf20 qf21 qb0 qb1 qb2 qb3 qb4 qb5 qb6 qb7 qb8 qb9 qb10 qb11 qb12 qb13 qb14 qb15 qb16 qb17 qb18 qb19 qb20 qb21 qg0 qg1 qg2 qg3 qg4 qg5 qg6 qg7 qg8 qg9 qg10 qg11 qg12 qg13 qg14 qg15 qg16 qg17 qg18 qg19 qg20 qg21
      have HS := HS_
      clear HS_
      have HF := HF_
      clear HF_
      have HG := HG_
      clear HG_
      have RS := RS_
      clear RS_
      have RL := RL_
      clear RL_
      have R9 := R9_
      clear R9_
      have RX := RX_
      clear RX_
      obtain ⟨qf0, qf1, qf2, qf3, qf4, qf5, qf6, qf7, qf8, qf9, qf10, qf11, qf12, qf13, qf14, qf15, qf16, qf17, qf18, qf19, qf20, qf21⟩ := bC11 (Aside0.mk HF.out); obtain ⟨qb0, qb1, qb2, qb3, qb4, qb5, qb6, qb7, qb8, qb9, qb10, qb11, qb12, qb13, qb14, qb15, qb16, qb17, qb18, qb19, qb20, qb21⟩ := bC11 (Aside0.mk HS.out.h1); obtain ⟨qg0, qg1, qg2, qg3, qg4, qg5, qg6, qg7, qg8, qg9, qg10, qg11, qg12, qg13, qg14, qg15, qg16, qg17, qg18, qg19, qg20, qg21⟩ := bC11 (Aside0.mk HG.out)
      have hcut := cut_to (P := Try.prog) 30 86 .i64 Try.underlying30 (info_parts info86).choose_spec.1 X6 L6.length y6 (p.f6.length : Int) (by omega) (by omega) Y6
      rw [Int.toNat_natCast] at hcut
      go_upto_region 23 with fail
      obtain ⟨V11, hV⟩ : ∃ x, x = V10.setCell ⟨b8, 6, none⟩ (.slice X6 p.f6.length y6) := ⟨_, rfl⟩
      rw [← hV]
      have HS_ := Lib.hid (show RoS w b1 b2 #[.slice A0 p.f0.length c0, .slice A1 p.f1.length c1, .slice A2 p.f2.length c2, .slice A3 p.f3.length c3, .slice A4 p.f4.length c4, .slice A5 p.f5.length c5, .slice A6 p.f6.length c6, .slice A7 p.f7.length c7, .slice A8 p.f8.length c8, .slice A9 p.f9.length c9, .slice A10 p.f10.length c10] #[.slice none 0 0, .slice none 0 0, .slice none 0 0, .slice none 0 0, .slice none 0 0, .slice none 0 0, .slice none 0 0, .slice none 0 0, .slice none 0 0, .slice none 0 0, .slice none 0 0, .slice none 0 0, .slice none 0 0, .slice none 0 0, .slice none 0 0, .slice none 0 0, .slice none 0 0, .slice none 0 0, .slice none 0 0, .slice none 0 0, .slice none 0 0, .slice none 0 0, .slice none 0 0] L0 L2 L3 L4 L5 L6 L7 L8 (.slice X0 L0.length y0) (.slice X2 L2.length y2) (.slice X3 L3.length y3) (.slice X4 L4.length y4) (.slice X5 L5.length y5) (.slice X6 L6.length y6) (.slice X7 L7.length y7) (.slice X8 L8.length y8) V11 from by rw [hV]; exact HS.out.put HG.out hB8 n18 n28 (by decide) _ _)
      have RS_ := Lib.hid (show Kd.R k57 57 V11 w.heap.size (fun _ => True) (.slice Z1 L1.length z1) (L1) from by rw [hV]; exact Kd.R_set RS.out HG.out (by decide) _ _)
      have RL_ := Lib.hid (show Kd.R (Kd.slice 9 Kd.string) 25 V11 w.heap.size (fun _ => True) (.slice A' p.f9.length c') (actsM p.f9) from by rw [hV]; exact Kd.R_set RL.out HG.out (by decide) _ _)
      have R9_ := Lib.hid (show Kd.R k27 27 V11 w.heap.size (fun _ => True) (.slice ZZL9 L9.length zzL9) (L9) from by rw [hV]; exact Kd.R_set R9.out HG.out (by decide) _ _)
      have RX_ := Lib.hid (show Kd.R k36 36 V11 w.heap.size (fun _ => True) (.slice ZZL10 L10.length zzL10) (L10) from by rw [hV]; exact Kd.R_set RX.out HG.out (by decide) _ _)
      have HF_ := Lib.hid (show V11.heap[b3]? = some (Obj.cells #[.slice X0 L0.length y0, .slice Z1 L1.length z1, .slice X2 L2.length y2, .slice X3 L3.length y3, .slice X4 L4.length y4, .slice X5 L5.length y5, .slice X6 L6.length y6, .slice X7 L7.length y7, .slice X8 L8.length y8, .slice ZZL9 L9.length zzL9, .slice ZZL10 L10.length zzL10] 34 (0, 0)) from by rw [hV]; exact (Below.heap_setCell V10 _ _ b3 n38).trans HF.out)
      have HG_ := Lib.hid (show V11.heap[b8]? = some (Obj.cells #[.slice X0 p.f0.length y0, .slice Z1 p.f1.length z1, .slice X2 p.f2.length y2, .slice X3 p.f3.length y3, .slice X4 p.f4.length y4, .slice X5 p.f5.length y5, .slice X6 p.f6.length y6, .slice none 0 0, .slice none 0 0, .slice none 0 0, .slice none 0 0] 34 (0, 0)) from by rw [hV]; exact blk_put HG.out 6 _ rfl)
      clear hV hcut HS HF HG RS RL R9 RX qf0 qf1 qf2 qf3 qf4 qf5 qf6 qf7 qf8 qf9 qf10 qf11 qf12 qf13 qf14 qf15 qf16 qf17 qf18 qf19 qf20 qf21 qb0 qb1 qb2 qb3 qb4 qb5 qb6 qb7 qb8 qb9 qb10 qb11 qb12 qb13 qb14 qb15 qb16 qb17 qb18 qb19 qb20 qb21 qg0 qg1 qg2 qg3 qg4 qg5 qg6 qg7 qg8 qg9 qg10 qg11 qg12 qg13 qg14 qg15 qg16 qg17 qg18 qg19 qg20 qg21
      have HS := HS_
      clear HS_
      have HF := HF_
      clear HF_
      have HG := HG_
      clear HG_
      have RS := RS_
      clear RS_
      have RL := RL_
      clear RL_
      have R9 := R9_
      clear R9_
      have RX := RX_
      clear RX_
      obtain ⟨qf0, qf1, qf2, qf3, qf4, qf5, qf6, qf7, qf8, qf9, qf10, qf11, qf12, qf13, qf14, qf15, qf16, qf17, qf18, qf19, qf20, qf21⟩ := bC11 (Aside0.mk HF.out); obtain ⟨qb0, qb1, qb2, qb3, qb4, qb5, qb6, qb7, qb8, qb9, qb10, qb11, qb12, qb13, qb14, qb15, qb16, qb17, qb18, qb19, qb20, qb21⟩ := bC11 (Aside0.mk HS.out.h1); obtain ⟨qg0, qg1, qg2, qg3, qg4, qg5, qg6, qg7, qg8, qg9, qg10, qg11, qg12, qg13, qg14, qg15, qg16, qg17, qg18, qg19, qg20, qg21⟩ := bC11 (Aside0.mk HG.out)
      have hcut := cut_to (P := Try.prog) 30 86 .i64 Try.underlying30 (info_parts info86).choose_spec.1 X7 L7.length y7 (p.f7.length : Int) (by omega) (by omega) Y7
      rw [Int.toNat_natCast] at hcut
      go_upto_region 24 with fail
      obtain ⟨V12, hV⟩ : ∃ x, x = V11.setCell ⟨b8, 7, none⟩ (.slice X7 p.f7.length y7) := ⟨_, rfl⟩
      rw [← hV]
      have HS_ := Lib.hid (show RoS w b1 b2 #[.slice A0 p.f0.length c0, .slice A1 p.f1.length c1, .slice A2 p.f2.length c2, .slice A3 p.f3.length c3, .slice A4 p.f4.length c4, .slice A5 p.f5.length c5, .slice A6 p.f6.length c6, .slice A7 p.f7.length c7, .slice A8 p.f8.length c8, .slice A9 p.f9.length c9, .slice A10 p.f10.length c10] #[.slice none 0 0, .slice none 0 0, .slice none 0 0, .slice none 0 0, .slice none 0 0, .slice none 0 0, .slice none 0 0, .slice none 0 0, .slice none 0 0, .slice none 0 0, .slice none 0 0, .slice none 0 0, .slice none 0 0, .slice none 0 0, .slice none 0 0, .slice none 0 0, .slice none 0 0, .slice none 0 0, .slice none 0 0, .slice none 0 0, .slice none 0 0, .slice none 0 0, .slice none 0 0] L0 L2 L3 L4 L5 L6 L7 L8 (.slice X0 L0.length y0) (.slice X2 L2.length y2) (.slice X3 L3.length y3) (.slice X4 L4.length y4) (.slice X5 L5.length y5) (.slice X6 L6.length y6) (.slice X7 L7.length y7) (.slice X8 L8.length y8) V12 from by rw [hV]; exact HS.out.put HG.out hB8 n18 n28 (by decide) _ _)
      have RS_ := Lib.hid (show Kd.R k57 57 V12 w.heap.size (fun _ => True) (.slice Z1 L1.length z1) (L1) from by rw [hV]; exact Kd.R_set RS.out HG.out (by decide) _ _)
      have RL_ := Lib.hid (show Kd.R (Kd.slice 9 Kd.string) 25 V12 w.heap.size (fun _ => True) (.slice A' p.f9.length c') (actsM p.f9) from by rw [hV]; exact Kd.R_set RL.out HG.out (by decide) _ _)
      have R9_ := Lib.hid (show Kd.R k27 27 V12 w.heap.size (fun _ => True) (.slice ZZL9 L9.length zzL9) (L9) from by rw [hV]; exact Kd.R_set R9.out HG.out (by decide) _ _)
      have RX_ := Lib.hid (show Kd.R k36 36 V12 w.heap.size (fun _ => True) (.slice ZZL10 L10.length zzL10) (L10) from by rw [hV]; exact Kd.R_set RX.out HG.out (by decide) _ _)
      have HF_ := Lib.hid (show V12.heap[b3]? = some (Obj.cells #[.slice X0 L0.length y0, .slice Z1 L1.length z1, .slice X2 L2.length y2, .slice X3 L3.length y3, .slice X4 L4.length y4, .slice X5 L5.length y5, .slice X6 L6.length y6, .slice X7 L7.length y7, .slice X8 L8.length y8, .slice ZZL9 L9.length zzL9, .slice ZZL10 L10.length zzL10] 34 (0, 0)) from by rw [hV]; exact (Below.heap_setCell V11 _ _ b3 n38).trans HF.out)
      have HG_ := Lib.hid (show V12.heap[b8]? = some (Obj.cells #[.slice X0 p.f0.length y0, .slice Z1 p.f1.length z1, .slice X2 p.f2.length y2, .slice X3 p.f3.length y3, .slice X4 p.f4.length y4, .slice X5 p.f5.length y5, .slice X6 p.f6.length y6, .slice X7 p.f7.length y7, .slice none 0 0, .slice none 0 0, .slice none 0 0] 34 (0, 0)) from by rw [hV]; exact blk_put HG.out 7 _ rfl)
      clear hV hcut HS HF HG RS RL R9 RX qf0 qf1 qf2 qf3 qf4 qf5 qf6 qf7 qf8 qf9 qf10 qf11 qf12 qf13 qf14 qf15 qf16 qf17 qf18 qf19 qf20 qf21 qb0 qb1 qb2 qb3 qb4 qb5 qb6 qb7 qb8 qb9 qb10 qb11 qb12 qb13 qb14 qb15 qb16 qb17 qb18 qb19 qb20 qb21 qg0 qg1 qg2 qg3 qg4 qg5 qg6 qg7 qg8 qg9 qg10 qg11 qg12 qg13 qg14 qg15 qg16 qg17 qg18 qg19 qg20 qg21
      have HS := HS_
      clear HS_
      have HF := HF_
      clear HF_
      have HG := HG_
      clear HG_
      have RS := RS_
      clear RS_
      have RL := RL_
      clear RL_
      have R9 := R9_
      clear R9_
      have RX := RX_
      clear RX_
      obtain ⟨qf0, qf1, qf2, qf3, qf4, qf5, qf6, qf7, qf8, qf9, qf10, qf11, qf12, qf13, qf14, qf15, qf16, qf17, qf18, qf19, qf20, qf21⟩ := bC11 (Aside0.mk HF.out); obtain ⟨qb0, qb1, qb2, qb3, qb4, qb5, qb6, qb7, qb8, qb9, qb10, qb11, qb12, qb13, qb14, qb15, qb16, qb17, qb18, qb19, qb20, qb21⟩ := bC11 (Aside0.mk HS.out.h1); obtain ⟨qg0, qg1, qg2, qg3, qg4, qg5, qg6, qg7, qg8, qg9, qg10, qg11, qg12, qg13, qg14, qg15, qg16, qg17, qg18, qg19, qg20, qg21⟩ := bC11 (Aside0.mk HG.out)
      have hcut := cut_to (P := Try.prog) 30 86 .i64 Try.underlying30 (info_parts info86).choose_spec.1 X8 L8.length y8 (p.f8.length : Int) (by omega) (by omega) Y8
      rw [Int.toNat_natCast] at hcut
      go_upto_region 25 with fail
      obtain ⟨V13, hV⟩ : ∃ x, x = V12.setCell ⟨b8, 8, none⟩ (.slice X8 p.f8.length y8) := ⟨_, rfl⟩
      rw [← hV]
      have HS_ := Lib.hid (show RoS w b1 b2 #[.slice A0 p.f0.length c0, .slice A1 p.f1.length c1, .slice A2 p.f2.length c2, .slice A3 p.f3.length c3, .slice A4 p.f4.length c4, .slice A5 p.f5.length c5, .slice A6 p.f6.length c6, .slice A7 p.f7.length c7, .slice A8 p.f8.length c8, .slice A9 p.f9.length c9, .slice A10 p.f10.length c10] #[.slice none 0 0, .slice none 0 0, .slice none 0 0, .slice none 0 0, .slice none 0 0, .slice none 0 0, .slice none 0 0, .slice none 0 0, .slice none 0 0, .slice none 0 0, .slice none 0 0, .slice none 0 0, .slice none 0 0, .slice none 0 0, .slice none 0 0, .slice none 0 0, .slice none 0 0, .slice none 0 0, .slice none 0 0, .slice none 0 0, .slice none 0 0, .slice none 0 0, .slice none 0 0] L0 L2 L3 L4 L5 L6 L7 L8 (.slice X0 L0.length y0) (.slice X2 L2.length y2) (.slice X3 L3.length y3) (.slice X4 L4.length y4) (.slice X5 L5.length y5) (.slice X6 L6.length y6) (.slice X7 L7.length y7) (.slice X8 L8.length y8) V13 from by rw [hV]; exact HS.out.put HG.out hB8 n18 n28 (by decide) _ _)
      have RS_ := Lib.hid (show Kd.R k57 57 V13 w.heap.size (fun _ => True) (.slice Z1 L1.length z1) (L1) from by rw [hV]; exact Kd.R_set RS.out HG.out (by decide) _ _)
      have RL_ := Lib.hid (show Kd.R (Kd.slice 9 Kd.string) 25 V13 w.heap.size (fun _ => True) (.slice A' p.f9.length c') (actsM p.f9) from by rw [hV]; exact Kd.R_set RL.out HG.out (by decide) _ _)
      have R9_ := Lib.hid (show Kd.R k27 27 V13 w.heap.size (fun _ => True) (.slice ZZL9 L9.length zzL9) (L9) from by rw [hV]; exact Kd.R_set R9.out HG.out (by decide) _ _)
      have RX_ := Lib.hid (show Kd.R k36 36 V13 w.heap.size (fun _ => True) (.slice ZZL10 L10.length zzL10) (L10) from by rw [hV]; exact Kd.R_set RX.out HG.out (by decide) _ _)
      have HF_ := Lib.hid (show V13.heap[b3]? = some (Obj.cells #[.slice X0 L0.length y0, .slice Z1 L1.length z1, .slice X2 L2.length y2, .slice X3 L3.length y3, .slice X4 L4.length y4, .slice X5 L5.length y5, .slice X6 L6.length y6, .slice X7 L7.length y7, .slice X8 L8.length y8, .slice ZZL9 L9.length zzL9, .slice ZZL10 L10.length zzL10] 34 (0, 0)) from by rw [hV]; exact (Below.heap_setCell V12 _ _ b3 n38).trans HF.out)
      have HG_ := Lib.hid (show V13.heap[b8]? = some (Obj.cells #[.slice X0 p.f0.length y0, .slice Z1 p.f1.length z1, .slice X2 p.f2.length y2, .slice X3 p.f3.length y3, .slice X4 p.f4.length y4, .slice X5 p.f5.length y5, .slice X6 p.f6.length y6, .slice X7 p.f7.length y7, .slice X8 p.f8.length y8, .slice none 0 0, .slice none 0 0] 34 (0, 0)) from by rw [hV]; exact blk_put HG.out 8 _ rfl)
      clear hV hcut HS HF HG RS RL R9 RX qf0 qf1 qf2 qf3 qf4 qf5 qf6 qf7 qf8 qf9 qf10 qf11 qf12 qf13 qf14 qf15 qf16 qf17 qf18 qf19 qf20 qf21 qb0 qb1 qb2 qb3 qb4 qb5 qb6 qb7 qb8 qb9 qb10 qb11 qb12 qb13 qb14 qb15 qb16 qb17 qb18 qb19 qb20 qb21 qg0 qg1 qg2 qg3 qg4 qg5 qg6 qg7 qg8 qg9 qg10 qg11 qg12 qg13 qg14 qg15 qg16 qg17 qg18 qg19 qg20 qg21
      have HS := HS_
      clear HS_
      have HF := HF_
      clear HF_
      have HG := HG_
      clear HG_
      have RS := RS_
      clear RS_
      have RL := RL_
      clear RL_
      have R9 := R9_
      clear R9_
      have RX := RX_
      clear RX_
      obtain ⟨qf0, qf1, qf2, qf3, qf4, qf5, qf6, qf7, qf8, qf9, qf10, qf11, qf12, qf13, qf14, qf15, qf16, qf17, qf18, qf19, qf20, qf21⟩ := bC11 (Aside0.mk HF.out); obtain ⟨qb0, qb1, qb2, qb3, qb4, qb5, qb6, qb7, qb8, qb9, qb10, qb11, qb12, qb13, qb14, qb15, qb16, qb17, qb18, qb19, qb20, qb21⟩ := bC11 (Aside0.mk HS.out.h1); obtain ⟨qg0, qg1, qg2, qg3, qg4, qg5, qg6, qg7, qg8, qg9, qg10, qg11, qg12, qg13, qg14, qg15, qg16, qg17, qg18, qg19, qg20, qg21⟩ := bC11 (Aside0.mk HG.out)
      have hcut := cut_to (P := Try.prog) 31 27 .i64 Try.underlying31 (info_parts info27).choose_spec.1 ZZL9 L9.length zzL9 (p.f9.length : Int) (by omega) (by omega) Y9
      rw [Int.toNat_natCast] at hcut
      go_upto_region 26 with fail
      obtain ⟨V14, hV⟩ : ∃ x, x = V13.setCell ⟨b8, 9, none⟩ (.slice ZZL9 p.f9.length zzL9) := ⟨_, rfl⟩
      rw [← hV]
      have HS_ := Lib.hid (show RoS w b1 b2 #[.slice A0 p.f0.length c0, .slice A1 p.f1.length c1, .slice A2 p.f2.length c2, .slice A3 p.f3.length c3, .slice A4 p.f4.length c4, .slice A5 p.f5.length c5, .slice A6 p.f6.length c6, .slice A7 p.f7.length c7, .slice A8 p.f8.length c8, .slice A9 p.f9.length c9, .slice A10 p.f10.length c10] #[.slice none 0 0, .slice none 0 0, .slice none 0 0, .slice none 0 0, .slice none 0 0, .slice none 0 0, .slice none 0 0, .slice none 0 0, .slice none 0 0, .slice none 0 0, .slice none 0 0, .slice none 0 0, .slice none 0 0, .slice none 0 0, .slice none 0 0, .slice none 0 0, .slice none 0 0, .slice none 0 0, .slice none 0 0, .slice none 0 0, .slice none 0 0, .slice none 0 0, .slice none 0 0] L0 L2 L3 L4 L5 L6 L7 L8 (.slice X0 L0.length y0) (.slice X2 L2.length y2) (.slice X3 L3.length y3) (.slice X4 L4.length y4) (.slice X5 L5.length y5) (.slice X6 L6.length y6) (.slice X7 L7.length y7) (.slice X8 L8.length y8) V14 from by rw [hV]; exact HS.out.put HG.out hB8 n18 n28 (by decide) _ _)
      have RS_ := Lib.hid (show Kd.R k57 57 V14 w.heap.size (fun _ => True) (.slice Z1 L1.length z1) (L1) from by rw [hV]; exact Kd.R_set RS.out HG.out (by decide) _ _)
      have RL_ := Lib.hid (show Kd.R (Kd.slice 9 Kd.string) 25 V14 w.heap.size (fun _ => True) (.slice A' p.f9.length c') (actsM p.f9) from by rw [hV]; exact Kd.R_set RL.out HG.out (by decide) _ _)
      have R9_ := Lib.hid (show Kd.R k27 27 V14 w.heap.size (fun _ => True) (.slice ZZL9 L9.length zzL9) (L9) from by rw [hV]; exact Kd.R_set R9.out HG.out (by decide) _ _)
      have RX_ := Lib.hid (show Kd.R k36 36 V14 w.heap.size (fun _ => True) (.slice ZZL10 L10.length zzL10) (L10) from by rw [hV]; exact Kd.R_set RX.out HG.out (by decide) _ _)
      have HF_ := Lib.hid (show V14.heap[b3]? = some (Obj.cells #[.slice X0 L0.length y0, .slice Z1 L1.length z1, .slice X2 L2.length y2, .slice X3 L3.length y3, .slice X4 L4.length y4, .slice X5 L5.length y5, .slice X6 L6.length y6, .slice X7 L7.length y7, .slice X8 L8.length y8, .slice ZZL9 L9.length zzL9, .slice ZZL10 L10.length zzL10] 34 (0, 0)) from by rw [hV]; exact (Below.heap_setCell V13 _ _ b3 n38).trans HF.out)
      have HG_ := Lib.hid (show V14.heap[b8]? = some (Obj.cells #[.slice X0 p.f0.length y0, .slice Z1 p.f1.length z1, .slice X2 p.f2.length y2, .slice X3 p.f3.length y3, .slice X4 p.f4.length y4, .slice X5 p.f5.length y5, .slice X6 p.f6.length y6, .slice X7 p.f7.length y7, .slice X8 p.f8.length y8, .slice ZZL9 p.f9.length zzL9, .slice none 0 0] 34 (0, 0)) from by rw [hV]; exact blk_put HG.out 9 _ rfl)
      clear hV hcut HS HF HG RS RL R9 RX qf0 qf1 qf2 qf3 qf4 qf5 qf6 qf7 qf8 qf9 qf10 qf11 qf12 qf13 qf14 qf15 qf16 qf17 qf18 qf19 qf20 qf21 qb0 qb1 qb2 qb3 qb4 qb5 qb6 qb7 qb8 qb9 qb10 qb11 qb12 qb13 qb14 qb15 qb16 qb17 qb18 qb19 qb20 qb21 qg0 qg1 qg2 qg3 qg4 qg5 qg6 qg7 qg8 qg9 qg10 qg11 qg12 qg13 qg14 qg15 qg16 qg17 qg18 qg19 qg20 qg21
      have HS := HS_
      clear HS_
      have HF := HF_
      clear HF_
      have HG := HG_
      clear HG_
      have RS := RS_
      clear RS_
      have RL := RL_
      clear RL_
      have R9 := R9_
      clear R9_
      have RX := RX_
      clear RX_
      obtain ⟨qf0, qf1, qf2, qf3, qf4, qf5, qf6, qf7, qf8, qf9, qf10, qf11, qf12, qf13, qf14, qf15, qf16, qf17, qf18, qf19, qf20, qf21⟩ := bC11 (Aside0.mk HF.out); obtain ⟨qb0, qb1, qb2, qb3, qb4, qb5, qb6, qb7, qb8, qb9, qb10, qb11, qb12, qb13, qb14, qb15, qb16, qb17, qb18, qb19, qb20, qb21⟩ := bC11 (Aside0.mk HS.out.h1); obtain ⟨qg0, qg1, qg2, qg3, qg4, qg5, qg6, qg7, qg8, qg9, qg10, qg11, qg12, qg13, qg14, qg15, qg16, qg17, qg18, qg19, qg20, qg21⟩ := bC11 (Aside0.mk HG.out)
      have hcut := cut_to (P := Try.prog) 32 36 .i64 Try.underlying32 (info_parts info36).choose_spec.1 ZZL10 L10.length zzL10 (p.f10.length : Int) (by omega) (by omega) Y10
      rw [Int.toNat_natCast] at hcut
      go_upto_region 27 with fail
      obtain ⟨V15, hV⟩ : ∃ x, x = V14.setCell ⟨b8, 10, none⟩ (.slice ZZL10 p.f10.length zzL10) := ⟨_, rfl⟩
      rw [← hV]
      have HS_ := Lib.hid (show RoS w b1 b2 #[.slice A0 p.f0.length c0, .slice A1 p.f1.length c1, .slice A2 p.f2.length c2, .slice A3 p.f3.length c3, .slice A4 p.f4.length c4, .slice A5 p.f5.length c5, .slice A6 p.f6.length c6, .slice A7 p.f7.length c7, .slice A8 p.f8.length c8, .slice A9 p.f9.length c9, .slice A10 p.f10.length c10] #[.slice none 0 0, .slice none 0 0, .slice none 0 0, .slice none 0 0, .slice none 0 0, .slice none 0 0, .slice none 0 0, .slice none 0 0, .slice none 0 0, .slice none 0 0, .slice none 0 0, .slice none 0 0, .slice none 0 0, .slice none 0 0, .slice none 0 0, .slice none 0 0, .slice none 0 0, .slice none 0 0, .slice none 0 0, .slice none 0 0, .slice none 0 0, .slice none 0 0, .slice none 0 0] L0 L2 L3 L4 L5 L6 L7 L8 (.slice X0 L0.length y0) (.slice X2 L2.length y2) (.slice X3 L3.length y3) (.slice X4 L4.length y4) (.slice X5 L5.length y5) (.slice X6 L6.length y6) (.slice X7 L7.length y7) (.slice X8 L8.length y8) V15 from by rw [hV]; exact HS.out.put HG.out hB8 n18 n28 (by decide) _ _)
      have RS_ := Lib.hid (show Kd.R k57 57 V15 w.heap.size (fun _ => True) (.slice Z1 L1.length z1) (L1) from by rw [hV]; exact Kd.R_set RS.out HG.out (by decide) _ _)
      have RL_ := Lib.hid (show Kd.R (Kd.slice 9 Kd.string) 25 V15 w.heap.size (fun _ => True) (.slice A' p.f9.length c') (actsM p.f9) from by rw [hV]; exact Kd.R_set RL.out HG.out (by decide) _ _)
      have R9_ := Lib.hid (show Kd.R k27 27 V15 w.heap.size (fun _ => True) (.slice ZZL9 L9.length zzL9) (L9) from by rw [hV]; exact Kd.R_set R9.out HG.out (by decide) _ _)
      have RX_ := Lib.hid (show Kd.R k36 36 V15 w.heap.size (fun _ => True) (.slice ZZL10 L10.length zzL10) (L10) from by rw [hV]; exact Kd.R_set RX.out HG.out (by decide) _ _)
      have HF_ := Lib.hid (show V15.heap[b3]? = some (Obj.cells #[.slice X0 L0.length y0, .slice Z1 L1.length z1, .slice X2 L2.length y2, .slice X3 L3.length y3, .slice X4 L4.length y4, .slice X5 L5.length y5, .slice X6 L6.length y6, .slice X7 L7.length y7, .slice X8 L8.length y8, .slice ZZL9 L9.length zzL9, .slice ZZL10 L10.length zzL10] 34 (0, 0)) from by rw [hV]; exact (Below.heap_setCell V14 _ _ b3 n38).trans HF.out)
      have HG_ := Lib.hid (show V15.heap[b8]? = some (Obj.cells #[.slice X0 p.f0.length y0, .slice Z1 p.f1.length z1, .slice X2 p.f2.length y2, .slice X3 p.f3.length y3, .slice X4 p.f4.length y4, .slice X5 p.f5.length y5, .slice X6 p.f6.length y6, .slice X7 p.f7.length y7, .slice X8 p.f8.length y8, .slice ZZL9 p.f9.length zzL9, .slice ZZL10 p.f10.length zzL10] 34 (0, 0)) from by rw [hV]; exact blk_put HG.out 10 _ rfl)
      clear hV hcut HS HF HG RS RL R9 RX qf0 qf1 qf2 qf3 qf4 qf5 qf6 qf7 qf8 qf9 qf10 qf11 qf12 qf13 qf14 qf15 qf16 qf17 qf18 qf19 qf20 qf21 qb0 qb1 qb2 qb3 qb4 qb5 qb6 qb7 qb8 qb9 qb10 qb11 qb12 qb13 qb14 qb15 qb16 qb17 qb18 qb19 qb20 qb21 qg0 qg1 qg2 qg3 qg4 qg5 qg6 qg7 qg8 qg9 qg10 qg11 qg12 qg13 qg14 qg15 qg16 qg17 qg18 qg19 qg20 qg21
      have HS := HS_
      clear HS_
      have HF := HF_
      clear HF_
      have HG := HG_
      clear HG_
      have RS := RS_
      clear RS_
      have RL := RL_
      clear RL_
      have R9 := R9_
      clear R9_
      have RX := RX_
      clear RX_
      obtain ⟨qf0, qf1, qf2, qf3, qf4, qf5, qf6, qf7, qf8, qf9, qf10, qf11, qf12, qf13, qf14, qf15, qf16, qf17, qf18, qf19, qf20, qf21⟩ := bC11 (Aside0.mk HF.out); obtain ⟨qg0, qg1, qg2, qg3, qg4, qg5, qg6, qg7, qg8, qg9, qg10, qg11, qg12, qg13, qg14, qg15, qg16, qg17, qg18, qg19, qg20, qg21⟩ := bC11 (Aside0.mk HG.out)
      go_wp2_with ((with_reducible refine gate_ (.store 39 (.tmp 2) (.tmp 175)) rfl ?_); go_must (refine bstore (t := 39) (p := 2) (v := .tmp 175) rfl rfl rfl b2 _ #[.slice X0 p.f0.length y0, .slice Z1 p.f1.length z1, .slice X2 p.f2.length y2, .slice X3 p.f3.length y3, .slice X4 p.f4.length y4, .slice X5 p.f5.length y5, .slice X6 p.f6.length y6, .slice X7 p.f7.length y7, .slice X8 p.f8.length y8, .slice ZZL9 p.f9.length zzL9, .slice ZZL10 p.f10.length zzL10, .slice X0 L0.length y0, .slice Z1 L1.length z1, .slice X2 L2.length y2, .slice X3 L3.length y3, .slice X4 L4.length y4, .slice X5 L5.length y5, .slice X6 L6.length y6, .slice X7 L7.length y7, .slice X8 L8.length y8, .slice ZZL9 L9.length zzL9, .slice ZZL10 L10.length zzL10, .slice A' p.f9.length c'] (.agg #[.slice X0 p.f0.length y0, .slice Z1 p.f1.length z1, .slice X2 p.f2.length y2, .slice X3 p.f3.length y3, .slice X4 p.f4.length y4, .slice X5 p.f5.length y5, .slice X6 p.f6.length y6, .slice X7 p.f7.length y7, .slice X8 p.f8.length y8, .slice ZZL9 p.f9.length zzL9, .slice ZZL10 p.f10.length zzL10, .slice X0 L0.length y0, .slice Z1 L1.length z1, .slice X2 L2.length y2, .slice X3 L3.length y3, .slice X4 L4.length y4, .slice X5 L5.length y5, .slice X6 L6.length y6, .slice X7 L7.length y7, .slice X8 L8.length y8, .slice ZZL9 L9.length zzL9, .slice ZZL10 L10.length zzL10, .slice A' p.f9.length c']) rfl rfl rfl HS.out.h2 size39r rfl (by simp [Value.oneCell']) ?_); intro w20 hb20 hoth hsz hbel; have HB20 := Lib.hid hb20; have HO := Lib.hid hoth; have HBL := Lib.hid hbel; clear hb20 hoth hsz hbel qf0 qf1 qf2 qf3 qf4 qf5 qf6 qf7 qf8 qf9 qf10 qf11 qf12 qf13 qf14 qf15 qf16 qf17 qf18 qf19 qf20 qf21 qg0 qg1 qg2 qg3 qg4 qg5 qg6 qg7 qg8 qg9 qg10 qg11 qg12 qg13 qg14 qg15 qg16 qg17 qg18 qg19 qg20 qg21)
      refine bodyPost_ret (results_cell_row rfl _ _ b2 39 #[.slice X0 p.f0.length y0, .slice Z1 p.f1.length z1, .slice X2 p.f2.length y2, .slice X3 p.f3.length y3, .slice X4 p.f4.length y4, .slice X5 p.f5.length y5, .slice X6 p.f6.length y6, .slice X7 p.f7.length y7, .slice X8 p.f8.length y8, .slice ZZL9 p.f9.length zzL9, .slice ZZL10 p.f10.length zzL10, .slice X0 L0.length y0, .slice Z1 L1.length z1, .slice X2 L2.length y2, .slice X3 L3.length y3, .slice X4 L4.length y4, .slice X5 L5.length y5, .slice X6 L6.length y6, .slice X7 L7.length y7, .slice X8 L8.length y8, .slice ZZL9 L9.length zzL9, .slice ZZL10 L10.length zzL10, .slice A' p.f9.length c'] (0, 0) _ rfl HB20.out Try.underlying39 rfl (by kernel_rfl)) rfl ?_
      have ts : ∀ (T : List Nat), (∀ q ∈ T, q ≠ 39) → TS T _ w20 := fun T hT => TS.but HS.out.h2 hT HO.out
      have F0 := R_ts HS.out.r0 (ts [9] (by decide)) (by decide)
      have F1 := R_ts RS.out (ts [57] (by decide)) (by decide)
      have F2 := R_ts HS.out.r2 (ts [9] (by decide)) (by decide)
      have F3 := R_ts HS.out.r3 (ts [9] (by decide)) (by decide)
      have F4 := R_ts HS.out.r4 (ts [9] (by decide)) (by decide)
      have F5 := R_ts HS.out.r5 (ts [86] (by decide)) (by decide)
      have F6 := R_ts HS.out.r6 (ts [86] (by decide)) (by decide)
      have F7 := R_ts HS.out.r7 (ts [86] (by decide)) (by decide)
      have F8 := R_ts HS.out.r8 (ts [86] (by decide)) (by decide)
      have F9 := R_ts R9.out (ts [27, 9] (by decide)) (by decide)
      have F10 := R_ts RX.out (ts [36] (by decide)) (by decide)
      have C0 := cutR F0 HL0.out
      have C1 := cutR F1 HL1.out
      have C2 := cutR F2 HL2.out
      have C3 := cutR F3 HL3.out
      have C4 := cutR F4 HL4.out
      have C5 := cutR F5 HL5.out
      have C6 := cutR F6 HL6.out
      have C7 := cutR F7 HL7.out
      have C8 := cutR F8 HL8.out
      have C9 := cutR F9 HL9.out
      have C10 := cutR F10 HL10.out
      refine ⟨#[.slice X0 p.f0.length y0, .slice Z1 p.f1.length z1, .slice X2 p.f2.length y2, .slice X3 p.f3.length y3, .slice X4 p.f4.length y4, .slice X5 p.f5.length y5, .slice X6 p.f6.length y6, .slice X7 p.f7.length y7, .slice X8 p.f8.length y8, .slice ZZL9 p.f9.length zzL9, .slice ZZL10 p.f10.length zzL10], #[.slice X0 L0.length y0, .slice Z1 L1.length z1, .slice X2 L2.length y2, .slice X3 L3.length y3, .slice X4 L4.length y4, .slice X5 L5.length y5, .slice X6 L6.length y6, .slice X7 L7.length y7, .slice X8 L8.length y8, .slice ZZL9 L9.length zzL9, .slice ZZL10 L10.length zzL10], .slice A' p.f9.length c', rfl, ?_, ?_, R_ts RL.out (ts [25, 9] (by decide)) (by decide), HS.out.bel.trans (HBL.out _ hle2)⟩
      · exact k34_mk w20 p C0.1 C0.2 C1.1 C1.2 C2.1 C2.2 C3.1 C3.2 C4.1 C4.2 C5.1 C5.2 C6.1 C6.2 C7.1 C7.2 C8.1 C8.2 C9.1 C9.2 C10.1 C10.2
      · show k34.K w20 ⟨p.f0 ++ [mark], p.f1 ++ [mSub], p.f2 ++ [mark], p.f3 ++ [mark], p.f4 ++ [mark], p.f5 ++ [mPair], p.f6 ++ [mPair], p.f7 ++ [mPair], p.f8 ++ [mPair], p.f9 ++ [mRule], p.f10 ++ [mTri]⟩ _
        rw [← HL0.out, ← HL1.out, ← HL2.out, ← HL3.out, ← HL4.out, ← HL5.out, ← HL6.out, ← HL7.out, ← HL8.out, ← HL9.out, ← HL10.out]
        exact k34_mk w20 ⟨L0, L1, L2, L3, L4, L5, L6, L7, L8, L9, L10⟩ (Kd.R_reads' F0).2.1 (Kd.R_reads' F0).2.2 (Kd.R_reads' F1).2.1 (Kd.R_reads' F1).2.2 (Kd.R_reads' F2).2.1 (Kd.R_reads' F2).2.2 (Kd.R_reads' F3).2.1 (Kd.R_reads' F3).2.2 (Kd.R_reads' F4).2.1 (Kd.R_reads' F4).2.2 (Kd.R_reads' F5).2.1 (Kd.R_reads' F5).2.2 (Kd.R_reads' F6).2.1 (Kd.R_reads' F6).2.2 (Kd.R_reads' F7).2.1 (Kd.R_reads' F7).2.2 (Kd.R_reads' F8).2.1 (Kd.R_reads' F8).2.2 (Kd.R_reads' F9).2.1 (Kd.R_reads' F9).2.2 (Kd.R_reads' F10).2.1 (Kd.R_reads' F10).2.2
end Go.Proofs.Ytnkdcekddhmjnaa.M
