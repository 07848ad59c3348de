import Derived.Test.YteefneemmdfncaaTm
/- DiffThrough as the row asks for it: walked. Conditions: the row's. -/
namespace Go.Proofs.Yteefneemmdfncaa.M
open Go.RowKit Go.Proofs.YteefneemmdfncaaW.Raw Go.Proofs.YteefneemmdfncaaW.PrintWords Go.Proofs.Yteefneemmdfncaa.F
set_option linter.unusedVariables false
theorem one_C {w : World} {p : Pol} {C : Array Value} (hp : k28.K w p C.toList) : Kd.C k28 (w.alloc (.cells C 28)) (some ⟨w.heap.size, 0, none⟩) [p].length [p] := by
  have hb : Below w.heap.size w (w.alloc (.cells C 28)) := (Below.refl _ w).alloc (Nat.le_refl _) _
  refine row_C (d := k28) (blk_new w _) (polsz hp) (by simp) (fun j x hj => ?_)
  match j, hj with
  | 0, hj =>
    cases hj
    rw [Nat.zero_mul, List.drop_zero, ← k28.K_len hp, List.take_length]
    exact k28.K_below hb hp
theorem vast_n (l : List Pol) (hl : l.length ≤ 1048576) (hs : ∀ p ∈ l, Sz p) (n : Nat) (hn : n = l.length) : ∃ b, (b = false → ∀ p ∈ l, p.f1.length * (p.f3.length * p.f0.length) ≤ 65536) ∧ ∀ (A : Option Addr) (c : Nat) (w : World), Kd.C k28 w A n l → n ≤ c →
    Calls Try.prog 28 #[.slice A n c] w fun e w' => e = .returned (.bool b) ∧ Below w.heap.size w w' := by
  subst hn
  exact vast_k l hl hs
end Go.Proofs.Yteefneemmdfncaa.M
namespace Go.Proofs.Yteefneemmdfncaa.F
open Go.RowKit Go.Proofs.YteefneemmdfncaaW.Raw Go.Proofs.YteefneemmdfncaaW.PrintWords Go.Proofs.YteefneemmdfncaaW.PrintLast Go.Proofs.YteefneemmdfncaaW.PrintAll Go.Proofs.Yteefneemmdfncaa.M
set_option linter.unusedVariables false
set_option linter.unusedSimpArgs false
set_option maxRecDepth 100000 in
set_option maxHeartbeats 16000000 in
theorem DiffThrough.walk (x0 : S28) (c0 : Array Value) (x1 : (List S28)) (v1 : Value) (x2 : S30) (c2 : Array Value) (w : World) (hk0 : Kd.K k28 w x0 c0.toList) (hg0 : g28 x0) (hk1 : Kd.K (Kd.slice 28 k28) w x1 [v1]) (hg1 : (x1.length * 264 ≤ 140737488351232 ∧ x1.length ≤ 9223372036854775807 ∧ ∀ x_ ∈ x1, g28 x_)) (hk2 : Kd.K k30 w x2 c2.toList) (hg2 : g30 x2) (hb : b28 x0 + ((x1.map (fun x_ => b28 x_)).sum + 1) + b30 x2 ≤ 1048576) :
    Calls Try.prog 11 #[.agg c0, v1, .agg c2] w fun e w' => e = .returned (.bool true) ∧ Below w.heap.size w w' := by
  have hsp := sz_of x0 (by omega)
  have hsl : ∀ x ∈ x1, Sz x := fun x hx => sz_of x (by have := sum_mem (fun x_ => b28 x_) hx; omega)
  have hxl : x1.length ≤ 1048576 := by
    have := sum_ge (fun x_ : S28 => b28 x_) (fun _ => Nat.le_add_left _ _) x1
    omega
  obtain ⟨C0, rfl⟩ : ∃ C, C = c0 := ⟨_, rfl⟩
  obtain ⟨E0, rfl⟩ : ∃ C, C = c2 := ⟨_, rfl⟩
  obtain ⟨p, rfl⟩ : ∃ p, p = x0 := ⟨_, rfl⟩
  obtain ⟨t, rfl⟩ : ∃ t, t = x2 := ⟨_, rfl⟩
  have HK := Lib.hid hk0
  obtain ⟨Am, cm, e1, hcm, hCm⟩ := hk1
  obtain rfl : v1 = .slice Am x1.length cm := by injection e1
  have et := k30_open hk2
  obtain rfl : E0 = #[.string t.f0, .string t.f1, .string t.f2] := by cases E0; simpa using et
  clear hb hg0 hg1 hk2 hg2 et e1
  obtain ⟨A0, c0, A1, c1, A2, c2, A3, c3, A4, c4, A5, c5, A6, c6, A7, c7, A8, c8, A9, c9, A10, c10, e_, l0, g0, l1, g1, l2, g2, l3, g3, l4, g4, l5, g5, l6, g6, l7, g7, l8, g8, l9, g9, l10, g10⟩ := k28_open hk0
  obtain rfl : C0 = #[.slice A0 p.f0.length c0, .slice A1 p.f1.length c1, .slice A2 p.f2.length c2, .slice A3 p.f3.length c3, .slice A4 p.f4.length c4, .slice A5 p.f5.length c5, .slice A6 p.f6.length c6, .slice A7 p.f7.length c7, .slice A8 p.f8.length c8, .slice A9 p.f9.length c9, .slice A10 p.f10.length c10] := by cases C0; simpa using e_
  clear e_
  clear hk0 l0 g0 l1 g1 l2 g2 l3 g3 l4 g4 l5 g5 l6 g6 l7 g7 l8 g8 l9 g9 l10 g10
  obtain ⟨n, hn⟩ : ∃ n, n = x1.length := ⟨_, rfl⟩
  rw [← hn] at hcm hCm hxl ⊢
  have HM := Lib.hid hCm
  have HSP := Lib.hid hsp
  have HSL := Lib.hid hsl
  have HN := Lib.hid hn
  clear hCm hsp hsl hn
  go_enter Try.func11, Try.ntmps11
  go_upto_region 1 with (first | ((with_reducible refine gate_dst (N := 3) rfl ?_); refine box_event ?hg (N := 3) ?hd (cs := #[.slice A0 p.f0.length c0, .slice A1 p.f1.length c1, .slice A2 p.f2.length c2, .slice A3 p.f3.length c3, .slice A4 p.f4.length c4, .slice A5 p.f5.length c5, .slice A6 p.f6.length c6, .slice A7 p.f7.length c7, .slice A8 p.f8.length c8, .slice A9 p.f9.length c9, .slice A10 p.f10.length c10]) (t := 28) ?hr ?_; (case hd => rfl); (case hg => rfl); (case hr => first | (go_simp; done) | (go_simp; rfl)); intro b3 hg_ w1 hb3 hB1; go_must (have BW1 := Lib.hid hB1; have K1 := Lib.hid hb3; clear hb3 hB1); clear hg_) | ((with_reducible refine gate_dst (N := 5) rfl ?_); refine box_event ?hg (N := 5) ?hd (cs := #[.string t.f0, .string t.f1, .string t.f2]) (t := 30) ?hr ?_; (case hd => rfl); (case hg => rfl); (case hr => first | (go_simp; done) | (go_simp; rfl)); intro b5 hg_ w2 hb5 hB2; go_must (have K12 := Lib.hid (blk_below K1.out hB2); have BW2 := Lib.hid (BW1.out.trans (hB2.mono BW1.out.size)); have K2 := Lib.hid hb5; clear hb5 hB2); clear hg_))
  clear K1 BW1
  go_upto_if 28 with (first | (go_at_call 39; go_must (refine (alive_calls _).mono ?_); rintro e w3 ⟨rfl, hb⟩; have KP := Lib.hid (blk_below K12.out hb); have KT := Lib.hid (blk_below K2.out hb); have BW3 := Lib.hid (BW2.out.trans (hb.mono BW2.out.size)); clear hb))
  clear K12 K2 BW2
  go_cut [1] (fun s1 wx => ∃ m : Nat, s1 = .slice Am m cm ∧ m ≤ 6 ∧ m ≤ n ∧ wx = w3)
  case first =>
    by_cases h6 : (6 : Int) < (n : Int)
    · go_wp2_with fail
      go_meet
      exact ⟨6, rfl, Nat.le_refl _, by omega, rfl⟩
    · go_wp2_with fail
      go_meet
      exact ⟨n, rfl, by omega, Nat.le_refl _, rfl⟩
  case rest =>
    obtain ⟨m, es, hm6, hmn, ew⟩ := hcut
    have ew2 := ew.symm
    subst ew2
    subst es
    obtain ⟨L, hL⟩ : ∃ L, L = x1.take m := ⟨_, rfl⟩
    have hLl : m = L.length := by rw [hL, List.length_take, ← HN.out]; omega
    have hSL : ∀ x ∈ L, Sz x := fun x hx => HSL.out x (List.mem_of_mem_take (hL ▸ hx))
    have HL := Lib.hid (show Kd.C k28 w Am m L by rw [hL]; exact C_take' HM.out hmn)
    obtain ⟨vb1, hvb1, hv1⟩ := vast_k [p] (by simp) (fun x hx => by rw [List.mem_singleton.1 hx]; exact HSP.out)
    obtain ⟨vb2, hvb2, hv2⟩ := vast_n L (by omega) hSL m hLl
    have HV1 := Lib.hid hv1
    have HV2 := Lib.hid hv2
    have HVB1 := Lib.hid hvb1
    have HVB2 := Lib.hid hvb2
    have HLL := Lib.hid hLl
    have HSL2 := Lib.hid hSL
    have V1 : True := trivial
    have V2 : True := trivial
    have hmc : m ≤ cm := by omega
    clear ew hL hLl hSL hv1 hv2 hvb1 hvb2 HM HSL HN hcm hmn hxl
    go_upto_region 6 with (first | ((with_reducible refine gate_ (.load 28 (.tmp 3)) rfl ?_); go_must (refine wpList_load_row rfl 28 (.tmp 3) rfl b3 rfl _ _ _ _ KP.out Try.underlying28 rfl (by kernel_rfl) ?_)) | (clear V1; go_at_call 28; go_must (refine (HV1.out _ _ _ (one_C (k28.K_below BW3.out HK.out)) (Nat.le_refl _)).mono ?_); rintro e w4 ⟨rfl, hb⟩; have hb4 := Below.trans ((Below.refl _ w3).alloc (Nat.le_refl _) _) (hb.mono (by rw [size_new]; exact Nat.le_succ _)); have KP4 := Lib.hid (blk_below KP.out hb4); have KT4 := Lib.hid (blk_below KT.out hb4); have BW4 := Lib.hid (BW3.out.trans (hb4.mono BW3.out.size)); clear hb hb4) | (clear V2; go_at_call 28; go_must (refine (HV2.out Am cm _ (Kd.C_below HL.out BW4.out) hmc).mono ?_); rintro e w5 ⟨rfl, hb⟩; have KP5 := Lib.hid (blk_below KP4.out hb); have KT5 := Lib.hid (blk_below KT4.out hb); have BW5 := Lib.hid (BW4.out.trans (hb.mono BW4.out.size)); clear hb))
    clear HV1 HV2 KP KT BW3 KP4 KT4 BW4
    cases vb1 with
    | true =>
      go_wp2_with fail
      go_ret
      exact ⟨rfl, BW5.out⟩
    | false =>
    cases vb2 with
    | true =>
      go_wp2_with fail
      go_ret
      exact ⟨rfl, BW5.out⟩
    | false =>
    have hok : ∀ x ∈ p :: L, OkA x := fun x hx => by
      rcases List.mem_cons.1 hx with rfl | hx
      · exact ⟨okB_iff.1 HSP.out.ok, HVB1.out rfl _ (by simp)⟩
      · exact ⟨okB_iff.1 (HSL2.out x hx).ok, HVB2.out rfl x hx⟩
    have hsz : ∀ x ∈ p :: L, Sz x := fun x hx => by
      rcases List.mem_cons.1 hx with rfl | hx
      · exact HSP.out
      · exact HSL2.out x hx
    have HOK := Lib.hid hok
    have HSZ := Lib.hid hsz
    clear HVB1 HVB2 hok hsz HSL2
    go_wp2_with fail
    go_loopw [10, 11] (fun v i wr => ∃ (k : Nat) (T : Option Addr) (u : Nat), k ≤ m ∧ i = .int .i64 (k : Nat) ∧ v = .slice T k u ∧ Hid (Kd.R k28 28 wr w5.heap.size (fun _ => True) (.slice T k u) (L.take k)) ∧ Hid (Below w5.heap.size w5 wr)) (fun _ i _ => m - (intOf i).toNat)
    case atStart => exact ⟨0, none, 0, Nat.zero_le _, rfl, rfl, Lib.hid (Kd.R_nil _ _ _ _ _), Lib.hid (Below.refl _ _)⟩
    case round =>
      obtain ⟨k, T, u, hk, rfl, rfl, HR, HB⟩ := hrel
      have BWR := Lib.hid (BW5.out.trans (HB.out.mono BW5.out.size))
      by_cases hlt : k < m
      · obtain ⟨ad, X0, y0, X1, y1, X2, y2, X3, y3, X4, y4, X5, y5, X6, y6, X7, y7, X8, y8, X9, y9, X10, y10, eA, c0, c1, c2, c3, c4, c5, c6, c7, c8, c9, c10, l0, g0, l1, g1, l2, g2, l3, g3, l4, g4, l5, g5, l6, g6, l7, g7, l8, g8, l9, g9, l10, g10⟩ := at_T28 HL.out (k : Int) (by omega) (by omega)
        obtain ⟨x, hx⟩ : ∃ x, x = rd_T28 L (k : Int) := ⟨_, rfl⟩
        rw [← hx, Int.toNat_natCast] at c0 c1 c2 c3 c4 c5 c6 c7 c8 c9 c10
        rw [← hx] at l0 g0 l1 g1 l2 g2 l3 g3 l4 g4 l5 g5 l6 g6 l7 g7 l8 g8 l9 g9 l10 g10
        replace c0 := pw_cell_below BWR.out c0
        replace c1 := pw_cell_below BWR.out c1
        replace c2 := pw_cell_below BWR.out c2
        replace c3 := pw_cell_below BWR.out c3
        replace c4 := pw_cell_below BWR.out c4
        replace c5 := pw_cell_below BWR.out c5
        replace c6 := pw_cell_below BWR.out c6
        replace c7 := pw_cell_below BWR.out c7
        replace c8 := pw_cell_below BWR.out c8
        replace c9 := pw_cell_below BWR.out c9
        replace c10 := pw_cell_below BWR.out c10
        have HX := Lib.hid (show k28.K w x (#[.slice X0 x.f0.length y0, .slice X1 x.f1.length y1, .slice X2 x.f2.length y2, .slice X3 x.f3.length y3, .slice X4 x.f4.length y4, .slice X5 x.f5.length y5, .slice X6 x.f6.length y6, .slice X7 x.f7.length y7, .slice X8 x.f8.length y8, .slice X9 x.f9.length y9, .slice X10 x.f10.length y10] : Array Value).toList from k28_mk w x l0 g0 l1 g1 l2 g2 l3 g3 l4 g4 l5 g5 l6 g6 l7 g7 l8 g8 l9 g9 l10 g10)
        have hkL : k < L.length := by rw [← HLL.out]; exact hlt
        have hxe : x = L[k] := by rw [hx]; simp [rd_T28, List.getD_eq_getElem?_getD, hkL]
        have HTK := Lib.hid (show L.take k ++ [x] = L.take (k + 1) by rw [hxe, List.take_append_getElem])
        have HZX := Lib.hid (HSZ.out x (List.mem_cons_of_mem _ (hxe ▸ List.getElem_mem hkL)))
        have HKL := Lib.hid (show (L.take k).length = k by rw [List.length_take]; omega)
        have HKL1 := Lib.hid (show (L.take (k + 1)).length = k + 1 by rw [List.length_take]; omega)
        subst eA
        have i0 : (0 : Int) ≤ (k : Int) := by omega
        have i1 : (k : Int) < (m : Int) := by omega
        clear hx hxe hkL l0 g0 l1 g1 l2 g2 l3 g3 l4 g4 l5 g5 l6 g6 l7 g7 l8 g8 l9 g9 l10 g10
        go_wp2_with (first | (go_at_call 30; go_must (refine (twin_m x #[.slice X0 x.f0.length y0, .slice X1 x.f1.length y1, .slice X2 x.f2.length y2, .slice X3 x.f3.length y3, .slice X4 x.f4.length y4, .slice X5 x.f5.length y5, .slice X6 x.f6.length y6, .slice X7 x.f7.length y7, .slice X8 x.f8.length y8, .slice X9 x.f9.length y9, .slice X10 x.f10.length y10] _ (k28.K_below BWR.out HX.out) HZX.out).mono ?_); rintro e wt ⟨CT, rfl, hM, hb⟩; obtain ⟨q0, q1, q2, q3, q4, q5, q6, q7, q8, q9, q10, eC, r0, r1, r2, r3, r4, r5, r6, r7, r8, r9, r10⟩ := k28_openM hM; obtain rfl : CT = #[q0, q1, q2, q3, q4, q5, q6, q7, q8, q9, q10] := (by cases CT; simpa using eC); obtain ⟨Y0, d0, rfl⟩ := Kd.R_slice r0; obtain ⟨Y1, d1, rfl⟩ := Kd.R_slice r1; obtain ⟨Y2, d2, rfl⟩ := Kd.R_slice r2; obtain ⟨Y3, d3, rfl⟩ := Kd.R_slice r3; obtain ⟨Y4, d4, rfl⟩ := Kd.R_slice r4; obtain ⟨Y5, d5, rfl⟩ := Kd.R_slice r5; obtain ⟨Y6, d6, rfl⟩ := Kd.R_slice r6; obtain ⟨Y7, d7, rfl⟩ := Kd.R_slice r7; obtain ⟨Y8, d8, rfl⟩ := Kd.R_slice r8; obtain ⟨Y9, d9, rfl⟩ := Kd.R_slice r9; obtain ⟨Y10, d10, rfl⟩ := Kd.R_slice r10; have HMM := Lib.hid hM; have HRT := Lib.hid (Kd.R_below HR.out hb); have HBT := Lib.hid (HB.out.trans (hb.mono HB.out.size)); have HSR := Lib.hid HB.out.size; clear hM hb eC r0 r1 r2 r3 r4 r5 r6 r7 r8 r9 r10) | ((with_reducible refine gate_builtin (b := .append) (xs := #[.tmp 47, .tmp 53]) rfl ?_); at_builtin; go_must (refine Kd.R_append k28 (w0 := wt) w5.heap.size rfl (.tmp 47) (.tmp 53) 60 28 (.agg #[.slice none 0 0, .slice none 0 0, .slice none 0 0, .slice none 0 0, .slice none 0 0, .slice none 0 0, .slice none 0 0, .slice none 0 0, .slice none 0 0, .slice none 0 0, .slice none 0 0]) 264 rfl Try.underlying60 info28z rfl (by decide) (by omega) (.slice T k u) (L.take k) x [.slice Y0 x.f0.length d0, .slice Y1 x.f1.length d1, .slice Y2 x.f2.length d2, .slice Y3 x.f3.length d3, .slice Y4 x.f4.length d4, .slice Y5 x.f5.length d5, .slice Y6 x.f6.length d6, .slice Y7 x.f7.length d7, .slice Y8 x.f8.length d8, .slice Y9 x.f9.length d9, .slice Y10 x.f10.length d10] (fun _ => True) (fun k_ => wr.heap.size ≤ k_) rfl rfl ?aP ?aK ?aF ?aO ?aB ?aS ?aL ?_); (case aP => exact k28.M_lower HSR.out HMM.out); (case aK => exact (fun k_ hk_ => ⟨trivial, fun e_ => absurd (Kd.R_lt HR.out k_ e_.symm) (Nat.not_lt.2 hk_)⟩)); (case aF => exact (fun _ _ => trivial)); (case aO => exact HRT.out); (case aB => exact Below.refl _ _); (case aS => exact HBT.out.size); (case aL => (rw [HKL.out]; omega)); intro v1 wa ho hb hg hat; rw [HTK.out] at ho; obtain ⟨T1, u1, e1_⟩ := Kd.R_slice ho; rw [HKL1.out] at e1_; subst e1_; have HRA := Lib.hid ho; have HBA := Lib.hid (HBT.out.trans hb); clear ho hb hg hat))
        go_roundw
        case rel => exact ⟨k + 1, T1, u1, hlt, by go_num, rfl, HRA, HBA⟩
        case measure => simp [intOf]; omega
      · obtain rfl : m = k := by omega
        obtain ⟨WA, hWA⟩ : ∃ W, W = wr := ⟨_, rfl⟩
        rw [← hWA] at HR HB BWR ⊢
        have HC1 := Lib.hid (show Kd.C k28 WA T m L by
          have h := (Kd.R_reads' HR.out).2.2
          rw [HLL.out, List.take_length, ← HLL.out] at h
          exact h)
        have KPA := Lib.hid (blk_below KP5.out HB.out)
        have KTA := Lib.hid (blk_below KT5.out HB.out)
        clear hWA wr HR HB hlt hk KP5 KT5
        go_upto_region 14 with (first | ((with_reducible refine gate_ (.load 28 (.tmp 3)) rfl ?_); go_must (refine wpList_load_row rfl 28 (.tmp 3) rfl b3 rfl _ _ _ _ KPA.out Try.underlying28 rfl (by kernel_rfl) ?_)) | (go_at_call 30; go_must (refine (twin_k p _ _ (k28.K_below BWR.out HK.out) HSP.out).mono ?_); rintro e wt ⟨CT, rfl, kt, hb⟩; have KTW := Lib.hid kt; have HBT := Lib.hid hb; clear kt hb) | (go_at_call 42; go_must (refine (chain_kn p L CT T m u _ HLL.out KTW.out (Kd.C_below HC1.out HBT.out) (by omega) HOK.out).mono ?_); rintro e w7 ⟨TL, uL, rfl, hle, hC, hb⟩; have HLE := Lib.hid hle; have HCH := Lib.hid hC; have HB7 := Lib.hid (HBT.out.trans (hb.mono HBT.out.size)); clear hle hC hb))
        have KP7 := Lib.hid (blk_below KPA.out HB7.out)
        have KT7 := Lib.hid (blk_below KTA.out HB7.out)
        have BW7 := Lib.hid (BWR.out.trans (HB7.out.mono BWR.out.size))
        clear KPA KTA BWR HB7 HC1 KTW HBT
        go_upto_if 71 with (first | ((with_reducible refine gate_ (.load 28 (.tmp 3)) rfl ?_); go_must (refine wpList_load_row rfl 28 (.tmp 3) rfl b3 rfl _ _ _ _ KP7.out Try.underlying28 rfl (by kernel_rfl) ?_)) | ((with_reducible refine gate_dst (N := 13) rfl ?_); refine box_event ?hg (N := 13) ?hd (cs := #[.slice none 0 0, .slice none 0 0, .slice none 0 0, .slice none 0 0, .slice none 0 0, .slice none 0 0, .slice none 0 0, .slice none 0 0, .slice none 0 0, .slice none 0 0, .slice none 0 0]) (t := 28) ?hr ?_; (case hd => rfl); (case hg => rfl); (case hr => first | (go_simp; done) | (go_simp; rfl)); intro bL hg_ w8 hb8 hB8; go_must (have HTOK : True := trivial; have hle : w7.heap.size ≤ bL := (by omega)); clear hg_) | ((with_reducible refine gate_ (.store 28 (.tmp 13) (.tmp 68)) rfl ?_); go_must (refine bstore (t := 28) (p := 13) (v := .tmp 68) rfl rfl rfl bL _ #[.slice A0 p.f0.length c0, .slice A1 p.f1.length c1, .slice A2 p.f2.length c2, .slice A3 p.f3.length c3, .slice A4 p.f4.length c4, .slice A5 p.f5.length c5, .slice A6 p.f6.length c6, .slice A7 p.f7.length c7, .slice A8 p.f8.length c8, .slice A9 p.f9.length c9, .slice A10 p.f10.length c10] (.agg #[.slice A0 p.f0.length c0, .slice A1 p.f1.length c1, .slice A2 p.f2.length c2, .slice A3 p.f3.length c3, .slice A4 p.f4.length c4, .slice A5 p.f5.length c5, .slice A6 p.f6.length c6, .slice A7 p.f7.length c7, .slice A8 p.f8.length c8, .slice A9 p.f9.length c9, .slice A10 p.f10.length c10]) rfl rfl rfl hb8 (by kernel_rfl) (by simp) (fun q hq => k28.K_one HK.out q hq) ?_); intro ws hbs hoth hsz hbel; have KL := Lib.hid hbs; have HBL := Lib.hid (hB8.trans (hbel _ hle)); have HLT := Lib.hid hle; clear hb8 hB8 hbs hoth hsz hbel hle))
        clear HTOK
        go_cut [6] (fun s6 wx => s6 = .bool false ∧ ∃ CL : Array Value, Hid (wx.heap[bL]? = some (Obj.cells CL 28 (0, 0))) ∧ Hid (k28.K w (prevP p L m) CL.toList) ∧ Hid (Below w7.heap.size w7 wx))
        case first =>
          by_cases h0 : (0 : Int) < (m : Int)
          · have hm1 : m - 1 + 1 = m := by omega
            have BWS := Lib.hid (BW7.out.trans (HBL.out.mono BW7.out.size))
            obtain ⟨ad, X0, y0, X1, y1, X2, y2, X3, y3, X4, y4, X5, y5, X6, y6, X7, y7, X8, y8, X9, y9, X10, y10, eA, c0, c1, c2, c3, c4, c5, c6, c7, c8, c9, c10, l0, g0, l1, g1, l2, g2, l3, g3, l4, g4, l5, g5, l6, g6, l7, g7, l8, g8, l9, g9, l10, g10⟩ := at_T28 HL.out ((m - 1 : Nat) : Int) (by omega) (by omega)
            obtain ⟨x, hx⟩ : ∃ x, x = rd_T28 L ((m - 1 : Nat) : Int) := ⟨_, rfl⟩
            rw [← hx, Int.toNat_natCast] at c0 c1 c2 c3 c4 c5 c6 c7 c8 c9 c10
            rw [← hx] at l0 g0 l1 g1 l2 g2 l3 g3 l4 g4 l5 g5 l6 g6 l7 g7 l8 g8 l9 g9 l10 g10
            replace c0 := pw_cell_below BWS.out c0
            replace c1 := pw_cell_below BWS.out c1
            replace c2 := pw_cell_below BWS.out c2
            replace c3 := pw_cell_below BWS.out c3
            replace c4 := pw_cell_below BWS.out c4
            replace c5 := pw_cell_below BWS.out c5
            replace c6 := pw_cell_below BWS.out c6
            replace c7 := pw_cell_below BWS.out c7
            replace c8 := pw_cell_below BWS.out c8
            replace c9 := pw_cell_below BWS.out c9
            replace c10 := pw_cell_below BWS.out c10
            have HX := Lib.hid (show k28.K w x (#[.slice X0 x.f0.length y0, .slice X1 x.f1.length y1, .slice X2 x.f2.length y2, .slice X3 x.f3.length y3, .slice X4 x.f4.length y4, .slice X5 x.f5.length y5, .slice X6 x.f6.length y6, .slice X7 x.f7.length y7, .slice X8 x.f8.length y8, .slice X9 x.f9.length y9, .slice X10 x.f10.length y10] : Array Value).toList from k28_mk w x l0 g0 l1 g1 l2 g2 l3 g3 l4 g4 l5 g5 l6 g6 l7 g7 l8 g8 l9 g9 l10 g10)
            have HPV := Lib.hid (show prevP p L m = x by rw [← hm1, prevP_at p L (k := m - 1) (by rw [← HLL.out]; omega), hx])
            subst eA
            clear hx hm1 l0 g0 l1 g1 l2 g2 l3 g3 l4 g4 l5 g5 l6 g6 l7 g7 l8 g8 l9 g9 l10 g10
            go_wp2_with (first | ((with_reducible refine gate_ (.store 28 (.tmp 13) (.tmp 77)) rfl ?_); go_must (refine bstore (t := 28) (p := 13) (v := .tmp 77) rfl rfl rfl bL _ #[.slice X0 x.f0.length y0, .slice X1 x.f1.length y1, .slice X2 x.f2.length y2, .slice X3 x.f3.length y3, .slice X4 x.f4.length y4, .slice X5 x.f5.length y5, .slice X6 x.f6.length y6, .slice X7 x.f7.length y7, .slice X8 x.f8.length y8, .slice X9 x.f9.length y9, .slice X10 x.f10.length y10] (.agg #[.slice X0 x.f0.length y0, .slice X1 x.f1.length y1, .slice X2 x.f2.length y2, .slice X3 x.f3.length y3, .slice X4 x.f4.length y4, .slice X5 x.f5.length y5, .slice X6 x.f6.length y6, .slice X7 x.f7.length y7, .slice X8 x.f8.length y8, .slice X9 x.f9.length y9, .slice X10 x.f10.length y10]) rfl rfl rfl KL.out (by kernel_rfl) (by simp) (fun q hq => k28.K_one HX.out q hq) ?_); intro wz hbs hoth hsz hbel; have KL2 := Lib.hid hbs; have HBL2 := Lib.hid (HBL.out.trans (hbel _ HLT.out)); clear hbs hoth hsz hbel))
            go_meet
            exact ⟨rfl, _, KL2, Lib.hid (by rw [HPV.out]; exact HX.out), HBL2⟩
          · go_wp2_with fail
            go_meet
            exact ⟨rfl, _, KL, Lib.hid (by rw [show m = 0 by omega]; exact HK.out), HBL⟩
        case rest =>
        obtain ⟨es, CL, KL9, HKL, HBL9⟩ := hcut
        subst es
        clear KL HBL HLT
        have BWX := Lib.hid (BW7.out.trans (HBL9.out.mono BW7.out.size))
        go_upto_region 19 with fail
        refine th19.region p (prevP p L m) _ _ (k28.K_below BWX.out HK.out) (k28.K_below BWX.out HKL.out) HSP.out (HSZ.out _ (prevP_mem p L m)) ((HOK.out p List.mem_cons_self).two (HOK.out _ (prevP_mem p L m))) (by kernel_rfl) rfl rfl (blk_below KP7.out HBL9.out) rfl KL9.out ?_
        rintro xs9 w9 hb9 ⟨AW, cW, e9, hlW, hW⟩
        simp only [putZ, Act.put, List.setIfInBounds_toArray, List.set_cons_zero, List.set_cons_succ, Nat.reduceAdd]
        rw [e9]
        have hb79 := HBL9.out.trans (hb9.mono HBL9.out.size)
        have KP9 := Lib.hid (blk_below KP7.out hb79)
        have KT9 := Lib.hid (blk_below KT7.out hb79)
        have BW9 := Lib.hid (BW7.out.trans (hb79.mono BW7.out.size))
        have HCH9 := Lib.hid (Kd.C_below HCH.out hb79)
        obtain ⟨nW, hnW⟩ : ∃ n, n = (chL p (prevP p L m)).length := ⟨_, rfl⟩
        rw [← hnW] at hW hlW ⊢
        have HW9 := Lib.hid hW
        have HLW := Lib.hid hlW
        have HNW := Lib.hid hnW
        have hnWb : nW ≤ 131072 := by rw [hnW]; exact chL_small (HOK.out p List.mem_cons_self) (HOK.out _ (prevP_mem p L m))
        clear hb9 e9 hlW hW hb79 hnW KL9 HKL HBL9 BWX KP7 KT7 BW7 HCH
        go_wp2_with (first | ((with_reducible refine gate_ (.load 30 (.tmp 5)) rfl ?_); go_must (refine wpList_load_row rfl 30 (.tmp 5) rfl b5 rfl _ _ _ _ KT9.out Try.underlying30 rfl (by kernel_rfl) ?_)))
        go_loopw [15, 16] (fun v i wr => ∃ (k : Nat) (T : Option Addr) (u : Nat) (xs : List Tri), k ≤ m ∧ i = .int .i64 (k : Nat) ∧ v = .slice T xs.length u ∧ Hid (xs.length ≤ 1 + k * 131072) ∧ Hid (Kd.R k30 30 wr w9.heap.size (fun _ => True) (.slice T xs.length u) xs) ∧ Hid (Below w9.heap.size w9 wr)) (fun _ i _ => m - (intOf i).toNat)
        case atStart => exact ⟨0, _, _, [t], Nat.zero_le _, rfl, rfl, Lib.hid (by simp), Lib.hid (lit_one t (Nat.le_refl _)), Lib.hid ((Below.refl _ w9).alloc (Nat.le_refl _) _)⟩
        case round =>
          obtain ⟨k, T, u, xs, hk, rfl, rfl, HXL, HR, HB⟩ := hrel
          by_cases hlt : k < m
          · obtain ⟨WO, rfl⟩ : ∃ x, x = wr := ⟨wr, rfl⟩
            obtain ⟨aL, AK, cK, eL, q0, lK, gK⟩ := at_L16 HCH9.out (k : Int) (by omega) (by omega)
            rw [chain_at p L (show k < m from hlt), Int.toNat_natCast] at q0
            rw [chain_at p L (show k < m from hlt)] at lK gK
            have hnKb := chL_small (HOK.out _ (prevP_mem p L k)) (HOK.out _ (prevP_mem p L (k + 1)))
            obtain ⟨LK, hLK⟩ : ∃ l, l = chL (prevP p L k) (prevP p L (k + 1)) := ⟨_, rfl⟩
            rw [← hLK] at q0 lK gK hnKb
            obtain ⟨nK, hnK⟩ : ∃ n, n = LK.length := ⟨_, rfl⟩
            rw [← hnK] at q0 lK gK hnKb
            have HQ : Hid (∀ W, Below w9.heap.size w9 W → W.cell? (aL.add k) = some (.slice AK nK cK)) := Lib.hid (fun W hW => pw_cell_below hW q0)
            have HGK := Lib.hid gK
            subst eL
            have k0 : (0 : Int) ≤ (k : Int) := by omega
            have k1 : (k : Int) < (m : Int) := by omega
            clear q0 lK gK hLK hnK
            go_wp2_with fail
            go_loopw [15, 17] (fun v i wr => ∃ (j : Nat) (T : Option Addr) (u : Nat) (xs : List Tri), j ≤ nK ∧ i = .int .i64 (j : Nat) ∧ v = .slice T xs.length u ∧ Hid (xs.length ≤ 1 + k * 131072 + j) ∧ Hid (Kd.R k30 30 wr w9.heap.size (fun _ => True) (.slice T xs.length u) xs) ∧ Hid (Below w9.heap.size w9 wr)) (fun _ i _ => nK - (intOf i).toNat)
            case atStart => exact ⟨0, T, u, xs, Nat.zero_le _, rfl, rfl, HXL, HR, HB⟩
            case round =>
              obtain ⟨j, T2, u2, ys, hj, rfl, rfl, HYL, HR2, HB2⟩ := hrel
              have qL := HQ.out _ HB2.out
              by_cases hj2 : j < nK
              · obtain ⟨ad, eA, c0, c1, c2, c3⟩ := at_T53 (Kd.C_below HGK.out HB2.out) (j : Int) (by omega) (by omega)
                subst eA
                obtain ⟨x, hx⟩ : ∃ x, x = rd_T53 LK (j : Int) := ⟨_, rfl⟩
                rw [← hx, Int.toNat_natCast] at c0 c1 c2 c3
                have i0 : (0 : Int) ≤ (j : Int) := by omega
                have i1 : (j : Int) < (nK : Int) := by omega
                clear hx
                go_wp2_with (first | ((with_reducible refine gate_builtin (b := .append) (xs := #[.tmp 100, .tmp 109]) rfl ?_); at_builtin; go_must (refine Kd.R_append k30 (w0 := w9) w9.heap.size rfl (.tmp 100) (.tmp 109) 26 30 (.agg #[(.string ⟨#[]⟩), (.string ⟨#[]⟩), (.string ⟨#[]⟩)]) 48 rfl Try.underlying26 info30 rfl (by decide) (by omega) (.slice T2 ys.length u2) ys x.f0 [.string x.f0.f0, .string x.f0.f1, .string x.f0.f2] (fun _ => True) (fun _ => False) rfl rfl ?aP (fun _ hk => hk.elim) ?aF ?aO ?aB ?aS ?aL ?_); (case aP => exact k30_mkM _ _ _ (x.f0)); (case aF => exact (fun _ _ => trivial)); (case aO => exact HR2.out); (case aB => exact HB2.out); (case aS => exact HB2.out.size); (case aL => (have := HYL.out; omega)); intro v3 w10 ho hb hg hat; obtain ⟨zs, hzs⟩ : ∃ l, l = ys ++ [x.f0] := ⟨_, rfl⟩; rw [← hzs] at ho; obtain ⟨T3, u3, rfl⟩ := Kd.R_slice ho; have HZL := Lib.hid (show zs.length ≤ 1 + k * 131072 + (j + 1) by have h1 := HYL.out; rw [hzs]; simp; omega); have HR9 := Lib.hid ho; have HB9 := Lib.hid hb; clear ho hb hg hat hzs))
                go_roundw
                case rel => exact ⟨j + 1, T3, u3, zs, hj2, by go_num, rfl, HZL, HR9, HB9⟩
                case measure => simp [intOf]; omega
              · obtain rfl : nK = j := by omega
                go_wp2_with fail
                go_roundw
                case rel => exact ⟨k + 1, T2, u2, ys, hlt, by go_num, rfl, Lib.hid (by have := HYL.out; rw [Nat.succ_mul]; omega), HR2, HB2⟩
                case measure => simp [intOf]; omega
          · obtain rfl : m = k := by omega
            have HM131 := Lib.hid (show xs.length ≤ 786433 by have := HXL.out; omega)
            clear HXL hlt hk
            obtain ⟨WO, rfl⟩ : ∃ x, x = wr := ⟨wr, rfl⟩
            go_wp2_with fail
            go_loopw [15, 18] (fun v i wr => ∃ (j : Nat) (T : Option Addr) (u : Nat) (xs : List Tri), j ≤ nW ∧ i = .int .i64 (j : Nat) ∧ v = .slice T xs.length u ∧ Hid (xs.length ≤ 786433 + j) ∧ Hid (Kd.R k30 30 wr w9.heap.size (fun _ => True) (.slice T xs.length u) xs) ∧ Hid (Below w9.heap.size w9 wr)) (fun _ i _ => nW - (intOf i).toNat)
            case atStart => exact ⟨0, T, u, xs, Nat.zero_le _, rfl, rfl, HM131, HR, HB⟩
            case round =>
              obtain ⟨j, T2, u2, ys, hj, rfl, rfl, HYL, HR2, HB2⟩ := hrel
              clear HR HB HM131
              by_cases hj2 : j < nW
              · obtain ⟨ad, eA, c0, c1, c2, c3⟩ := at_T53 (Kd.C_below HW9.out HB2.out) (j : Int) (by omega) (by omega)
                subst eA
                obtain ⟨x, hx⟩ : ∃ x, x = rd_T53 (chL p (prevP p L m)) (j : Int) := ⟨_, rfl⟩
                rw [← hx, Int.toNat_natCast] at c0 c1 c2 c3
                have i0 : (0 : Int) ≤ (j : Int) := by omega
                have i1 : (j : Int) < (nW : Int) := by omega
                clear hx
                go_wp2_with (first | ((with_reducible refine gate_builtin (b := .append) (xs := #[.tmp 117, .tmp 123]) rfl ?_); at_builtin; go_must (refine Kd.R_append k30 (w0 := w9) w9.heap.size rfl (.tmp 117) (.tmp 123) 26 30 (.agg #[(.string ⟨#[]⟩), (.string ⟨#[]⟩), (.string ⟨#[]⟩)]) 48 rfl Try.underlying26 info30 rfl (by decide) (by omega) (.slice T2 ys.length u2) ys x.f0 [.string x.f0.f0, .string x.f0.f1, .string x.f0.f2] (fun _ => True) (fun _ => False) rfl rfl ?aP (fun _ hk => hk.elim) ?aF ?aO ?aB ?aS ?aL ?_); (case aP => exact k30_mkM _ _ _ (x.f0)); (case aF => exact (fun _ _ => trivial)); (case aO => exact HR2.out); (case aB => exact HB2.out); (case aS => exact HB2.out.size); (case aL => (have := HYL.out; omega)); intro v3 w10 ho hb hg hat; obtain ⟨zs, hzs⟩ : ∃ l, l = ys ++ [x.f0] := ⟨_, rfl⟩; rw [← hzs] at ho; obtain ⟨T3, u3, rfl⟩ := Kd.R_slice ho; have HZL := Lib.hid (show zs.length ≤ 786433 + (j + 1) by have h1 := HYL.out; rw [hzs]; simp; omega); have HR9 := Lib.hid ho; have HB9 := Lib.hid hb; clear ho hb hg hat hzs))
                go_roundw
                case rel => exact ⟨j + 1, T3, u3, zs, hj2, by go_num, rfl, HZL, HR9, HB9⟩
                case measure => simp [intOf]; omega
              · obtain rfl : nW = j := by omega
                by_cases hbig : (400 : Int) < (ys.length : Int)
                · go_wp2_with fail
                  go_ret
                  exact ⟨rfl, BW9.out.trans (HB2.out.mono BW9.out.size)⟩
                · have hys : (ys.length : Int) ≤ 400 := by omega
                  obtain ⟨WA2, hWA⟩ : ∃ W, W = wr := ⟨_, rfl⟩
                  rw [← hWA] at HR2 HB2 ⊢
                  have HAL := Lib.hid (Kd.R_reads' HR2.out).2.2
                  have KPB := Lib.hid (blk_below KP9.out HB2.out)
                  have BWB := Lib.hid (BW9.out.trans (HB2.out.mono BW9.out.size))
                  have HCB := Lib.hid (Kd.C_below HCH9.out HB2.out)
                  have HWB := Lib.hid (Kd.C_below HW9.out HB2.out)
                  have HKB := Lib.hid (k28.K_below BWB.out HK.out)
                  clear hbig hWA wr HR2 HB2 KP9 KT9 BW9 HCH9 HW9 HYL hj2 hj HK
                  go_upto_block 8 with fail
                  refine through_main p L _ m b3 TL uL AW nW cW T2 u2 ys WA2 _ _ _ _ _ _ _ _ _ _ _ _ _ _ _ _ _ _ _ _ _ _ _ _ _ _ _ _ _ _ _ _ _ _ _ _ _ _ _ _ _ _ _ _ _ _ _ _ _ _ _ _ _ _ _ _ _ _ _ _ _ _ _ _ _ _ _ _ _ _ _ _ _ _ _ _ _ _ _ _ _ _ _ _ _ _ _ _ _ _ _ _ _ _ _ _ _ _ _ _ _ _ _ _ _ _ _ _ _ _ _ _ _ _ _ _ _ _ _ _ _ _ _ _ _ _ _ _ _ _ _ _ _ _ _ _ _ _ _ _ _ _ _ _ _ _ _ _ _ _ _ _ _ _ _ _ _ _ _ _ _ _ _ _ _ _ _ _ _ _ _ _ _ _ _ _ _ _ _ _ _ _ _ _ _ _ _ _ _ _ _ _ _ _ _ _ _ _ _ _ _ _ _ _ _ _ _ _ _ _ _ _ _ _ _ _ _ _ _ _ _ _ _ _ _ _ HSP.out HOK.out hys HAL.out KPB.out HKB.out HCB.out HNW.out HWB.out HLW.out hnWb hm6 ?_
                  intro u6 u19 u20 u21 u22 u23 u24 u128 u129 u130 u131 u132 u133 u134 u135 u136 u137 u138 u139 u140 u141 u142 u143 u144 u145 u146 u147 u148 u149 u150 u151 u152 u153 u154 u155 u156 u157 u158 u159 u160 u161 u162 u163 u164 u165 u166 u167 u168 u169 u170 u171 u172 u173 u174 u175 u176 u177 u178 u179 u180 u181 u182 u183 u184 u185 u186 u187 u188 u189 u190 u191 u192 u193 u194 u195 u196 u197 u198 u199 u200 u201 u202 u203 u204 u205 u206 u207 u208 u209 u210 u211 u212 u213 u214 u215 u216 u217 u218 u219 u220 u221 u222 u223 u224 u225 u226 u227 u228 u229 wz hz
                  have HZ := Lib.hid (BWB.out.trans (hz.mono BWB.out.size))
                  clear hz
                  go_wp2_with fail
                  go_ret
                  exact ⟨rfl, HZ.out⟩

end Go.Proofs.Yteefneemmdfncaa.F
