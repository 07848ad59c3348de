import Derived.Test.YtnkdcekddhmjnaaRq
import Derived.StillTailTactics
import Derived.Laws.Rows
/- The document's Relation, walked: it is the plain relation. Conditions: the policy reads as it must; no list, and no rule's list of actions, is longer than 1048576; the product of the three is at most 65536. -/
namespace Go.Proofs.Ytnkdcekddhmjnaa.M
open Go.RowKit Go.Proofs.YtnkdcekddhmjnaaW.Raw Go.Proofs.YtnkdcekddhmjnaaW.PrintWords Go.Proofs.YtnkdcekddhmjnaaW.PrintLast Go.Proofs.YtnkdcekddhmjnaaW.PrintAll Go.Proofs.Ytnkdcekddhmjnaa.F
set_option linter.unusedVariables false
set_option linter.unusedSimpArgs false
set_option maxRecDepth 100000 in
set_option maxHeartbeats 8000000 in
theorem refRelation_calls (p : Pol) (C0 : Array Value) (w : World) (hk0 : k34.K w p C0.toList) (hs : Sz p) (hcap : p.f1.length * (p.f3.length * p.f0.length) ≤ 65536) :
    Calls Try.prog 27 #[.agg C0] w fun e w' => ∃ v, e = .returned v ∧ Kd.R k36 36 w' w.heap.size (fun _ => True) v (relL p) ∧ Below w.heap.size w w' := by
  have HK := Lib.hid hk0
  obtain ⟨A0, c0, A1, c1, A2, c2, A3, c3, A4, c4, A5, c5, A6, c6, A7, c7, A8, c8, A9, c9, A10, c10, e_, l0, g0, l1, g1, l2, g2, l3, g3, l4, g4, l5, g5, l6, g6, l7, g7, l8, g8, l9, g9, l10, g10⟩ := k34_open hk0
  obtain rfl : C0 = #[.slice A0 p.f0.length c0, .slice A1 p.f1.length c1, .slice A2 p.f2.length c2, .slice A3 p.f3.length c3, .slice A4 p.f4.length c4, .slice A5 p.f5.length c5, .slice A6 p.f6.length c6, .slice A7 p.f7.length c7, .slice A8 p.f8.length c8, .slice A9 p.f9.length c9, .slice A10 p.f10.length c10] := by cases C0; simpa using e_
  clear e_
  have HP7 := Lib.hid g7
  have HP8 := Lib.hid g8
  have HP5 := Lib.hid g5
  have HP6 := Lib.hid g6
  have HP3 := Lib.hid g3
  have HP0 := Lib.hid g0
  clear hk0 g0 g1 g2 g3 g4 g5 g6 g7 g8 g9 g10
  have hs0 := hs.l0
  have hs1 := hs.l1
  have hs3 := hs.l3
  have hs5 := hs.l5
  have hs6 := hs.l6
  have hs7 := hs.l7
  have hs8 := hs.l8
  have HZ := Lib.hid hs
  clear hs
  go_enter Try.func27, Try.ntmps27
  go_upto_region 1 with (first | ((with_reducible refine gate_dst (N := 1) rfl ?_); refine box_event ?hg (N := 1) ?hd (cs := #[.slice A0 p.f0.length c0, .slice A1 p.f1.length c1, .slice A2 p.f2.length c2, .slice A3 p.f3.length c3, .slice A4 p.f4.length c4, .slice A5 p.f5.length c5, .slice A6 p.f6.length c6, .slice A7 p.f7.length c7, .slice A8 p.f8.length c8, .slice A9 p.f9.length c9, .slice A10 p.f10.length c10]) (t := 34) ?hr ?_; (case hd => rfl); (case hg => rfl); (case hr => first | (go_simp; done) | (go_simp; rfl)); intro b1 hg_ w1 hb1 hB1; go_must (have hle1 : w.heap.size ≤ b1 := (by omega)); clear hg_))
  have H1 := Lib.hid hb1
  have BW := Lib.hid hB1
  clear hb1 hB1
  go_upto_region 2 with (first | ((with_reducible refine gate_ (.load 34 (.tmp 1)) rfl ?_); go_must (refine wpList_load_row rfl 34 (.tmp 1) rfl b1 rfl _ _ _ _ H1.out Try.underlying34 rfl (by kernel_rfl) ?_)) | (go_at_call 61; go_must (refine (rsubj_k p _ _ (k34.K_below BW.out HK.out) HZ.out).mono ?_); rintro e w2 ⟨v, rfl, hR, hb⟩; obtain ⟨sl, hsl⟩ : ∃ l, l = p.f1.map (·.f0) := ⟨_, rfl⟩; rw [← hsl] at hR; have hsll : sl.length ≤ 1048576 := (by rw [hsl, List.length_map]; exact hs1); have HSL := Lib.hid hsl; clear hsl; obtain ⟨Y, d, rfl⟩ := Kd.R_slice hR; have HC := Lib.hid (Kd.R_reads' hR).2.2; have hYd := (Kd.R_reads' hR).2.1; have BW2 := Lib.hid (BW.out.trans (hb.mono BW.out.size)); have H2 := Lib.hid (blk_below H1.out hb); clear hR hb) | (go_at_call 60; go_must (refine (rfirst_k sl Y d _ HC.out hYd hsll).mono ?_); rintro e w3 ⟨v, rfl, hR, hb⟩; obtain ⟨wl, hwl⟩ : ∃ l, l = addAll [] sl := ⟨_, rfl⟩; rw [← hwl] at hR; obtain ⟨X3, y3, e3⟩ := Kd.R_slice hR; subst e3; have R3 := Lib.hid (Kd.R_lower hR BW2.out.size); have BW3 := Lib.hid (BW2.out.trans (hb.mono BW2.out.size)); have H3 := Lib.hid (blk_below H2.out hb); have HWL := Lib.hid hwl; clear hR hb hwl))
  clear HC hYd H1 H2 BW BW2
  obtain ⟨qb0, qb1, qb2, qb3, qb4, qb5, qb6, qb7, qb8, qb9, qb10, qb11, qb12, qb13, qb14, qb15, qb16, qb17, qb18, qb19, qb20, qb21⟩ := bC11 (Aside0.mk H3.out)
  go_upto_region 3 with (first | (go_at_call 60; go_must (refine (rfirst_k p.f3 A3 c3 _ (Kd.C_below HP3.out BW3.out) l3 (by omega)).mono ?_); rintro e w4 ⟨v, rfl, hR, hb⟩; obtain ⟨ol, hol⟩ : ∃ l, l = addAll [] p.f3 := ⟨_, rfl⟩; rw [← hol] at hR; obtain ⟨X4, y4, e3⟩ := Kd.R_slice hR; subst e3; have R4 := Lib.hid (Kd.R_lower hR BW3.out.size); have BW4 := Lib.hid (BW3.out.trans (hb.mono BW3.out.size)); have H4 := Lib.hid (blk_below H3.out hb); have R34 := Lib.hid (Kd.R_below R3.out hb); have HOL := Lib.hid hol; clear hR hb hol))
  clear qb0 qb1 qb2 qb3 qb4 qb5 qb6 qb7 qb8 qb9 qb10 qb11 qb12 qb13 qb14 qb15 qb16 qb17 qb18 qb19 qb20 qb21
  obtain ⟨qb0, qb1, qb2, qb3, qb4, qb5, qb6, qb7, qb8, qb9, qb10, qb11, qb12, qb13, qb14, qb15, qb16, qb17, qb18, qb19, qb20, qb21⟩ := bC11 (Aside0.mk H4.out)
  go_upto_region 4 with (first | (go_at_call 60; go_must (refine (rfirst_k p.f0 A0 c0 _ (Kd.C_below HP0.out BW4.out) l0 (by omega)).mono ?_); rintro e w5 ⟨v, rfl, hR, hb⟩; obtain ⟨al, hal⟩ : ∃ l, l = addAll [] p.f0 := ⟨_, rfl⟩; rw [← hal] at hR; obtain ⟨X5, y5, e3⟩ := Kd.R_slice hR; subst e3; have HS := Lib.hid (show RrS w b1 #[.slice A0 p.f0.length c0, .slice A1 p.f1.length c1, .slice A2 p.f2.length c2, .slice A3 p.f3.length c3, .slice A4 p.f4.length c4, .slice A5 p.f5.length c5, .slice A6 p.f6.length c6, .slice A7 p.f7.length c7, .slice A8 p.f8.length c8, .slice A9 p.f9.length c9, .slice A10 p.f10.length c10] (.slice X3 wl.length y3) (.slice X4 ol.length y4) (.slice X5 al.length y5) wl ol al w5 from ⟨blk_below H4.out hb, BW4.out.trans (hb.mono BW4.out.size), Kd.R_below R34.out hb, Kd.R_below R4.out hb, Kd.R_lower hR BW4.out.size⟩); have HAL := Lib.hid hal; clear hR hb hal))
  clear qb0 qb1 qb2 qb3 qb4 qb5 qb6 qb7 qb8 qb9 qb10 qb11 qb12 qb13 qb14 qb15 qb16 qb17 qb18 qb19 qb20 qb21
  clear BW3 BW4 H3 H4 R3 R34 R4
  have hwl : wl.length ≤ p.f1.length := by
    rw [HWL.out, HSL.out]
    have := addAll_len (p.f1.map (·.f0)) []
    simpa using this
  have hol : ol.length ≤ p.f3.length := by
    rw [HOL.out]
    have := addAll_len p.f3 []
    simpa using this
  have hal : al.length ≤ p.f0.length := by
    rw [HAL.out]
    have := addAll_len p.f0 []
    simpa using this
  go_wp2_with fail
  go_loopw [6, 7] (fun v i wr => ∃ (k : Nat) (A' : Option Addr) (c' : Nat) (Ls : List (List ByteArray)), k ≤ ol.length ∧ i = .int .i64 (k : Nat) ∧ v = .slice A' k c' ∧ Ls.length = k ∧ Hid (∀ j, j < k → ∀ L, Ls[j]? = some L → L.length ≤ 4194304 ∧ ∀ x, x ∈ L ↔ x ∈ upO p (ol.getD j ByteArray.empty)) ∧ RrS w b1 #[.slice A0 p.f0.length c0, .slice A1 p.f1.length c1, .slice A2 p.f2.length c2, .slice A3 p.f3.length c3, .slice A4 p.f4.length c4, .slice A5 p.f5.length c5, .slice A6 p.f6.length c6, .slice A7 p.f7.length c7, .slice A8 p.f8.length c8, .slice A9 p.f9.length c9, .slice A10 p.f10.length c10] (.slice X3 wl.length y3) (.slice X4 ol.length y4) (.slice X5 al.length y5) wl ol al wr ∧ Kd.R (Kd.slice 9 Kd.string) 25 wr w.heap.size (fun _ => True) (.slice A' k c') Ls) (fun _ i _ => ol.length - (intOf i).toNat)
  case atStart => exact ⟨0, none, 0, [], Nat.zero_le _, rfl, rfl, rfl, Lib.hid (fun j hj => absurd hj (Nat.not_lt_zero _)), HS.out, Kd.R_nil _ _ _ _ _⟩
  case round =>
    obtain ⟨k, A', c', Ls, hk, rfl, rfl, hLs, hM, hS, hRL⟩ := hrel
    clear HS
    have HS := Lib.hid hS
    have RL := Lib.hid hRL
    have HLs := Lib.hid hLs
    clear hS hRL hLs
    by_cases hlt : k < ol.length
    · obtain ⟨ad4, e4, a4⟩ := str_at (Kd.R_reads' HS.out.r4).2.2 k hlt
      subst e4
      obtain ⟨x, hx⟩ : ∃ x, x = ol.getD k ByteArray.empty := ⟨_, rfl⟩
      rw [← hx] at a4
      have HX := Lib.hid hx
      clear hx
      obtain ⟨qb0, qb1, qb2, qb3, qb4, qb5, qb6, qb7, qb8, qb9, qb10, qb11, qb12, qb13, qb14, qb15, qb16, qb17, qb18, qb19, qb20, qb21⟩ := bC11 (Aside0.mk HS.out.h1)
      have i0 : (0 : Int) ≤ (k : Int) := by omega
      have i1 : (k : Int) < (ol.length : Int) := by omega
      go_wp2_with fail
      have hLs1 : Ls.length ≤ 1048576 := by
        rw [HLs.out]
        omega
      clear qb0 qb1 qb2 qb3 qb4 qb5 qb6 qb7 qb8 qb9 qb10 qb11 qb12 qb13 qb14 qb15 qb16 qb17 qb18 qb19 qb20 qb21
      refine rr8 rfl rfl rfl rfl rfl rfl HS.out (fun W hW => (nm_at hW hlt).trans (congrArg (fun z => some (Value.string z)) HX.out.symm)) hlt RL.out hLs1 HP7.out l7 hs7 HP8.out l8 hs8 ?_
      intro xs W8 L hS8 hL hR hx
      obtain ⟨A2, c2, e2⟩ := Kd.R_slice hR
      rw [e2] at hR hx
      simp only [putZ, Act.put, List.setIfInBounds_toArray, List.set_cons_zero, List.set_cons_succ, Nat.reduceAdd]
      rw [hx]
      have e3 : (Ls ++ [L]).length = k + 1 := by
        rw [List.length_append, HLs.out]
        rfl
      rw [e3] at hR ⊢
      have HS8 := Lib.hid hS8
      have HR8 := Lib.hid hR
      have HL := Lib.hid hL
      clear hS8 hR hL hx HS RL
      go_wp2_with fail
      go_roundw
      case rel =>
        refine ⟨k + 1, A2, c2, Ls ++ [L], hlt, by go_num, rfl, e3, Lib.hid (fun j hj M hM1 => ?_), HS8.out, HR8.out⟩
        by_cases hj2 : j < k
        · rw [List.getElem?_append_left (by rw [HLs.out]; exact hj2)] at hM1
          exact hM.out j hj2 M hM1
        · obtain rfl : j = k := by omega
          rw [List.getElem?_append_right (by rw [HLs.out]; exact Nat.le_refl _), HLs.out, Nat.sub_self] at hM1
          injection hM1 with hM1
          subst hM1
          rw [← HX.out]
          exact HL.out
      case measure => simp [intOf]; omega
    · obtain rfl : k = ol.length := by omega
      clear hlt hk
      have HT := Lib.hid (show RtS w b1 #[.slice A0 p.f0.length c0, .slice A1 p.f1.length c1, .slice A2 p.f2.length c2, .slice A3 p.f3.length c3, .slice A4 p.f4.length c4, .slice A5 p.f5.length c5, .slice A6 p.f6.length c6, .slice A7 p.f7.length c7, .slice A8 p.f8.length c8, .slice A9 p.f9.length c9, .slice A10 p.f10.length c10] (.slice X3 wl.length y3) (.slice X4 ol.length y4) (.slice X5 al.length y5) wl ol al (.slice A' ol.length c') Ls wr from ⟨HS.out, RL.out⟩)
      clear HS RL
      obtain ⟨R, hR⟩ : ∃ R : Nat → List Tri, R = fun k => ((whosL p).take k).flatMap fun s => rowO p s (whatsL p) := ⟨_, rfl⟩
      have HR := Lib.hid hR
      clear hR
      have HWn : (whosL p) = wl.map (mkS p) := by
        rw [HWL.out, HSL.out]
        rfl
      have HOn : (whatsL p) = ol.map (mkO p) := by
        rw [HOL.out]
        rfl
      have HAn : actsL p = al := HAL.out.symm
      go_wp2_with fail
      go_loopw [8, 9] (fun v i wr => ∃ (k : Nat) (T3 : Option Addr) (t3 : Nat), k ≤ wl.length ∧ i = .int .i64 (k : Nat) ∧ v = .slice T3 (R k).length t3 ∧ RtS w b1 #[.slice A0 p.f0.length c0, .slice A1 p.f1.length c1, .slice A2 p.f2.length c2, .slice A3 p.f3.length c3, .slice A4 p.f4.length c4, .slice A5 p.f5.length c5, .slice A6 p.f6.length c6, .slice A7 p.f7.length c7, .slice A8 p.f8.length c8, .slice A9 p.f9.length c9, .slice A10 p.f10.length c10] (.slice X3 wl.length y3) (.slice X4 ol.length y4) (.slice X5 al.length y5) wl ol al (.slice A' ol.length c') Ls wr ∧ Kd.R k36 36 wr w.heap.size (fun _ => True) (.slice T3 (R k).length t3) (R k)) (fun _ i _ => wl.length - (intOf i).toNat)
      case atStart =>
        have h0 : R 0 = [] := by rw [HR.out]; rfl
        exact ⟨0, none, 0, Nat.zero_le _, rfl, by rw [h0]; rfl, HT.out, by rw [h0]; exact Kd.R_nil _ _ _ _ _⟩
      case round =>
        obtain ⟨k1, T3, t3, hk1, rfl, rfl, hT3, hR3⟩ := hrel
        obtain ⟨n3, hn3⟩ : ∃ n3, n3 = (R k1).length := ⟨_, rfl⟩
        rw [← hn3] at hR3 ⊢
        obtain ⟨WE, rfl⟩ : ∃ x, x = wr := ⟨wr, rfl⟩
        have HT3 := Lib.hid hT3
        have HR3 := Lib.hid hR3
        have HNF3 := Lib.hid hn3
        clear hT3 hR3 hn3 HT
        by_cases hlt1 : k1 < wl.length
        · obtain ⟨ad3, e3, -⟩ := str_at (Kd.R_reads' HT3.out.s.r3).2.2 k1 hlt1
          subst e3
          obtain ⟨x, hx⟩ : ∃ x, x = wl.getD k1 ByteArray.empty := ⟨_, rfl⟩
          have hks : (whosL p)[k1]? = some (mkS p x) := by rw [HWn, List.getElem?_map, hx, List.getD_eq_getElem?_getD, List.getElem?_eq_getElem hlt1]; rfl
          have a3 := nm3_at HT3.out.s hlt1
          rw [← hx] at a3
          have HX1 := Lib.hid hx
          have HKS := Lib.hid hks
          clear hx hks
          go_wp2_with fail
          refine rr13 rfl rfl rfl rfl rfl HT3.out.s a3 hlt1 HK.out HZ.out ?_
          intro xs5 W5 hb5 hx9 hx10
          simp only [putZ, Act.put, List.setIfInBounds_toArray, List.set_cons_zero, List.set_cons_succ, Nat.reduceAdd]
          rw [hx9, hx10]
          have HT5 := Lib.hid (HT3.out.below hb5)
          have HR5 := Lib.hid (Kd.R_below HR3.out hb5)
          have a5 := hCb hb5 a3
          clear hb5 hx9 hx10 a3 HT3 HR3
          go_wp2_with fail
          refine rr14 rfl rfl rfl rfl rfl HT5.out.s a5 hlt1 (Kd.C_below HP5.out HT5.out.s.bel) l5 hs5 (Kd.C_below HP6.out HT5.out.s.bel) l6 hs6 ?_
          intro xs6 W6 hb6 hv
          obtain ⟨B1, d1, L1, e6, hL1, hR1⟩ : ∃ (A : Option Addr) (c : Nat) (L : List ByteArray), xs6 9 = .slice A L.length c ∧ (L.length ≤ 4194304 ∧ ∀ y, y ∈ L ↔ y ∈ upL (p.f5 ++ p.f6) x) ∧ Kd.R Kd.string 9 W6 W5.heap.size (fun _ => True) (.slice A L.length c) L := hv
          simp only [putZ, Act.put, List.setIfInBounds_toArray, List.set_cons_zero, List.set_cons_succ, Nat.reduceAdd]
          rw [e6]
          have HT6 := Lib.hid (HT5.out.below hb6)
          have HR6 := Lib.hid (Kd.R_below HR5.out hb6)
          have HL1 := Lib.hid hL1
          have HW6 := Lib.hid (Kd.R_lower hR1 HT5.out.s.bel.size)
          clear hb6 e6 hL1 hR1 a5 HT5 HR5
          go_wp2_with fail
          obtain ⟨R2, hR2⟩ : ∃ R2 : Nat → List Tri, R2 = fun k => R k1 ++ rowO p (mkS p x) ((whatsL p).take k) := ⟨_, rfl⟩
          have HR2 := Lib.hid hR2
          clear hR2
          go_loopw [8, 13] (fun v i wr => ∃ (k : Nat) (T4 : Option Addr) (t4 : Nat), k ≤ ol.length ∧ i = .int .i64 (k : Nat) ∧ v = .slice T4 (R2 k).length t4 ∧ RtS w b1 #[.slice A0 p.f0.length c0, .slice A1 p.f1.length c1, .slice A2 p.f2.length c2, .slice A3 p.f3.length c3, .slice A4 p.f4.length c4, .slice A5 p.f5.length c5, .slice A6 p.f6.length c6, .slice A7 p.f7.length c7, .slice A8 p.f8.length c8, .slice A9 p.f9.length c9, .slice A10 p.f10.length c10] (.slice (some ad3) wl.length y3) (.slice X4 ol.length y4) (.slice X5 al.length y5) wl ol al (.slice A' ol.length c') Ls wr ∧ Kd.R Kd.string 9 wr w.heap.size (fun _ => True) (.slice B1 L1.length d1) L1 ∧ Kd.R k36 36 wr w.heap.size (fun _ => True) (.slice T4 (R2 k).length t4) (R2 k)) (fun _ i _ => ol.length - (intOf i).toNat)
          case atStart =>
            have h0 : R2 0 = R k1 := by rw [HR2.out]; show R k1 ++ rowO p (mkS p x) ((whatsL p).take 0) = _; simp [rowO]
            exact ⟨0, T3, t3, Nat.zero_le _, rfl, by rw [h0, ← HNF3.out], HT6.out, HW6.out, by rw [h0, ← HNF3.out]; exact HR6.out⟩
          case round =>
            obtain ⟨k2, T4, t4, hk2, rfl, rfl, hT4, hW4, hR4⟩ := hrel
            obtain ⟨n4, hn4⟩ : ∃ n4, n4 = (R2 k2).length := ⟨_, rfl⟩
            rw [← hn4] at hR4 ⊢
            obtain ⟨WF, rfl⟩ : ∃ x, x = wr := ⟨wr, rfl⟩
            have HT7 := Lib.hid hT4
            have HR7 := Lib.hid hR4
            have HW7 := Lib.hid hW4
            have HNF4 := Lib.hid hn4
            clear hT4 hR4 hW4 hn4 HT6 HW6 HR6
            by_cases hlt2 : k2 < ol.length
            · obtain ⟨ad4, e4, -⟩ := str_at (Kd.R_reads' HT7.out.s.r4).2.2 k2 hlt2
              subst e4
              obtain ⟨adL, B2, d2, eL, aL, hd2, hC2⟩ := lst_at (Kd.R_reads' HT7.out.hL).2.2 k2 (by rw [HLs.out]; exact hlt2)
              subst eL
              obtain ⟨L2, hL2⟩ : ∃ L2, L2 = Ls.getD k2 [] := ⟨_, rfl⟩
              rw [← hL2] at aL hd2 hC2
              obtain ⟨y, hy⟩ : ∃ y, y = ol.getD k2 ByteArray.empty := ⟨_, rfl⟩
              have hko : (whatsL p)[k2]? = some (mkO p y) := by rw [HOn, List.getElem?_map, hy, List.getD_eq_getElem?_getD, List.getElem?_eq_getElem hlt2]; rfl
              have hm2 := hM.out k2 hlt2 L2 (by rw [hL2, List.getD_eq_getElem?_getD, List.getElem?_eq_getElem (by rw [HLs.out]; exact hlt2)]; rfl)
              rw [← hy] at hm2
              have HY := Lib.hid hy
              have HKO := Lib.hid hko
              have HM2 := Lib.hid hm2
              have HC2 := Lib.hid hC2
              clear hy hko hm2 hC2 hL2
              go_wp2_with fail
              refine rr18 rfl rfl rfl rfl rfl rfl rfl HT7.out.s aL hlt2 HK.out HZ.out (Kd.R_reads' HW7.out).2.2 (Kd.R_reads' HW7.out).2.1 HL1.out.1 HC2.out hd2 HM2.out.1 ?_
              intro xs8 W8 hb8 hv
              replace hv : Kd.N k27 27 W8 WF.heap.size (fun k => k < w.heap.size ∨ WF.heap.size ≤ k) (xs8 8) (p.f9.filter fun r => speakB r ((trustOf p.f1 x).getD 0) L1 L2) := hv
              rw [about_same p x y _ HL1.out.2 HM2.out.2] at hv
              obtain ⟨rs, hrs⟩ : ∃ rs, rs = aboutL p ((trustOf p.f1 x).getD 0) (upS p x) (upO p y) := ⟨_, rfl⟩
              rw [← hrs] at hv
              obtain ⟨AR, cR, e8⟩ := Kd.N_slice hv
              rw [e8] at hv
              simp only [putZ, Act.put, List.setIfInBounds_toArray, List.set_cons_zero, List.set_cons_succ, Nat.reduceAdd]
              rw [e8]
              have hrl : rs.length ≤ 1048576 := by
                rw [hrs]
                exact Nat.le_trans (List.length_filter_le _ _) HZ.out.l9
              have hra : ∀ r ∈ rs, r.f3.length ≤ 1048576 := fun r hr => by
                rw [hrs] at hr
                exact HZ.out.la r (List.mem_filter.1 hr).1
              have hcR := (Kd.N_reads' hv).2.1
              have HRA := Lib.hid hra
              have HRS := Lib.hid hrs
              have HT8 := Lib.hid (HT7.out.below hb8)
              have HW8 := Lib.hid (Kd.R_below HW7.out hb8)
              have HR8 := Lib.hid (Kd.R_below HR7.out hb8)
              have HN8 := Lib.hid (show Kd.N k27 27 W8 WF.heap.size (fun k' => True ∧ some k' ≠ (Value.slice T4 n4 t4).ownBlock) (.slice AR rs.length cR) rs from Kd.N_mono hv (fun j hj => ⟨trivial, fun e => by
                have h1 := Kd.R_base HR7.out j e.symm
                have h2 := Kd.R_lt HR7.out j e.symm
                rcases hj with hj | hj <;> omega⟩))
              clear hb8 hv e8 hra hrs aL hd2 HC2
              go_wp2_with fail
              obtain ⟨R3, hR3⟩ : ∃ R3 : Nat → List Tri, R3 = fun k => R2 k2 ++ rowA p (mkS p x) (mkO p y) ((actsL p).take k) := ⟨_, rfl⟩
              have HR3 := Lib.hid hR3
              clear hR3
              go_loopw [8, 15] (fun v i wr => ∃ (k : Nat) (T5 : Option Addr) (t5 : Nat), k ≤ al.length ∧ i = .int .i64 (k : Nat) ∧ v = .slice T5 (R3 k).length t5 ∧ RtS w b1 #[.slice A0 p.f0.length c0, .slice A1 p.f1.length c1, .slice A2 p.f2.length c2, .slice A3 p.f3.length c3, .slice A4 p.f4.length c4, .slice A5 p.f5.length c5, .slice A6 p.f6.length c6, .slice A7 p.f7.length c7, .slice A8 p.f8.length c8, .slice A9 p.f9.length c9, .slice A10 p.f10.length c10] (.slice (some ad3) wl.length y3) (.slice (some ad4) ol.length y4) (.slice X5 al.length y5) wl ol al (.slice (some adL) ol.length c') Ls wr ∧ Kd.R Kd.string 9 wr w.heap.size (fun _ => True) (.slice B1 L1.length d1) L1 ∧ Kd.R k36 36 wr w.heap.size (fun _ => True) (.slice T5 (R3 k).length t5) (R3 k) ∧ Kd.N k27 27 wr WF.heap.size (fun k' => True ∧ some k' ≠ (Value.slice T5 (R3 k).length t5).ownBlock) (.slice AR rs.length cR) rs) (fun _ i _ => al.length - (intOf i).toNat)
              case atStart =>
                have h0 : R3 0 = R2 k2 := by rw [HR3.out]; show R2 k2 ++ rowA p _ _ ((actsL p).take 0) = _; simp [rowA]
                exact ⟨0, T4, t4, Nat.zero_le _, rfl, by rw [h0, ← HNF4.out], HT8.out, HW8.out, by rw [h0, ← HNF4.out]; exact HR8.out, by rw [h0, ← HNF4.out]; exact HN8.out⟩
              case round =>
                obtain ⟨k3, T5, t5, hk3, rfl, rfl, hT5, hW5, hR5, hN5⟩ := hrel
                obtain ⟨n5, hn5⟩ : ∃ n5, n5 = (R3 k3).length := ⟨_, rfl⟩
                rw [← hn5] at hR5 hN5 ⊢
                obtain ⟨WG, rfl⟩ : ∃ x, x = wr := ⟨wr, rfl⟩
                have HT9 := Lib.hid hT5
                have HR9 := Lib.hid hR5
                have HW9 := Lib.hid hW5
                have HN9 := Lib.hid hN5
                have HNF5 := Lib.hid hn5
                clear hT5 hR5 hW5 hN5 hn5 HT8 HR8 HW8 HN8
                have HEND := Lib.hid (show R2 (k2 + 1) = R2 k2 ++ rowA p (mkS p x) (mkO p y) (actsL p) from by
                  rw [HR2.out]
                  show R k1 ++ rowO p (mkS p x) ((whatsL p).take (k2 + 1)) = R k1 ++ rowO p (mkS p x) ((whatsL p).take k2) ++ _
                  rw [List.take_add_one, HKO.out, List.append_assoc]
                  congr 1
                  exact rowO_snoc p _ _ _)
                by_cases hlt3 : k3 < al.length
                · by_cases hr0 : rs.length = 0
                  · have hr1 : ¬ (rs.length : Int) > 0 := by omega
                    go_wp2_with fail
                    go_roundw
                    case rel =>
                      have hnil : aboutL p (mkS p x).t (mkS p x).us (mkO p y).us = [] := HRS.out.symm.trans (List.length_eq_zero_iff.1 hr0)
                      have e1 : R2 (k2 + 1) = R3 k3 := by
                        rw [HEND.out, HR3.out]
                        show R2 k2 ++ _ = R2 k2 ++ _
                        rw [rowA_none p _ _ _ hnil, rowA_none p _ _ _ hnil]
                      exact ⟨k2 + 1, T5, t5, hlt2, by go_num, by rw [e1, ← HNF5.out], HT9.out, HW9.out, by rw [e1, ← HNF5.out]; exact HR9.out⟩
                    case measure => simp [intOf]; omega
                  · have hr1 : (rs.length : Int) > 0 := by omega
                    obtain ⟨ad5, e5, -⟩ := str_at (Kd.R_reads' HT9.out.s.r5).2.2 k3 hlt3
                    subst e5
                    obtain ⟨z, hz⟩ : ∃ z, z = al.getD k3 ByteArray.empty := ⟨_, rfl⟩
                    have a3 := nm3_at HT9.out.s hlt1
                    rw [← HX1.out] at a3
                    have a4 := nm_at HT9.out.s hlt2
                    rw [← HY.out] at a4
                    have a5 := nm5_at HT9.out.s hlt3
                    rw [← hz] at a5
                    have hkz : (actsL p)[k3]? = some z := by rw [HAn, hz, List.getD_eq_getElem?_getD, List.getElem?_eq_getElem hlt3]; rfl
                    have HRN := Lib.hid (show R3 (k3 + 1) = R3 k3 ++ if allowB rs p.f10 ⟨x, y, z⟩ = true then [⟨x, y, z⟩] else [] from by
                      rw [HR3.out]
                      show R2 k2 ++ rowA p (mkS p x) (mkO p y) ((actsL p).take (k3 + 1)) = R2 k2 ++ rowA p (mkS p x) (mkO p y) ((actsL p).take k3) ++ _
                      rw [List.take_add_one, hkz, List.append_assoc, HRS.out]
                      congr 1
                      exact rowA_snoc p _ _ _ z)
                    have HLEN := Lib.hid (show (R3 k3).length < 16777216 from by
                      have := rel_len p k1 k2 k3 (mkS p x) (mkO p y) (by rw [HWn, List.length_map]; exact hlt1) (by rw [HOn, List.length_map]; exact hlt2) (by rw [HAn]; exact hlt3) (by omega)
                      rw [HR3.out]
                      show (R2 k2 ++ rowA p (mkS p x) (mkO p y) ((actsL p).take k3)).length < _
                      rw [HR2.out]
                      show (R k1 ++ rowO p (mkS p x) ((whatsL p).take k2) ++ rowA p (mkS p x) (mkO p y) ((actsL p).take k3)).length < _
                      rw [HR.out]
                      exact this)
                    clear hz hkz
                    go_wp2_with fail
                    refine rr22 rfl rfl rfl rfl rfl rfl rfl rfl a3 a4 a5 hlt1 hlt2 hlt3 ?_
                    intro xs9 W9 hb9 hx13 hc9
                    simp only [putZ, Act.put, List.setIfInBounds_toArray, List.set_cons_zero, List.set_cons_succ, Nat.reduceAdd]
                    rw [hx13]
                    have HT10 := Lib.hid (HT9.out.below hb9)
                    have HW10 := Lib.hid (Kd.R_below HW9.out hb9)
                    have HR10 := Lib.hid (Kd.R_below HR9.out hb9)
                    have HN10 := Lib.hid (Kd.N_below HN9.out hb9)
                    have HC9 := Lib.hid hc9
                    have hlt9 := blk_lt hc9
                    clear hb9 hx13 hc9 a3 a4 a5 HT9 HW9 HR9 HN9
                    obtain ⟨bq, hbq⟩ : ∃ b, b = allowB rs p.f10 ⟨x, y, z⟩ := ⟨_, rfl⟩
                    rw [← hbq] at HRN
                    have HBQ := Lib.hid hbq
                    clear hbq
                    go_upto_region 24 with (first | ((with_reducible refine gate_ (.load 34 (.tmp 1)) rfl ?_); go_must (refine wpList_load_row rfl 34 (.tmp 1) rfl b1 rfl _ _ _ _ HT10.out.s.h1 Try.underlying34 rfl (by kernel_rfl) ?_)) | ((with_reducible refine gate_ (.load 36 (.tmp 16)) rfl ?_); go_must (refine wpList_load_row rfl 36 (.tmp 16) rfl WG.heap.size rfl _ _ _ _ HC9.out Try.underlying36 rfl (by kernel_rfl) ?_)) | (go_at_call 63; go_must (refine (rmay_k p _ w _ HK.out HZ.out HT10.out.s.bel rs AR cR ⟨x, y, z⟩ (Kd.N_reads' HN10.out).2.2 hcR hrl HRA.out).mono ?_); rintro e W10 ⟨e10, hb10⟩; rw [← HBQ.out] at e10; subst e10; have HT11 := Lib.hid (HT10.out.below hb10); have HW11 := Lib.hid (Kd.R_below HW10.out hb10); have HR11 := Lib.hid (Kd.R_below HR10.out hb10); have HN11 := Lib.hid (Kd.N_below HN10.out hb10); have HC10 := Lib.hid (blk_below HC9.out hb10); clear hb10))
                    clear HT10 HW10 HR10 HN10 HC9
                    cases bq with
                    | false =>
                      go_wp2_with fail
                      go_roundw
                      case rel =>
                        have e1 : R3 (k3 + 1) = R3 k3 := by rw [HRN.out]; simp
                        exact ⟨k3 + 1, T5, t5, hlt3, by go_num, by rw [e1, ← HNF5.out], HT11.out, HW11.out, by rw [e1, ← HNF5.out]; exact HR11.out, by rw [e1, ← HNF5.out]; exact HN11.out⟩
                      case measure => simp [intOf]; omega
                    | true =>
                      go_wp2_with (first | ((with_reducible refine gate_ (.load 36 (.tmp 16)) rfl ?_); go_must (refine wpList_load_row rfl 36 (.tmp 16) rfl WG.heap.size rfl _ _ _ _ HC10.out Try.underlying36 rfl (by kernel_rfl) ?_)) | ((with_reducible refine gate_builtin (b := .append) (xs := #[.tmp 112, .tmp 114]) rfl ?_); at_builtin; go_must (refine Kd.R_append k36 (w0 := w) w.heap.size rfl (.tmp 112) (.tmp 114) 32 36 (.agg #[(.string ⟨#[]⟩), (.string ⟨#[]⟩), (.string ⟨#[]⟩)]) 48 rfl Try.underlying32 info36 rfl (by decide) (by omega) (.slice T5 n5 t5) (R3 k3) ⟨x, y, z⟩ [.string x, .string y, .string z] (fun _ => True) (fun _ => False) rfl (by first | (go_simp; done) | (go_simp; rfl)) ?aP (fun _ hk => hk.elim) ?aF ?aO ?aB ?aS ?aL ?_); go_must (case aP => exact k36_mkM _ _ _ ⟨x, y, z⟩); go_must (case aB => exact HT11.out.s.bel); (case aF => exact (fun _ _ => trivial)); go_must (case aO => exact HR11.out); (case aS => exact HT11.out.s.bel.size); go_must (case aL => have := HLEN.out; omega); intro v1 W12 ho hb hg hat; have hN := Kd.N_afterv HN11.out hg hat; obtain ⟨T6, t6, e1⟩ := Kd.R_slice ho; subst e1; obtain ⟨Lq, hLq⟩ : ∃ L, L = R3 k3 ++ [(⟨x, y, z⟩ : Tri)] := ⟨_, rfl⟩; rw [← hLq] at ho hN ⊢; have HT12 := Lib.hid (HT11.out.grown 36 hg (R_typed HR11.out) hb (by decide)); have HW12 := Lib.hid (whos_grown HW11.out 36 hg (R_typed HR11.out) (by decide)); have HR12 := Lib.hid ho; have HN12 := Lib.hid hN; have HLQ := Lib.hid hLq; clear ho hb hg hat hN hLq))
                      go_roundw
                      case rel =>
                        have e1 : R3 (k3 + 1) = Lq := by
                          rw [HRN.out, HLQ.out]
                          simp
                        exact ⟨k3 + 1, T6, t6, hlt3, by go_num, by rw [e1], HT12.out, HW12.out, by rw [e1]; exact HR12.out, by rw [e1]; exact HN12.out⟩
                      case measure => simp [intOf]; omega
                · obtain rfl : k3 = al.length := by omega
                  go_wp2_with fail
                  go_roundw
                  case rel =>
                    have e1 : R2 (k2 + 1) = R3 al.length := by
                      rw [HEND.out, HR3.out]
                      show R2 k2 ++ _ = R2 k2 ++ _
                      rw [← HAn, List.take_length]
                    exact ⟨k2 + 1, T5, t5, hlt2, by go_num, by rw [e1, ← HNF5.out], HT9.out, HW9.out, by rw [e1, ← HNF5.out]; exact HR9.out⟩
                  case measure => simp [intOf]; omega
            · obtain rfl : k2 = ol.length := by omega
              go_wp2_with fail
              go_roundw
              case rel =>
                have e1 : R (k1 + 1) = R2 ol.length := by
                  rw [HR2.out, HR.out]
                  show ((whosL p).take (k1 + 1)).flatMap _ = ((whosL p).take k1).flatMap _ ++ rowO p (mkS p x) ((whatsL p).take ol.length)
                  rw [List.take_add_one, HKS.out, show ol.length = (whatsL p).length from by rw [HOn, List.length_map], List.take_length, List.flatMap_append]
                  simp
                exact ⟨k1 + 1, T4, t4, hlt1, by go_num, by rw [e1, ← HNF4.out], HT7.out, by rw [e1, ← HNF4.out]; exact HR7.out⟩
              case measure => simp [intOf]; omega
        · obtain rfl : k1 = wl.length := by omega
          go_wp2
          go_ret
          have e1 : R wl.length = relL p := by
            rw [HR.out]
            show ((whosL p).take wl.length).flatMap _ = _
            rw [show wl.length = (whosL p).length from by rw [HWn, List.length_map], List.take_length]
            rfl
          refine ⟨_, rfl, ?_, HT3.out.s.bel⟩
          rw [← e1]
          exact HR3.out
end Go.Proofs.Ytnkdcekddhmjnaa.M
