import Derived.Test.YteefneemmdfncaaDt
/- DiffTurns as the row asks for it: walked. Conditions: the row's. -/
namespace Go.Proofs.Yteefneemmdfncaa.F
open Go.RowKit Go.Proofs.YteefneemmdfncaaW.Raw Go.Proofs.YteefneemmdfncaaW.PrintWords Go.Proofs.YteefneemmdfncaaW.PrintLast Go.Proofs.YteefneemmdfncaaW.PrintAll Go.Proofs.Yteefneemmdfncaa.M
set_option linter.unusedVariables false
set_option linter.unusedSimpArgs false
set_option maxRecDepth 100000 in
set_option maxHeartbeats 8000000 in
theorem DiffTurns.walk (x0 : S28) (c0 : Array Value) (x1 : S28) (c1 : Array Value) (x2 : S30) (c2 : Array Value) (w : World) (hk0 : Kd.K k28 w x0 c0.toList) (hg0 : g28 x0) (hk1 : Kd.K k28 w x1 c1.toList) (hg1 : g28 x1) (hk2 : Kd.K k30 w x2 c2.toList) (hg2 : g30 x2) (hb : b28 x0 + b28 x1 + b30 x2 ≤ 1048576) :
    Calls Try.prog 10 #[.agg c0, .agg c1, .agg c2] w fun e w' => e = .returned (.bool true) ∧ Below w.heap.size w w' := by
  have hsp := sz_of x0 (by omega)
  have hsq := sz_of x1 (by omega)
  obtain ⟨C0, rfl⟩ : ∃ C, C = c0 := ⟨_, rfl⟩
  obtain ⟨D0, rfl⟩ : ∃ C, C = c1 := ⟨_, rfl⟩
  obtain ⟨E0, rfl⟩ : ∃ C, C = c2 := ⟨_, rfl⟩
  obtain ⟨p, rfl⟩ : ∃ p, p = x0 := ⟨_, rfl⟩
  obtain ⟨q, rfl⟩ : ∃ q, q = x1 := ⟨_, rfl⟩
  obtain ⟨t, rfl⟩ : ∃ t, t = x2 := ⟨_, rfl⟩
  have HK := Lib.hid hk0
  have HQ := Lib.hid hk1
  have et := k30_open hk2
  obtain rfl : E0 = #[.string t.f0, .string t.f1, .string t.f2] := by cases E0; simpa using et
  obtain ⟨vb, hvb, hv⟩ := vast_k [p, q] (by simp) (fun x hx => by rcases List.mem_cons.1 hx with rfl | hx; exact hsp; rw [List.mem_singleton.1 hx]; exact hsq)
  have HV := Lib.hid hv
  have HVB := Lib.hid hvb
  clear hb hg0 hg1 hv hvb hk2 hg2 et
  obtain ⟨A0, c0, A1, c1, A2, c2, A3, c3, A4, c4, A5, c5, A6, c6, A7, c7, A8, c8, A9, c9, A10, c10, e_, l0, g0, l1, g1, l2, g2, l3, g3, l4, g4, l5, g5, l6, g6, l7, g7, l8, g8, l9, g9, l10, g10⟩ := k28_open hk0
  obtain rfl : C0 = #[.slice A0 p.f0.length c0, .slice A1 p.f1.length c1, .slice A2 p.f2.length c2, .slice A3 p.f3.length c3, .slice A4 p.f4.length c4, .slice A5 p.f5.length c5, .slice A6 p.f6.length c6, .slice A7 p.f7.length c7, .slice A8 p.f8.length c8, .slice A9 p.f9.length c9, .slice A10 p.f10.length c10] := by cases C0; simpa using e_
  clear e_
  obtain ⟨B0, d0, B1, d1, B2, d2, B3, d3, B4, d4, B5, d5, B6, d6, B7, d7, B8, d8, B9, d9, B10, d10, e_, m0, f0, m1, f1, m2, f2, m3, f3, m4, f4, m5, f5, m6, f6, m7, f7, m8, f8, m9, f9, m10, f10⟩ := k28_open hk1
  obtain rfl : D0 = #[.slice B0 q.f0.length d0, .slice B1 q.f1.length d1, .slice B2 q.f2.length d2, .slice B3 q.f3.length d3, .slice B4 q.f4.length d4, .slice B5 q.f5.length d5, .slice B6 q.f6.length d6, .slice B7 q.f7.length d7, .slice B8 q.f8.length d8, .slice B9 q.f9.length d9, .slice B10 q.f10.length d10] := by cases D0; simpa using e_
  clear e_
  clear hk0 hk1
  clear l0 g0 m0 f0 l1 g1 m1 f1 l2 g2 m2 f2 l3 g3 m3 f3 l4 g4 m4 f4 l5 g5 m5 f5 l6 g6 m6 f6 l7 g7 m7 f7 l8 g8 m8 f8 l9 g9 m9 f9 l10 g10 m10 f10
  go_enter Try.func10, Try.ntmps10
  go_upto_region 1 with (first | ((with_reducible refine gate_dst (N := 3) rfl ?_); refine box_event ?hg (N := 3) ?hd (cs := #[.slice A0 p.f0.length c0, .slice A1 p.f1.length c1, .slice A2 p.f2.length c2, .slice A3 p.f3.length c3, .slice A4 p.f4.length c4, .slice A5 p.f5.length c5, .slice A6 p.f6.length c6, .slice A7 p.f7.length c7, .slice A8 p.f8.length c8, .slice A9 p.f9.length c9, .slice A10 p.f10.length c10]) (t := 28) ?hr ?_; (case hd => rfl); (case hg => rfl); (case hr => first | (go_simp; done) | (go_simp; rfl)); intro b3 hg_ w1 hb3 hB1; go_must (have BW1 := Lib.hid hB1; have K1 := Lib.hid hb3; clear hb3 hB1); clear hg_) | ((with_reducible refine gate_dst (N := 4) rfl ?_); refine box_event ?hg (N := 4) ?hd (cs := #[.slice B0 q.f0.length d0, .slice B1 q.f1.length d1, .slice B2 q.f2.length d2, .slice B3 q.f3.length d3, .slice B4 q.f4.length d4, .slice B5 q.f5.length d5, .slice B6 q.f6.length d6, .slice B7 q.f7.length d7, .slice B8 q.f8.length d8, .slice B9 q.f9.length d9, .slice B10 q.f10.length d10]) (t := 28) ?hr ?_; (case hd => rfl); (case hg => rfl); (case hr => first | (go_simp; done) | (go_simp; rfl)); intro b4 hg_ w2 hb4 hB2; go_must (have K12 := Lib.hid (blk_below K1.out hB2); have BW2 := Lib.hid (BW1.out.trans (hB2.mono BW1.out.size)); have K2 := Lib.hid hb4; clear hb4 hB2); clear hg_) | ((with_reducible refine gate_dst (N := 5) rfl ?_); refine box_event ?hg (N := 5) ?hd (cs := #[.string t.f0, .string t.f1, .string t.f2]) (t := 30) ?hr ?_; (case hd => rfl); (case hg => rfl); (case hr => first | (go_simp; done) | (go_simp; rfl)); intro b5 hg_ w3 hb5 hB3; go_must (have K13 := Lib.hid (blk_below K12.out hB3); have K23 := Lib.hid (blk_below K2.out hB3); have BW3 := Lib.hid (BW2.out.trans (hB3.mono BW2.out.size)); have K3 := Lib.hid hb5; clear hb5 hB3); clear hg_))
  clear K1 K2 K12 BW1 BW2
  go_upto_region 3 with (first | (go_at_call 39; go_must (refine (alive_calls _).mono ?_); rintro e w4 ⟨rfl, hb⟩; have KP := Lib.hid (blk_below K13.out hb); have KQ := Lib.hid (blk_below K23.out hb); have KT := Lib.hid (blk_below K3.out hb); have BW4 := Lib.hid (BW3.out.trans (hb.mono BW3.out.size)); clear hb) | ((with_reducible refine gate_ (.load 28 (.tmp 3)) rfl ?_); go_must (refine wpList_load_row rfl 28 (.tmp 3) rfl b3 rfl _ _ _ _ KP.out Try.underlying28 rfl (by kernel_rfl) ?_)) | ((with_reducible refine gate_ (.load 28 (.tmp 4)) rfl ?_); go_must (refine wpList_load_row rfl 28 (.tmp 4) rfl b4 rfl _ _ _ _ KQ.out Try.underlying28 rfl (by kernel_rfl) ?_)) | (go_at_call 28; go_must (refine (HV.out _ _ _ (two_C (k28.K_below BW4.out HK.out) (k28.K_below BW4.out HQ.out) rfl) (Nat.le_refl _)).mono ?_); rintro e w5 ⟨rfl, hb⟩; have hb5 := Below.trans ((Below.refl _ w4).alloc (Nat.le_refl _) _) (hb.mono (by rw [size_new]; exact Nat.le_succ _)); have KP5 := Lib.hid (blk_below KP.out hb5); have KQ5 := Lib.hid (blk_below KQ.out hb5); have KT5 := Lib.hid (blk_below KT.out hb5); have BW5 := Lib.hid (BW4.out.trans (hb5.mono BW4.out.size)); clear hb hb5))
  clear HV K13 K23 K3 BW3 KP KQ KT BW4
  cases vb with
  | true =>
    go_wp2_with fail
    go_ret
    exact ⟨rfl, BW5.out⟩
  | false =>
    have hcp := HVB.out rfl p (by simp)
    have hcq := HVB.out rfl q (by simp)
    have hpq : okD p q = true := okD_iff.2 ⟨okB_iff.1 hsp.ok, okB_iff.1 hsq.ok, hcp, hcq⟩
    have hlo : (relL p).length ≤ 65536 := Nat.le_trans (relL_len p) hcp
    have hln : (relL q).length ≤ 65536 := Nat.le_trans (relL_len q) hcq
    have hll := chL_len p q
    have HCP := Lib.hid hcp
    have HCQ := Lib.hid hcq
    have HLO := Lib.hid hlo
    have HLN := Lib.hid hln
    have HLL := Lib.hid hll
    have HPQ := Lib.hid hpq
    have HSP := Lib.hid hsp
    have HSQ := Lib.hid hsq
    clear HVB hcp hcq hpq hsp hsq hlo hln hll
    go_upto_region 6 with (first | ((with_reducible refine gate_ (.load 28 (.tmp 3)) rfl ?_); go_must (refine wpList_load_row rfl 28 (.tmp 3) rfl b3 rfl _ _ _ _ KP5.out Try.underlying28 rfl (by kernel_rfl) ?_)) | (go_at_call 30; go_must (refine (twin_k p _ _ (k28.K_below BW5.out HK.out) HSP.out).mono ?_); rintro e wt ⟨CT, rfl, kt, hb⟩; have KTW := Lib.hid kt; have HBT := Lib.hid hb; clear kt hb) | (go_at_call 43; go_must (refine (rel_v p CT _ KTW.out (okB_iff.1 HSP.out.ok) HCP.out).mono ?_); rintro e w6 ⟨v, rfl, ⟨AO, cO, rfl, hl_, hC_⟩, hb⟩; have HO := Lib.hid hC_; have LO := Lib.hid hl_; have HB_ := Lib.hid (HBT.out.trans (hb.mono HBT.out.size)); clear hl_ hC_ hb))
    have KP6 := Lib.hid (blk_below KP5.out HB_.out)
    have KQ6 := Lib.hid (blk_below KQ5.out HB_.out)
    have KT6 := Lib.hid (blk_below KT5.out HB_.out)
    have BW6 := Lib.hid (BW5.out.trans (HB_.out.mono BW5.out.size))
    clear KP5 KQ5 KT5 BW5 KTW HBT HB_
    go_upto_region 7 with (first | ((with_reducible refine gate_ (.load 28 (.tmp 4)) rfl ?_); go_must (refine wpList_load_row rfl 28 (.tmp 4) rfl b4 rfl _ _ _ _ KQ6.out Try.underlying28 rfl (by kernel_rfl) ?_)) | (go_at_call 30; go_must (refine (twin_k q _ _ (k28.K_below BW6.out HQ.out) HSQ.out).mono ?_); rintro e wt ⟨CT, rfl, kt, hb⟩; have KTW := Lib.hid kt; have HBT := Lib.hid hb; clear kt hb) | (go_at_call 43; go_must (refine (rel_v q CT _ KTW.out (okB_iff.1 HSQ.out.ok) HCQ.out).mono ?_); rintro e w7 ⟨v, rfl, ⟨AN, cN, rfl, hl_, hC_⟩, hb⟩; have HN := Lib.hid hC_; have LN := Lib.hid hl_; have HB_ := Lib.hid (HBT.out.trans (hb.mono HBT.out.size)); clear hl_ hC_ hb))
    have KP7 := Lib.hid (blk_below KP6.out HB_.out)
    have KQ7 := Lib.hid (blk_below KQ6.out HB_.out)
    have KT7 := Lib.hid (blk_below KT6.out HB_.out)
    have BW7 := Lib.hid (BW6.out.trans (HB_.out.mono BW6.out.size))
    have HO7 := Lib.hid (Kd.C_below HO.out HB_.out)
    clear HO
    clear KP6 KQ6 KT6 BW6 KTW HBT HB_
    refine dt7.region p q _ _ (k28.K_below BW7.out HK.out) (k28.K_below BW7.out HQ.out) HSP.out HSQ.out HPQ.out (by kernel_rfl) rfl rfl KP7.out rfl KQ7.out ?_
    rintro xs8 w8 hb8 ⟨AL, cL, e8, hlL, hL⟩
    simp only [putZ, Act.put, List.setIfInBounds_toArray, List.set_cons_zero, List.set_cons_succ, Nat.reduceAdd]
    rw [e8]
    have KP8 := Lib.hid (blk_below KP7.out hb8)
    have KQ8 := Lib.hid (blk_below KQ7.out hb8)
    have KT8 := Lib.hid (blk_below KT7.out hb8)
    have BW8 := Lib.hid (BW7.out.trans (hb8.mono BW7.out.size))
    have HO8 := Lib.hid (Kd.C_below HO7.out hb8)
    have HN8 := Lib.hid (Kd.C_below HN.out hb8)
    have HL8 := Lib.hid hL
    have LL := Lib.hid hlL
    have KP9 := Lib.hid (k28.K_below BW8.out HK.out)
    have KQ9 := Lib.hid (k28.K_below BW8.out HQ.out)
    clear hb8 e8 hL hlL KP7 KQ7 KT7 BW7 HO7 HN HK HQ
    obtain ⟨n1, hn1⟩ : ∃ n, n = (relL p).length := ⟨_, rfl⟩
    obtain ⟨n2, hn2⟩ : ∃ n, n = (relL q).length := ⟨_, rfl⟩
    obtain ⟨n3, hn3⟩ : ∃ n, n = (chL p q).length := ⟨_, rfl⟩
    have q1 : n1 ≤ 65536 := by rw [hn1]; exact HLO.out
    have q2 : n2 ≤ 65536 := by rw [hn2]; exact HLN.out
    have q3 : n3 ≤ n1 + n2 := by rw [hn1, hn2, hn3]; exact HLL.out
    rw [← hn1] at HO8 LO ⊢
    rw [← hn2] at HN8 LN ⊢
    rw [← hn3] at HL8 LL ⊢
    have HN1 := Lib.hid hn1
    have HN2 := Lib.hid hn2
    have HN3 := Lib.hid hn3
    have hw12 : wrap64 ((n1 : Int) + (n2 : Int)) = (n1 : Int) + (n2 : Int) := by unfold wrap64; omega
    have hgt : decide ((n1 : Int) + (n2 : Int) < (n3 : Int)) = false := decide_eq_false (by omega)
    have hgt' : ¬ ((n1 : Int) + (n2 : Int) < (n3 : Int)) := by omega
    clear hn1 hn2 hn3
    by_cases hbig : (2000 : Int) < (n1 : Int) + (n2 : Int)
    · go_wp2_with fail
      go_ret
      exact ⟨rfl, BW8.out⟩
    · have hsm : (n1 : Int) + (n2 : Int) ≤ 2000 := by omega
      clear hbig hgt'
      go_upto_region 12 with fail
      go_upto_region 13 with (first | ((with_reducible refine gate_ (.load 30 (.tmp 5)) rfl ?_); go_must (refine wpList_load_row rfl 30 (.tmp 5) rfl b5 rfl _ _ _ _ KT8.out Try.underlying30 rfl (by kernel_rfl) ?_)))
      go_upto_region 15 with (first | ((with_reducible refine gate_builtin (b := .append) (xs := #[.tmp 57, .tmp 58]) rfl ?_); at_builtin; go_must (refine Kd.R_append_rows k30 (w0 := w8) w8.heap.size rfl (.tmp 57) (.tmp 58) 26 30 (.agg #[(.string ⟨#[]⟩), (.string ⟨#[]⟩), (.string ⟨#[]⟩)]) 48 rfl Try.underlying26 info30 rfl (by decide) (by omega) (.slice (some ⟨w8.heap.size, 0, none⟩) 1 1) ([t]) (relL p) _ _ _ (fun _ => True) (fun _ => False) rfl rfl ?aO ?aR (fun _ _ h => h) (fun _ h => h.elim) ?aF ?aB ?aS ?aL ?_); (case aO => exact lit_one t (Nat.le_refl _)); (case aR => exact Kd.C_below HO8.out ((Below.refl _ w8).alloc (Nat.le_refl _) _)); (case aF => exact (fun _ _ => trivial)); (case aB => exact (Below.refl _ w8).alloc (Nat.le_refl _) _); (case aS => exact (by rw [size_new]; omega)); (case aL => (simp only [List.length_cons, List.length_nil]; omega)); intro v1 wA ho hb hg hat; obtain ⟨l1, hl1⟩ : ∃ l, l = [t] ++ relL p := ⟨_, rfl⟩; rw [← hl1] at ho; obtain ⟨T1, u1, rfl⟩ := Kd.R_slice ho; have HL1 := Lib.hid (show l1.length = 1 + n1 by rw [hl1, HN1.out]; simp; omega); have HA := Lib.hid ho; have HAB := Lib.hid hb; clear ho hb hg hat hl1) | ((with_reducible refine gate_builtin (b := .append) (xs := #[.tmp 60, .tmp 61]) rfl ?_); at_builtin; go_must (refine Kd.R_append_rows k30 (w0 := w8) w8.heap.size rfl (.tmp 60) (.tmp 61) 26 30 (.agg #[(.string ⟨#[]⟩), (.string ⟨#[]⟩), (.string ⟨#[]⟩)]) 48 rfl Try.underlying26 info30 rfl (by decide) (by omega) (.slice T1 l1.length u1) (l1) (relL q) _ _ _ (fun _ => True) (fun _ => False) rfl rfl ?aO ?aR (fun _ _ h => h) (fun _ h => h.elim) ?aF ?aB ?aS ?aL ?_); (case aO => exact HA.out); (case aR => exact Kd.C_below HN8.out HAB.out); (case aF => exact (fun _ _ => trivial)); (case aB => exact HAB.out); (case aS => exact HAB.out.size); (case aL => (have := HL1.out; omega)); intro v2 wB ho hb hg hat; obtain ⟨l2, hl2⟩ : ∃ l, l = l1 ++ relL q := ⟨_, rfl⟩; rw [← hl2] at ho; obtain ⟨T2, u2, rfl⟩ := Kd.R_slice ho; have HL2 := Lib.hid (show l2.length ≤ 2001 by have h1 := HL1.out; have h2 := HN2.out; rw [hl2, List.length_append]; omega); have HA2 := Lib.hid ho; have HAB2 := Lib.hid hb; clear ho hb hg hat hl2 HA HAB HL1))
      go_wp2_with fail
      go_loopw [12, 13] (fun v i wr => ∃ (k : Nat) (T : Option Addr) (u : Nat) (xs : List Tri), k ≤ n3 ∧ i = .int .i64 (k : Nat) ∧ v = .slice T xs.length u ∧ Hid (xs.length ≤ 2001 + k) ∧ Hid (Kd.R k30 30 wr w8.heap.size (fun _ => True) (.slice T xs.length u) xs) ∧ Hid (Below w8.heap.size w8 wr)) (fun _ i _ => n3 - (intOf i).toNat)
      case atStart => exact ⟨0, T2, u2, l2, Nat.zero_le _, rfl, rfl, HL2, HA2, HAB2⟩
      case round =>
        obtain ⟨k, T, u, xs, hk, rfl, rfl, HXL, HR, HB⟩ := hrel
        clear HL2 HA2 HAB2
        by_cases hlt : k < n3
        · obtain ⟨ad, eA, c0, c1, c2, c3⟩ := at_T53 (Kd.C_below HL8.out HB.out) (k : Int) (by omega) (by omega)
          subst eA
          obtain ⟨x, hx⟩ : ∃ x, x = rd_T53 (chL p q) (k : Int) := ⟨_, rfl⟩
          rw [← hx, Int.toNat_natCast] at c0 c1 c2 c3
          have i0 : (0 : Int) ≤ (k : Int) := by omega
          have i1 : (k : Int) < (n3 : Int) := by omega
          clear hx
          go_wp2_with (first | ((with_reducible refine gate_builtin (b := .append) (xs := #[.tmp 69, .tmp 75]) rfl ?_); at_builtin; go_must (refine Kd.R_append k30 (w0 := w8) w8.heap.size rfl (.tmp 69) (.tmp 75) 26 30 (.agg #[(.string ⟨#[]⟩), (.string ⟨#[]⟩), (.string ⟨#[]⟩)]) 48 rfl Try.underlying26 info30 rfl (by decide) (by omega) (.slice T xs.length u) xs x.f0 [.string x.f0.f0, .string x.f0.f1, .string x.f0.f2] (fun _ => True) (fun _ => False) rfl rfl ?aP (fun _ hk => hk.elim) ?aF ?aO ?aB ?aS ?aL ?_); (case aP => exact k30_mkM _ _ _ x.f0); (case aF => exact (fun _ _ => trivial)); (case aO => exact HR.out); (case aB => exact HB.out); (case aS => exact HB.out.size); (case aL => (have := HXL.out; omega)); intro v3 w9 ho hb hg hat; obtain ⟨ys, hys⟩ : ∃ l, l = xs ++ [x.f0] := ⟨_, rfl⟩; rw [← hys] at ho; obtain ⟨T3, u3, rfl⟩ := Kd.R_slice ho; have HYL := Lib.hid (show ys.length ≤ 2001 + (k + 1) by have h1 := HXL.out; rw [hys]; simp; omega); have HR9 := Lib.hid ho; have HB9 := Lib.hid hb; clear ho hb hg hat hys))
          go_roundw
          case rel => exact ⟨k + 1, T3, u3, ys, hlt, by go_num, rfl, HYL, HR9, HB9⟩
          case measure => simp [intOf]; omega
        · obtain rfl : n3 = k := by omega
          obtain ⟨WA, hWA⟩ : ∃ W, W = wr := ⟨_, rfl⟩
          rw [← hWA] at HR HB ⊢
          have HALL := Lib.hid (Kd.R_reads' HR.out).2.2
          have HBA := Lib.hid HB.out
          have HOA := Lib.hid (Kd.C_below HO8.out HB.out)
          have HNA := Lib.hid (Kd.C_below HN8.out HB.out)
          have HLA := Lib.hid (Kd.C_below HL8.out HB.out)
          have hxl : xs.length ≤ 8388608 := by have := HXL.out; omega
          clear hWA wr HR HB HXL hlt hk
          go_wp2_with fail
          go_loopw [14] (fun i wr => ∃ k : Nat, k ≤ xs.length ∧ i = .int .i64 (k : Nat) ∧ Hid (Below WA.heap.size WA wr)) (fun i _ => xs.length - (intOf i).toNat)
          case atStart => exact ⟨0, Nat.zero_le _, rfl, Lib.hid (Below.refl _ _)⟩
          case round =>
            obtain ⟨j, hj, rfl, HB⟩ := hrel
            by_cases hlt : j < xs.length
            · obtain ⟨ad, eA, c0, c1, c2⟩ := at_T30 (Kd.C_below HALL.out HB.out) (j : Int) (by omega) (by omega)
              subst eA
              obtain ⟨y, hy⟩ : ∃ y, y = rd_T30 xs (j : Int) := ⟨_, rfl⟩
              rw [← hy, Int.toNat_natCast] at c0 c1 c2
              have HCELL : Hid (∀ W, Below WA.heap.size WA W → W.cell? (ad.add (j * 3)) = some (.string y.f0) ∧ W.cell? ⟨(ad.add (j * 3)).block, (ad.add (j * 3)).off + 1, none⟩ = some (.string y.f1) ∧ W.cell? ⟨(ad.add (j * 3)).block, (ad.add (j * 3)).off + 2, none⟩ = some (.string y.f2)) := Lib.hid (fun W hW => by
                obtain ⟨ad', e', a0, a1, a2⟩ := at_T30 (Kd.C_below HALL.out hW) (j : Int) (by omega) (by omega)
                cases e'
                rw [← hy, Int.toNat_natCast] at a0 a1 a2
                exact ⟨a0, a1, a2⟩)
              obtain ⟨b1, b2, m1, m2, f1, f2, f3, f4, hc⟩ := told_cases p q y
              have F1 := Lib.hid f1
              have F2 := Lib.hid f2
              have F3 := Lib.hid f3
              have F4 := Lib.hid f4
              have i0 : (0 : Int) ≤ (j : Int) := by omega
              have i1 : (j : Int) < (xs.length : Int) := by omega
              clear hy f1 f2 f3 f4
              have U1 : True := trivial
              have U2 : True := trivial
              have U3 : True := trivial
              have U4 : True := trivial
              rcases hc with ⟨rfl, rfl, rfl, rfl⟩ | ⟨rfl, rfl, rfl, rfl⟩ | ⟨rfl, rfl, rfl, rfl⟩ | ⟨rfl, rfl, rfl, rfl⟩
              all_goals
                go_wp2_with (first | (clear U1; go_at_call 44; go_must (refine (has_kn (relL p) y AO n1 cO _ HN1.out (Kd.C_below HOA.out HB.out) LO.out (by omega)).mono ?_); rw [F1.out]; rintro e wa ⟨rfl, hb⟩; have HBa := Lib.hid (HB.out.trans (hb.mono HB.out.size)); clear hb c0 c1 c2; obtain ⟨c0, c1, c2⟩ := HCELL.out _ HBa.out) | (clear U2; go_at_call 44; go_must (refine (has_kn (relL q) y AN n2 cN _ HN2.out (Kd.C_below HNA.out HBa.out) LN.out (by omega)).mono ?_); rw [F2.out]; rintro e wb ⟨rfl, hb⟩; have HBb := Lib.hid (HBa.out.trans (hb.mono HBa.out.size)); clear hb c0 c1 c2; obtain ⟨c0, c1, c2⟩ := HCELL.out _ HBb.out) | (clear U3; go_at_call 40; go_must (refine (told_kn (chL p q) ⟨y, false⟩ AL n3 cL _ HN3.out (Kd.C_below HLA.out HBb.out) LL.out (by omega)).mono ?_); rw [F3.out]; rintro e wc ⟨rfl, hb⟩; have HBc := Lib.hid (HBb.out.trans (hb.mono HBb.out.size)); clear hb c0 c1 c2; obtain ⟨c0, c1, c2⟩ := HCELL.out _ HBc.out) | (clear U4; go_at_call 40; go_must (refine (told_kn (chL p q) ⟨y, true⟩ AL n3 cL _ HN3.out (Kd.C_below HLA.out HBc.out) LL.out (by omega)).mono ?_); rw [F4.out]; rintro e wd ⟨rfl, hb⟩; have HBd := Lib.hid (HBc.out.trans (hb.mono HBc.out.size)); clear hb))
                go_roundw
                case rel => exact ⟨j + 1, hlt, by go_num, HBd⟩
                case measure => simp [intOf]; omega
            · obtain rfl : j = xs.length := by omega
              have HW := Lib.hid (HBA.out.trans (HB.out.mono HBA.out.size))
              clear HALL HOA HNA HLA HBA HB hlt hj
              have hn1 := HN1.out
              have hn3 := HN3.out
              subst hn1
              subst hn3
              go_upto_region 28 with fail
              refine dt28.region p q t _ _ (k28.K_below HW.out KP9.out) (k28.K_below HW.out KQ9.out) HSP.out HSQ.out HPQ.out (okB_iff.1 HSP.out.ok) (by omega) LO.out LL.out (Kd.C_below HO8.out HW.out) (Kd.C_below HL8.out HW.out) (has_allows p t) (same_zero p q) (by kernel_rfl) rfl rfl (blk_below KP8.out HW.out) rfl (blk_below KQ8.out HW.out) rfl (blk_below KT8.out HW.out) rfl rfl ?_
              rintro xs9 w9 hb9 e9
              simp only [putZ, Act.put, List.setIfInBounds_toArray, List.set_cons_zero, List.set_cons_succ, Nat.reduceAdd]
              rw [show xs9 19 = .bool true from e9]
              go_wp2_with fail
              go_ret
              exact ⟨rfl, BW8.out.trans ((HW.out.trans (hb9.mono HW.out.size)).mono BW8.out.size)⟩
end Go.Proofs.Yteefneemmdfncaa.F
