import Derived.Test.YteefneemmdfncaaDc
import Derived.Test.YteefneemmdfncaaDp
/- DiffBack as the row asks for it: walked. Conditions: the row's. -/
namespace Go.Proofs.Yteefneemmdfncaa.M
open Go.RowKit Go.Proofs.YteefneemmdfncaaW.Raw Go.Proofs.YteefneemmdfncaaW.PrintWords Go.Proofs.Yteefneemmdfncaa.F
set_option linter.unusedVariables false
theorem row_C {α : Type} {d : Kd α} {w : World} {b t : Nat} {cells : Array Value} {xs : List α} (h : w.heap[b]? = some (.cells cells t (0, 0))) (hl : cells.size = xs.length * d.sz) (hm : xs.length ≤ 9223372036854775807)
    (hK : ∀ j p, xs[j]? = some p → d.K w p ((cells.toList.drop (j * d.sz)).take d.sz)) : d.C w (some ⟨b, 0, none⟩) xs.length xs := by
  refine ⟨rfl, hm, fun _ => ⟨_, rfl, fun j p hj => ⟨_, ?_, hK j p hj, fun i u hu => ?_⟩⟩⟩
  · have hjl := (List.getElem?_eq_some_iff.1 hj).1
    rw [List.length_take, List.length_drop, Array.length_toList, hl]
    have : (j + 1) * d.sz ≤ xs.length * d.sz := Nat.mul_le_mul_right _ hjl
    rw [Nat.succ_mul] at this
    omega
  · have h1 := blk_cell h (j * d.sz + i)
    have h2 : cells[j * d.sz + i]? = some u := by
      rw [List.getElem?_take] at hu
      split at hu
      · rw [List.getElem?_drop, Array.getElem?_toList] at hu
        exact hu
      · cases hu
    rw [h2] at h1
    have ha : (⟨b, 0, none⟩ : Addr).add (j * d.sz + i) = ⟨b, j * d.sz + i, none⟩ := by
      generalize j * d.sz + i = q
      unfold Addr.add
      by_cases hq : q = 0
      · subst hq; rfl
      · simp [hq]
    rw [ha]
    exact h1
/-- Two policies in a new block. -/
theorem two_C {w : World} {p q : Pol} {C D X : Array Value} (hp : k28.K w p C.toList) (hq : k28.K w q D.toList) (hX : X.toList = C.toList ++ D.toList) : Kd.C k28 (w.alloc (.cells X 28)) (some ⟨w.heap.size, 0, none⟩) [p, q].length [p, q] := by
  have hb : Below w.heap.size w (w.alloc (.cells X 28)) := (Below.refl _ w).alloc (Nat.le_refl _) _
  have l1 := k28.K_len hp
  have l2 := k28.K_len hq
  refine row_C (d := k28) (blk_new w _) ?_ (by simp) (fun j x hj => ?_)
  · rw [← Array.length_toList, hX, List.length_append, l1, l2]
    rfl
  · match j, hj with
    | 0, hj =>
      cases hj
      rw [Nat.zero_mul, List.drop_zero, hX, ← l1, List.take_left]
      exact k28.K_below hb hp
    | 1, hj =>
      cases hj
      rw [Nat.one_mul, hX, List.drop_left' l1, ← l2, List.take_length]
      exact k28.K_below hb hq
end Go.Proofs.Yteefneemmdfncaa.M
namespace Go.Proofs.Yteefneemmdfncaa.F
open Go.RowKit Go.Proofs.YteefneemmdfncaaW.Raw Go.Proofs.YteefneemmdfncaaW.PrintWords Go.Proofs.YteefneemmdfncaaW.PrintLast Go.Proofs.YteefneemmdfncaaW.PrintAll Go.Proofs.Yteefneemmdfncaa.M
set_option linter.unusedVariables false
set_option linter.unusedSimpArgs false
set_option maxRecDepth 100000 in
set_option maxHeartbeats 8000000 in
theorem DiffBack.walk (x0 : S28) (c0 : Array Value) (x1 : S28) (c1 : Array Value) (w : World) (hk0 : Kd.K k28 w x0 c0.toList) (hg0 : g28 x0) (hk1 : Kd.K k28 w x1 c1.toList) (hg1 : g28 x1) (hb : b28 x0 + b28 x1 ≤ 1048576) :
    Calls Try.prog 8 #[.agg c0, .agg c1] w fun e w' => e = .returned (.bool true) ∧ Below w.heap.size w w' := by
  have hsp := sz_of x0 (by omega)
  have hsq := sz_of x1 (by omega)
  obtain ⟨C0, rfl⟩ : ∃ C, C = c0 := ⟨_, rfl⟩
  obtain ⟨D0, rfl⟩ : ∃ C, C = c1 := ⟨_, rfl⟩
  obtain ⟨p, rfl⟩ : ∃ p, p = x0 := ⟨_, rfl⟩
  obtain ⟨q, rfl⟩ : ∃ q, q = x1 := ⟨_, rfl⟩
  have HK := Lib.hid hk0
  have HQ := Lib.hid hk1
  obtain ⟨vb, hvb, hv⟩ := vast_k [p, q] (by simp) (fun x hx => by rcases List.mem_cons.1 hx with rfl | hx; exact hsp; rw [List.mem_singleton.1 hx]; exact hsq)
  have HV := Lib.hid hv
  have HVB := Lib.hid hvb
  clear hb hg0 hg1 hv hvb
  obtain ⟨A0, c0, A1, c1, A2, c2, A3, c3, A4, c4, A5, c5, A6, c6, A7, c7, A8, c8, A9, c9, A10, c10, e_, l0, g0, l1, g1, l2, g2, l3, g3, l4, g4, l5, g5, l6, g6, l7, g7, l8, g8, l9, g9, l10, g10⟩ := k28_open hk0
  obtain rfl : C0 = #[.slice A0 p.f0.length c0, .slice A1 p.f1.length c1, .slice A2 p.f2.length c2, .slice A3 p.f3.length c3, .slice A4 p.f4.length c4, .slice A5 p.f5.length c5, .slice A6 p.f6.length c6, .slice A7 p.f7.length c7, .slice A8 p.f8.length c8, .slice A9 p.f9.length c9, .slice A10 p.f10.length c10] := by cases C0; simpa using e_
  clear e_
  obtain ⟨B0, d0, B1, d1, B2, d2, B3, d3, B4, d4, B5, d5, B6, d6, B7, d7, B8, d8, B9, d9, B10, d10, e_, m0, f0, m1, f1, m2, f2, m3, f3, m4, f4, m5, f5, m6, f6, m7, f7, m8, f8, m9, f9, m10, f10⟩ := k28_open hk1
  obtain rfl : D0 = #[.slice B0 q.f0.length d0, .slice B1 q.f1.length d1, .slice B2 q.f2.length d2, .slice B3 q.f3.length d3, .slice B4 q.f4.length d4, .slice B5 q.f5.length d5, .slice B6 q.f6.length d6, .slice B7 q.f7.length d7, .slice B8 q.f8.length d8, .slice B9 q.f9.length d9, .slice B10 q.f10.length d10] := by cases D0; simpa using e_
  clear e_
  clear hk0 hk1
  clear l0 g0 m0 f0 l1 g1 m1 f1 l2 g2 m2 f2 l3 g3 m3 f3 l4 g4 m4 f4 l5 g5 m5 f5 l6 g6 m6 f6 l7 g7 m7 f7 l8 g8 m8 f8 l9 g9 m9 f9 l10 g10 m10 f10
  go_enter Try.func8, Try.ntmps8
  go_upto_region 1 with (first | ((with_reducible refine gate_dst (N := 2) rfl ?_); refine box_event ?hg (N := 2) ?hd (cs := #[.slice A0 p.f0.length c0, .slice A1 p.f1.length c1, .slice A2 p.f2.length c2, .slice A3 p.f3.length c3, .slice A4 p.f4.length c4, .slice A5 p.f5.length c5, .slice A6 p.f6.length c6, .slice A7 p.f7.length c7, .slice A8 p.f8.length c8, .slice A9 p.f9.length c9, .slice A10 p.f10.length c10]) (t := 28) ?hr ?_; (case hd => rfl); (case hg => rfl); (case hr => first | (go_simp; done) | (go_simp; rfl)); intro b2 hg_ w1 hb2 hB1; go_must (have BW1 := Lib.hid hB1; have K2 := Lib.hid hb2; clear hb2 hB1); clear hg_) | ((with_reducible refine gate_dst (N := 3) rfl ?_); refine box_event ?hg (N := 3) ?hd (cs := #[.slice B0 q.f0.length d0, .slice B1 q.f1.length d1, .slice B2 q.f2.length d2, .slice B3 q.f3.length d3, .slice B4 q.f4.length d4, .slice B5 q.f5.length d5, .slice B6 q.f6.length d6, .slice B7 q.f7.length d7, .slice B8 q.f8.length d8, .slice B9 q.f9.length d9, .slice B10 q.f10.length d10]) (t := 28) ?hr ?_; (case hd => rfl); (case hg => rfl); (case hr => first | (go_simp; done) | (go_simp; rfl)); intro b3 hg_ w2 hb3 hB2; go_must (have K22 := Lib.hid (blk_below K2.out hB2); have BW2 := Lib.hid (BW1.out.trans (hB2.mono BW1.out.size)); have K3 := Lib.hid hb3; clear hb3 hB2); clear hg_))
  clear K2 BW1
  go_upto_region 3 with (first | (go_at_call 39; go_must (refine (alive_calls _).mono ?_); rintro e w3 ⟨rfl, hb⟩; have KP := Lib.hid (blk_below K22.out hb); have KQ := Lib.hid (blk_below K3.out hb); have BW3 := Lib.hid (BW2.out.trans (hb.mono BW2.out.size)); clear hb) | ((with_reducible refine gate_ (.load 28 (.tmp 2)) rfl ?_); go_must (refine wpList_load_row rfl 28 (.tmp 2) rfl b2 rfl _ _ _ _ KP.out Try.underlying28 rfl (by kernel_rfl) ?_)) | ((with_reducible refine gate_ (.load 28 (.tmp 3)) rfl ?_); go_must (refine wpList_load_row rfl 28 (.tmp 3) rfl b3 rfl _ _ _ _ KQ.out Try.underlying28 rfl (by kernel_rfl) ?_)) | (go_at_call 28; go_must (refine (HV.out _ _ _ (two_C (k28.K_below BW3.out HK.out) (k28.K_below BW3.out HQ.out) rfl) (Nat.le_refl _)).mono ?_); rintro e w4 ⟨rfl, hb⟩; have hb4 := Below.trans ((Below.refl _ w3).alloc (Nat.le_refl _) _) (hb.mono (by rw [size_new]; exact Nat.le_succ _)); have KP4 := Lib.hid (blk_below KP.out hb4); have KQ4 := Lib.hid (blk_below KQ.out hb4); have BW4 := Lib.hid (BW3.out.trans (hb4.mono BW3.out.size)); clear hb hb4))
  clear HV K22 K3 BW2 KP KQ BW3
  cases vb with
  | true =>
    go_wp2_with fail
    go_ret
    exact ⟨rfl, BW4.out⟩
  | false =>
    have hcp := HVB.out rfl p (by simp)
    have hcq := HVB.out rfl q (by simp)
    have hpq : okD p q = true := okD_iff.2 ⟨okB_iff.1 hsp.ok, okB_iff.1 hsq.ok, hcp, hcq⟩
    have hqp : okD q p = true := okD_iff.2 ⟨okB_iff.1 hsq.ok, okB_iff.1 hsp.ok, hcq, hcp⟩
    have hlen : (chL p q).length ≤ 131072 := by
      have h1 := chL_len p q
      have h2 := relL_len p
      have h3 := relL_len q
      clear HVB
      generalize p.f1.length * (p.f3.length * p.f0.length) = X at h2 hcp
      generalize q.f1.length * (q.f3.length * q.f0.length) = Y at h3 hcq
      omega
    have HLEN := Lib.hid hlen
    have HPQ := Lib.hid hpq
    have HQP := Lib.hid hqp
    have HSP := Lib.hid hsp
    have HSQ := Lib.hid hsq
    clear HVB hcp hcq hpq hqp hlen hsp hsq
    go_upto_region 5 with fail
    refine db5.region p q _ _ (k28.K_below BW4.out HK.out) (k28.K_below BW4.out HQ.out) HSP.out HSQ.out HPQ.out HQP.out (by kernel_rfl) rfl rfl KP4.out rfl KQ4.out ?_
    rintro xs5 w5 hb5 ⟨AL, cL, e5, hlL, hL⟩
    simp only [putZ, Act.put, List.setIfInBounds_toArray, List.set_cons_zero, List.set_cons_succ, Nat.reduceAdd]
    rw [e5]
    have KP5 := Lib.hid (blk_below KP4.out hb5)
    have KQ5 := Lib.hid (blk_below KQ4.out hb5)
    have BW5 := Lib.hid (BW4.out.trans (hb5.mono BW4.out.size))
    have HL5 := Lib.hid hL
    have HLL := Lib.hid hlL
    clear hb5 e5 hL hlL KP4 KQ4 BW4
    go_upto_region 6 with fail
    refine db6.region p q _ _ (k28.K_below BW5.out HK.out) (k28.K_below BW5.out HQ.out) HSP.out HSQ.out HPQ.out HQP.out (by kernel_rfl) rfl rfl KP5.out rfl KQ5.out ?_
    rintro xs6 w6 hb6 ⟨AM, cM, e6, hlM, hM⟩
    simp only [putZ, Act.put, List.setIfInBounds_toArray, List.set_cons_zero, List.set_cons_succ, Nat.reduceAdd]
    rw [e6]
    have KP6 := Lib.hid (blk_below KP5.out hb6)
    have KQ6 := Lib.hid (blk_below KQ5.out hb6)
    have BW6 := Lib.hid (BW5.out.trans (hb6.mono BW5.out.size))
    have HL6 := Lib.hid (Kd.C_below HL5.out hb6)
    have HM6 := Lib.hid hM
    have HLM := Lib.hid hlM
    clear hb6 e6 hM hlM KP5 KQ5 BW5 HL5
    go_upto_region 7 with fail
    refine db7.region p q _ _ (k28.K_below BW6.out HK.out) (k28.K_below BW6.out HQ.out) HSP.out HSQ.out HPQ.out HQP.out HLL.out HLM.out HL6.out HM6.out (chL_back_len p q) (sameB_back p q) (by kernel_rfl) rfl rfl KP6.out rfl KQ6.out rfl rfl rfl ?_
    rintro xs7 w7 hb7 e7
    simp only [putZ, Act.put, List.setIfInBounds_toArray, List.set_cons_zero, List.set_cons_succ, Nat.reduceAdd]
    rw [show xs7 21 = .bool false from e7]
    have BW7 := Lib.hid (BW6.out.trans (hb7.mono BW6.out.size))
    have HL := Lib.hid (Kd.C_below HL6.out hb7)
    have HM := Lib.hid (Kd.C_below HM6.out hb7)
    have HTB := Lib.hid (fun c (h : c ∈ chL p q) => told_back p q h)
    obtain ⟨L, hL⟩ : ∃ l, l = chL p q := ⟨_, rfl⟩
    obtain ⟨M, hM⟩ : ∃ l, l = chL q p := ⟨_, rfl⟩
    have hML : M.length = L.length := by rw [hL, hM]; exact chL_back_len p q
    rw [← hL] at HLEN HLL HL HTB ⊢
    rw [← hM] at HLM HM HTB ⊢
    have HML := Lib.hid hML
    clear hb7 e7 KP6 KQ6 BW6 HL6 HM6 hL hM hML HPQ HQP HSP HSQ HK HQ
    by_cases hbig : (2000 : Int) < (L.length : Int)
    · go_wp2_with fail
      go_ret
      exact ⟨rfl, BW7.out⟩
    · have HBIG := Lib.hid hbig
      have hlb : (L.length : Int) ≤ 2000 := by omega
      clear hbig
      go_wp2_with fail
      go_loopw [9] (fun i wr => ∃ k : Nat, k ≤ L.length ∧ i = .int .i64 (k : Nat) ∧ Hid (Below w7.heap.size w7 wr)) (fun i _ => L.length - (intOf i).toNat)
      case atStart => exact ⟨0, Nat.zero_le _, rfl, Lib.hid (Below.refl _ _)⟩
      case round =>
        obtain ⟨k, hk, rfl, HB⟩ := hrel
        by_cases hlt : k < L.length
        · obtain ⟨ad, eA, c0, c1, c2, c3⟩ := at_T53 (Kd.C_below HL.out HB.out) (k : Int) (by omega) (by omega)
          subst eA
          obtain ⟨x, hx⟩ : ∃ x, x = rd_T53 L (k : Int) := ⟨_, rfl⟩
          rw [← hx, Int.toNat_natCast] at c0 c1 c2 c3
          have hkx : L[k]? = some x := by rw [hx]; simp [rd_T53, List.getD_eq_getElem?_getD, List.getElem?_eq_getElem hlt]
          have HT := Lib.hid (HTB.out x (List.mem_of_getElem? hkx))
          have i0 : (0 : Int) ≤ (k : Int) := by omega
          have i1 : (k : Int) < (L.length : Int) := by omega
          clear hx hkx
          go_wp2_with (first | ((with_reducible refine gate_dst (N := 10) rfl ?_); refine box_event ?hg (N := 10) ?hd (cs := #[.string ⟨#[]⟩, .string ⟨#[]⟩, .string ⟨#[]⟩, .bool false]) (t := 53) ?hr ?_; (case hd => rfl); (case hg => rfl); (case hr => first | (go_simp; done) | (go_simp; rfl)); intro bx hg_ wx hbx hBx; go_must (have hle : wr.heap.size ≤ bx := (by omega)); clear hg_) | ((with_reducible refine gate_ (.store 53 (.tmp 10) (.tmp 62)) rfl ?_); go_must (refine bstore (t := 53) (p := 10) (v := .tmp 62) rfl rfl rfl bx _ #[.string x.f0.f0, .string x.f0.f1, .string x.f0.f2, .bool x.f1] (.agg #[.string x.f0.f0, .string x.f0.f1, .string x.f0.f2, .bool x.f1]) rfl rfl rfl hbx (by kernel_rfl) (by simp) (by intro q hq; simp only [List.mem_cons, List.not_mem_nil, or_false] at hq; rcases hq with rfl | rfl | rfl | rfl <;> rfl) ?_); intro ws hbs hoth hsz hbel; have HBX := Lib.hid hbs; have HBS := Lib.hid (HB.out.trans ((hBx.trans (hbel _ hle)).mono HB.out.size)); have HLX := Lib.hid (show w7.heap.size ≤ bx from Nat.le_trans HB.out.size hle); have t3 := (blk_cell hbs 3).trans (Eq.refl (some (Value.bool x.f1))); have tf := blk_frozen hbs 3; clear hbx hbs hoth hsz hbel hBx hle) | ((with_reducible refine gate_ (.load 53 (.tmp 10)) rfl ?_); go_must (refine wpList_load_row rfl 53 (.tmp 10) rfl bx rfl _ #[.string x.f0.f0, .string x.f0.f1, .string x.f0.f2, .bool (!x.f1)] _ _ (blk_set HBX.out 3 (.bool (!x.f1))) Try.underlying53 rfl (by kernel_rfl) ?_)) | (go_at_call 40; go_must (refine (told_k M (flipC x) AM cM _ (Kd.C_below HM.out (HBS.out.setCell (p := ⟨bx, 3, none⟩) HLX.out _)) HLM.out (by have := HML.out; omega)).mono ?_); rw [HT.out]; rintro e w9 ⟨rfl, hb⟩; have HB9 := Lib.hid ((HBS.out.setCell (p := ⟨bx, 3, none⟩) HLX.out _).trans (hb.mono (HBS.out.setCell (p := ⟨bx, 3, none⟩) HLX.out (.bool (!x.f1))).size)); clear hb))
          go_roundw
          case rel => exact ⟨k + 1, hlt, by go_num, HB9⟩
          case measure => simp [intOf]; omega
        · obtain rfl : k = L.length := by omega
          go_wp2_with fail
          go_ret
          exact ⟨rfl, BW7.out.trans (HB.out.mono BW7.out.size)⟩
end Go.Proofs.Yteefneemmdfncaa.F
