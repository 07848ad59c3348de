import Derived.Test.YteefneemmdfncaaDoorWk
/- why.Explain, walked. Conditions: the policy reads as it must; its lists are bounded. -/
namespace Go.Proofs.YteefneemmdfncaaDoor.M
open Go.RowKit Go.Proofs.YteefneemmdfncaaDoorW.Raw Go.Proofs.YteefneemmdfncaaDoorW.PrintWords Go.Proofs.YteefneemmdfncaaDoor.F
set_option linter.unusedVariables false
set_option linter.unusedSimpArgs false
attribute [local go_sem high] eqA30
attribute [local go_sem] run_store_float
theorem nth_rule {l : List Rule} {k : Nat} (h : k < l.length) : ∃ u, l[k]? = some u := ⟨_, List.getElem?_eq_getElem h⟩
theorem nth_tri {l : List Tri} {k : Nat} (h : k < l.length) : ∃ u, l[k]? = some u := ⟨_, List.getElem?_eq_getElem h⟩
theorem no_more {α : Type} {q : α → Bool} {l : List α} {k : Nat} (h : ∀ j y, j < k → l[j]? = some y → q y = false) {u : α} (hu : l[k]? = some u) (hq : q u = false) : ∀ j y, j < k + 1 → l[j]? = some y → q y = false := fun j y hj hy => by
  by_cases e : j = k
  · subst e; rw [hu] at hy; injection hy with hy; rw [← hy]; exact hq
  · exact h j y (by omega) hy
theorem by_lt4 {w4 w7 : World} {b4 t : Nat} {cs : Array Value} (h : w4.heap[b4]? = some (.cells cs t (0, 0))) (hb : Below w4.heap.size w4 w7) : b4 < w7.heap.size := Nat.lt_of_lt_of_le (blk_lt h) hb.size
theorem none_of {α : Type} {q : α → Bool} {l : List α} (h : ∀ j y, j < l.length → l[j]? = some y → q y = false) : firstIx q l = none :=
  firstIx_none fun x hx => by
    obtain ⟨k, hk⟩ := List.mem_iff_getElem?.1 hx
    exact h k x (List.getElem?_eq_some_iff.1 hk).1 hk
set_option maxRecDepth 100000 in
set_option maxHeartbeats 8000000 in
theorem explain_known (p : Pol) (C : Array Value) (t : Tri) (w : World) (hk : k28.K w p C.toList) (hq : knownB p t = true) (hz : Sz p) :
    Calls Tryd.prog 21 #[.agg C, .agg #[.string t.f0, .string t.f1, .string t.f2]] w fun e w' => ∃ v, e = .returned v ∧ RsV w.heap.size (explL p t) v w' ∧ Below w.heap.size w w' := by
  have HK := Lib.hid hk
  have HSP := Lib.hid (pol_size hk)
  have HQ := Lib.hid hq
  have HZ := Lib.hid hz
  have OKP := Lib.hid (okB_iff.1 hz.ok)
  have hl9 := hz.l9
  have hl10 := hz.l10
  obtain ⟨C', hC'⟩ : ∃ C' : Array Value, C' = C := ⟨_, rfl⟩
  have hk' := hk
  rw [← hC'] at hk'
  obtain ⟨A0, c0, A1, c1, A2, c2, A3, c3, A4, c4, A5, c5, A6, c6, A7, c7, A8, c8, A9, c9, A10, c10, e_, l0, g0, l1, g1, l2, g2, l3, g3, l4, g4, l5, g5, l6, g6, l7, g7, l8, g8, l9, g9, l10, g10⟩ := k28_open hk'
  obtain rfl : C' = #[.slice A0 p.f0.length c0, .slice A1 p.f1.length c1, .slice A2 p.f2.length c2, .slice A3 p.f3.length c3, .slice A4 p.f4.length c4, .slice A5 p.f5.length c5, .slice A6 p.f6.length c6, .slice A7 p.f7.length c7, .slice A8 p.f8.length c8, .slice A9 p.f9.length c9, .slice A10 p.f10.length c10] := by cases C'; simpa using e_
  clear e_
  have HC9 := Lib.hid (show C[9]? = some (.slice A9 p.f9.length c9) by rw [← hC']; rfl)
  have HC10 := Lib.hid (show C[10]? = some (.slice A10 p.f10.length c10) by rw [← hC']; rfl)
  have H9 := Lib.hid g9
  have H10 := Lib.hid g10
  clear hk hk' hC' hq hz l0 g0 l1 g1 l2 g2 l3 g3 l4 g4 l5 g5 l6 g6 l7 g7 l8 g8 l9 g9 l10 g10
  go_enter Tryd.func21, Tryd.ntmps21
  go_wp2_with (first
    | ((with_reducible refine gate_dst (N := 2) rfl ?_); refine box_event ?hg (N := 2) ?hd (cs := C) (t := 28) ?hr ?_; (case hd => rfl); (case hg => rfl); (case hr => first | (go_simp; done) | (go_simp; rfl)); intro b2 hg_ w1 hbx hBx; have BW1 := Lib.hid hBx; have K2 := Lib.hid hbx; clear hg_ hbx hBx)
    | ((with_reducible refine gate_dst (N := 3) rfl ?_); refine box_event ?hg (N := 3) ?hd (cs := #[.string t.f0, .string t.f1, .string t.f2]) (t := 30) ?hr ?_; (case hd => rfl); (case hg => rfl); (case hr => first | (go_simp; done) | (go_simp; rfl)); intro b3 hg_ w2 hbx hBx; have K22 := Lib.hid (blk_below K2.out hBx); have BW2 := Lib.hid (BW1.out.trans (hBx.mono BW1.out.size)); have K3 := Lib.hid hbx; clear hg_ hbx hBx)
    | ((with_reducible refine gate_dst (N := 4) rfl ?_); refine box_event ?hg (N := 4) ?hd (cs := #[.int .i8 0, .int .i64 0, .slice none 0 0, .slice none 0 0]) (t := 33) ?hr ?_; (case hd => rfl); (case hg => rfl); (case hr => first | (go_simp; done) | (go_simp; rfl)); intro b4 hg_ w3 hbx hBx; have HG4 := Lib.hid (show w.heap.size ≤ b4 by rw [hg_]; exact BW2.out.size); have KP := Lib.hid (blk_below K22.out hBx); have KT := Lib.hid (blk_below K3.out hBx); have BW3 := Lib.hid (BW2.out.trans (hBx.mono BW2.out.size)); have KR := Lib.hid hbx; clear hg_ hbx hBx)
    | ((with_reducible refine gate_ (.load 28 (.tmp 2)) rfl ?_); go_must (refine wpList_load_row rfl 28 (.tmp 2) rfl b2 rfl _ _ _ _ KP.out Tryd.underlying28 rfl HSP.out ?_))
    | ((with_reducible refine gate_ (.load 30 (.tmp 3)) rfl ?_); go_must (refine wpList_load_row rfl 30 (.tmp 3) rfl b3 rfl _ _ _ _ KT.out Tryd.underlying30 rfl (by kernel_rfl) ?_))
    | (go_at_call 50; go_must (refine (known_calls p C t _ (k28.K_below BW3.out HK.out)).mono ?_); rw [HQ.out]; rintro e w4 ⟨rfl, hb⟩; have KP4 := Lib.hid (blk_below KP.out hb); have KT4 := Lib.hid (blk_below KT.out hb); have KR4 := Lib.hid (blk_below KR.out hb); have BW4 := Lib.hid (BW3.out.trans (hb.mono BW3.out.size)); have q10 := (blk_cell KP4.out 10).trans HC10.out; clear hb))
  go_loopw [19] (fun i wr => ∃ k : Nat, k ≤ p.f10.length ∧ i = .int .i64 (k : Nat) ∧ Hid (∀ j y, j < k → p.f10[j]? = some y → eqT y t = false) ∧ Hid (Below w4.heap.size w4 wr)) (fun i _ => p.f10.length - (intOf i).toNat)
  case atStart => exact ⟨0, Nat.zero_le _, rfl, Lib.hid (fun j y h => absurd h (Nat.not_lt_zero _)), Lib.hid (Below.refl _ _)⟩
  case round =>
    obtain ⟨k, hk, rfl, HNO, HBR⟩ := hrel
    by_cases hlt : k < p.f10.length
    · obtain ⟨u, hu⟩ := nth_tri hlt
      obtain ⟨ad, rfl, hel⟩ := tri_at H10.out rfl hu
      obtain ⟨e0, e1, e2⟩ := hel wr (BW4.out.trans (HBR.out.mono BW4.out.size))
      have HKU := Lib.hid hu
      clear hu hel
      cases hq : eqT u t with
      | false =>
        have HQF := Lib.hid hq
        have hq' := (eqT_l u t).trans hq
        clear hq
        go_wp2_with (first
          | ((with_reducible refine gate_dst (N := 6) rfl ?_); refine box_event ?hg (N := 6) ?hd (cs := #[.string ⟨#[]⟩, .string ⟨#[]⟩, .string ⟨#[]⟩]) (t := 30) ?hr ?_; (case hd => rfl); (case hg => rfl); (case hr => first | (go_simp; done) | (go_simp; rfl)); intro b6 hg_ w5 hbx hBx; have HL6 := Lib.hid (show wr.heap.size ≤ b6 from by rw [hg_]; exact Nat.le_refl _); have HB5 := Lib.hid hBx; have K6 := Lib.hid hbx; clear hg_ hbx hBx)
          | ((with_reducible refine gate_ (.store 30 (.tmp 6) (.tmp 23)) rfl ?_); go_must (refine bstore (t := 30) (p := 6) (v := .tmp 23) rfl rfl rfl b6 _ #[.string u.f0, .string u.f1, .string u.f2] (.agg #[.string u.f0, .string u.f1, .string u.f2]) rfl rfl rfl K6.out (by kernel_rfl) rfl (by simp [Value.oneCell']) ?_); intro w6 hb4 hs4 hz4 hB4; have K66 := Lib.hid hb4; have HB6 := Lib.hid (HBR.out.trans ((HB5.out.trans (hB4 _ HL6.out)).mono HBR.out.size)); clear hb4 hs4 hz4 hB4)
          | ((with_reducible refine gate_ (.load 30 (.tmp 6)) rfl ?_); go_must (refine wpList_load_row rfl 30 (.tmp 6) rfl b6 rfl _ _ _ _ K66.out Tryd.underlying30 rfl (by kernel_rfl) ?_))
          | ((with_reducible refine gate_ (.load 30 (.tmp 3)) rfl ?_); go_must (refine wpList_load_row rfl 30 (.tmp 3) rfl b3 rfl _ _ _ _ (blk_below KT4.out HB6.out) Tryd.underlying30 rfl (by kernel_rfl) ?_)))
        go_roundw
        case rel => exact ⟨k + 1, hlt, by go_num, Lib.hid (no_more HNO.out HKU.out HQF.out), HB6⟩
        case measure => simp [intOf]; omega
      | true =>
        have HQT := Lib.hid hq
        have hq' := (eqT_l u t).trans hq
        clear hq
        go_wp2_with (first
          | ((with_reducible refine gate_dst (N := 6) rfl ?_); refine box_event ?hg (N := 6) ?hd (cs := #[.string ⟨#[]⟩, .string ⟨#[]⟩, .string ⟨#[]⟩]) (t := 30) ?hr ?_; (case hd => rfl); (case hg => rfl); (case hr => first | (go_simp; done) | (go_simp; rfl)); intro b6 hg_ w5 hbx hBx; have HL6 := Lib.hid (show wr.heap.size ≤ b6 from by rw [hg_]; exact Nat.le_refl _); have HB5 := Lib.hid hBx; have K6 := Lib.hid hbx; clear hg_ hbx hBx)
          | ((with_reducible refine gate_ (.store 30 (.tmp 6) (.tmp 23)) rfl ?_); go_must (refine bstore (t := 30) (p := 6) (v := .tmp 23) rfl rfl rfl b6 _ #[.string u.f0, .string u.f1, .string u.f2] (.agg #[.string u.f0, .string u.f1, .string u.f2]) rfl rfl rfl K6.out (by kernel_rfl) rfl (by simp [Value.oneCell']) ?_); intro w6 hb4 hs4 hz4 hB4; have K66 := Lib.hid hb4; have HB6 := Lib.hid (HBR.out.trans ((HB5.out.trans (hB4 _ HL6.out)).mono HBR.out.size)); clear hb4 hs4 hz4 hB4)
          | ((with_reducible refine gate_ (.load 30 (.tmp 6)) rfl ?_); go_must (refine wpList_load_row rfl 30 (.tmp 6) rfl b6 rfl _ _ _ _ K66.out Tryd.underlying30 rfl (by kernel_rfl) ?_))
          | ((with_reducible refine gate_ (.load 30 (.tmp 3)) rfl ?_); go_must (refine wpList_load_row rfl 30 (.tmp 3) rfl b3 rfl _ _ _ _ (blk_below KT4.out HB6.out) Tryd.underlying30 rfl (by kernel_rfl) ?_))
          | ((with_reducible refine gate_ (.store 33 (.tmp 4) (.tmp 29)) rfl ?_); go_must (refine bstore (t := 33) (p := 4) (v := .tmp 29) rfl rfl rfl b4 _ #[.int .i8 2, .int .i64 ((k : Int) + 1), .slice none 0 0, .slice none 0 0] (.agg #[.int .i8 2, .int .i64 ((k : Int) + 1), .slice none 0 0, .slice none 0 0]) rfl rfl rfl (blk_below KR4.out HB6.out) (by kernel_rfl) rfl (by simp [Value.oneCell']) ?_); intro w9 hb4 hs4 hz4 hB4; have HF := Lib.hid hb4; have HB := Lib.hid ((BW4.out.trans (HB6.out.mono BW4.out.size)).trans (hB4 _ HG4.out)); clear hb4 hs4 hz4 hB4))
        refine bodyPost_ret (results_cell_row rfl _ _ b4 33 #[.int .i8 2, .int .i64 ((k : Int) + 1), .slice none 0 0, .slice none 0 0] (0, 0) _ rfl HF.out Tryd.underlying33 rfl (by kernel_rfl)) rfl ?_
        exact ⟨_, rfl, by rw [expl_exc HQ.out (firstIx_some HNO.out HKU.out HQT.out)]; exact RsV.nil _ 2 _ _, HB.out⟩
    · obtain rfl : k = p.f10.length := by omega
      have HNE := Lib.hid (none_of HNO.out)
      clear HNO hlt hk
      go_wp2_with fail
      obtain ⟨wl, hwl⟩ : ∃ x, x = wr.alloc (Obj.cells #[Value.bool true, Value.bool false] 4) := ⟨_, rfl⟩
      have hbl := heap_new wr (Obj.cells #[Value.bool true, Value.bool false] 4)
      rw [← hwl] at hbl ⊢
      have HBL := Lib.hid (show Below w4.heap.size w4 wl from by rw [hwl]; exact HBR.out.alloc HBR.out.size _)
      have HKL := Lib.hid hbl
      obtain ⟨bl, hbl2⟩ : ∃ b, b = wr.heap.size := ⟨_, rfl⟩
      rw [← hbl2] at HKL ⊢
      clear hbl hwl hbl2
      go_loopw [33] (fun i wo => ∃ m : Int, (m = 0 ∨ m = 1 ∨ m = 2) ∧ i = .int .i64 m ∧ Hid ((1 ≤ m → firstIx (ruleQ p t true) p.f9 = none) ∧ (2 ≤ m → firstIx (ruleQ p t false) p.f9 = none)) ∧ Hid (Below w4.heap.size w4 wo) ∧ Hid (wo.heap[bl]? = some (Obj.cells #[Value.bool true, Value.bool false] 4 (0, 0)))) (fun i _ => 2 - (intOf i).toNat)
      case atStart => exact ⟨0, .inl rfl, rfl, Lib.hid ⟨fun h => absurd h (by decide), fun h => absurd h (by decide)⟩, HBL, HKL⟩
      case round =>
        obtain ⟨m, hmc, rfl, HM, HBO, HKB⟩ := hrel
        have hb0 := (blk_cell HKB.out 0).trans (Eq.refl (some (Value.bool true)))
        have hb1 := (blk_cell HKB.out 1).trans (Eq.refl (some (Value.bool false)))
        have q9 := (blk_cell (blk_below KP4.out HBO.out) 9).trans HC9.out
        rcases hmc with rfl | rfl | rfl
        · go_wp2_with fail
          have HMM := HM
          clear HM
          obtain ⟨WO, hWO⟩ : ∃ x, x = wr := ⟨wr, rfl⟩
          rw [← hWO] at HBO HKB hb0 hb1 q9 ⊢
          clear hWO hb0 hb1 q9
          go_loopw [40] (fun i wi => ∃ k : Nat, k ≤ p.f9.length ∧ i = .int .i64 (k : Nat) ∧ Hid (∀ j y, j < k → p.f9[j]? = some y → ruleQ p t true y = false) ∧ Hid (Below w4.heap.size w4 wi) ∧ Hid (wi.heap[bl]? = some (Obj.cells #[Value.bool true, Value.bool false] 4 (0, 0)))) (fun i _ => p.f9.length - (intOf i).toNat)
          case atStart => exact ⟨0, Nat.zero_le _, rfl, Lib.hid (fun j y h => absurd h (Nat.not_lt_zero _)), HBO, HKB⟩
          case round =>
            obtain ⟨k, hk, rfl, HNO, HBI, HKI⟩ := hrel
            by_cases hlt : k < p.f9.length
            · obtain ⟨u, hu⟩ := nth_rule hlt
              obtain ⟨ad, A3', c3', rfl, lu, gu, hel⟩ := rule_at H9.out rfl hu
              obtain ⟨e0, e1, e2, e3, e4, e5⟩ := hel wr (BW4.out.trans (HBI.out.mono BW4.out.size))
              have HKU := Lib.hid hu
              have LU := Lib.hid lu
              have HU := Lib.hid gu
              clear hu lu gu hel
              obtain ⟨b0, hb0⟩ : ∃ b, b = u.f0 := ⟨_, rfl⟩
              rw [← hb0] at e0
              cases b0 with
              | false =>
                have HF0 := Lib.hid hb0.symm
                clear hb0
                have HQF := Lib.hid (show ruleQ p t true u = false by unfold ruleQ; rw [HF0.out]; rfl)
                go_wp2_with (first
                    | ((with_reducible refine gate_dst (N := 10) rfl ?_); refine box_event ?hg (N := 10) ?hd (cs := #[.bool false, .string ⟨#[]⟩, .string ⟨#[]⟩, .slice none 0 0, .int .i8 0, .float .f64 0]) (t := 48) ?hr ?_; (case hd => rfl); (case hg => rfl); (case hr => first | (go_simp; done) | (go_simp; rfl)); intro b10 hg_ w5 hbx hBx; have HL10 := Lib.hid (show wr.heap.size ≤ b10 from by rw [hg_]; exact Nat.le_refl _); have HB5 := Lib.hid hBx; have K10 := Lib.hid hbx; clear hg_ hbx hBx)
                    | ((with_reducible refine gate_ (.store 48 (.tmp 10) (.tmp 44)) rfl ?_); go_must (refine bstore (t := 48) (p := 10) (v := .tmp 44) rfl rfl rfl b10 _ #[.bool false, .string u.f1, .string u.f2, .slice A3' u.f3.length c3', .int .i8 u.f4, .float .f64 u.f5] (.agg #[.bool false, .string u.f1, .string u.f2, .slice A3' u.f3.length c3', .int .i8 u.f4, .float .f64 u.f5]) rfl rfl rfl K10.out (by kernel_rfl) rfl (by simp [Value.oneCell']) ?_); intro w6 hb4 hs4 hz4 hB4; have K6 := Lib.hid hb4; have HBr := Lib.hid (HB5.out.trans (hB4 _ HL10.out)); have HB6 := Lib.hid (HBI.out.trans (HBr.out.mono HBI.out.size)); have z0 := (blk_cell hb4 0).trans (Eq.refl (some (Value.bool false))); clear hb4 hs4 hz4 hB4))
                go_roundw
                case rel => exact ⟨k + 1, hlt, by go_num, Lib.hid (no_more HNO.out HKU.out HQF.out), HB6, Lib.hid (blk_below HKI.out HBr.out)⟩
                case measure => simp [intOf]; omega
              | true =>
                have HF0 := Lib.hid hb0.symm
                clear hb0
                cases hm : matchB p u t with
                | false =>
                  have HM := Lib.hid hm
                  clear hm
                  have HQF := Lib.hid (show ruleQ p t true u = false by unfold ruleQ; rw [HM.out, Bool.and_false])
                  go_wp2_with (first
                      | ((with_reducible refine gate_dst (N := 10) rfl ?_); refine box_event ?hg (N := 10) ?hd (cs := #[.bool false, .string ⟨#[]⟩, .string ⟨#[]⟩, .slice none 0 0, .int .i8 0, .float .f64 0]) (t := 48) ?hr ?_; (case hd => rfl); (case hg => rfl); (case hr => first | (go_simp; done) | (go_simp; rfl)); intro b10 hg_ w5 hbx hBx; have HL10 := Lib.hid (show wr.heap.size ≤ b10 from by rw [hg_]; exact Nat.le_refl _); have HB5 := Lib.hid hBx; have K10 := Lib.hid hbx; clear hg_ hbx hBx)
                      | ((with_reducible refine gate_ (.store 48 (.tmp 10) (.tmp 44)) rfl ?_); go_must (refine bstore (t := 48) (p := 10) (v := .tmp 44) rfl rfl rfl b10 _ #[.bool true, .string u.f1, .string u.f2, .slice A3' u.f3.length c3', .int .i8 u.f4, .float .f64 u.f5] (.agg #[.bool true, .string u.f1, .string u.f2, .slice A3' u.f3.length c3', .int .i8 u.f4, .float .f64 u.f5]) rfl rfl rfl K10.out (by kernel_rfl) rfl (by simp [Value.oneCell']) ?_); intro w6 hb4 hs4 hz4 hB4; have K6 := Lib.hid hb4; have HBr := Lib.hid (HB5.out.trans (hB4 _ HL10.out)); have HB6 := Lib.hid (HBI.out.trans (HBr.out.mono HBI.out.size)); have z0 := (blk_cell hb4 0).trans (Eq.refl (some (Value.bool true))); clear hb4 hs4 hz4 hB4)
                      | ((with_reducible refine gate_ (.load 28 (.tmp 2)) rfl ?_); (try (refine gate_guard (by rfl) ?_; dsimp only)); go_must (refine wpList_load_row rfl 28 (.tmp 2) rfl b2 rfl _ _ _ _ (blk_below KP4.out HB6.out) Tryd.underlying28 rfl HSP.out ?_))
                      | ((with_reducible refine gate_ (.load 48 (.tmp 10)) rfl ?_); (try (refine gate_guard (by rfl) ?_; dsimp only)); go_must (refine wpList_load_row rfl 48 (.tmp 10) rfl b10 rfl _ _ _ _ K6.out Tryd.underlying48 rfl (by kernel_rfl) ?_))
                      | ((with_reducible refine gate_ (.load 30 (.tmp 3)) rfl ?_); (try (refine gate_guard (by rfl) ?_; dsimp only)); go_must (refine wpList_load_row rfl 30 (.tmp 3) rfl b3 rfl _ _ _ _ (blk_below KT4.out HB6.out) Tryd.underlying30 rfl (by kernel_rfl) ?_))
                      | (go_at_call 51; go_must (refine (matches_calls p C #[.bool true, .string u.f1, .string u.f2, .slice A3' u.f3.length c3', .int .i8 u.f4, .float .f64 u.f5] u t _ (k28.K_below (BW4.out.trans (HB6.out.mono BW4.out.size)) HK.out) (by have hr := k48_mk w6 u LU.out (Kd.C_below HU.out (BW4.out.trans (HB6.out.mono BW4.out.size))); rw [HF0.out] at hr; exact hr) OKP.out).mono ?_); rw [HM.out]; rintro e w7 ⟨rfl, hb⟩; have HB7r := Lib.hid (HBr.out.trans (hb.mono HBr.out.size)); have HB7 := Lib.hid (HB6.out.trans (hb.mono HB6.out.size)); clear hb))
                  go_roundw
                  case rel => exact ⟨k + 1, hlt, by go_num, Lib.hid (no_more HNO.out HKU.out HQF.out), HB7, Lib.hid (blk_below HKI.out HB7r.out)⟩
                  case measure => simp [intOf]; omega
                | true =>
                  have HM := Lib.hid hm
                  clear hm
                  have HQT := Lib.hid (firstIx_some HNO.out HKU.out (show ruleQ p t true u = true from ruleQ_iff.2 ⟨HF0.out, HM.out⟩))
                  have U1 : True := trivial
                  have U2 : True := trivial
                  go_wp2_with (first
                      | ((with_reducible refine gate_dst (N := 10) rfl ?_); refine box_event ?hg (N := 10) ?hd (cs := #[.bool false, .string ⟨#[]⟩, .string ⟨#[]⟩, .slice none 0 0, .int .i8 0, .float .f64 0]) (t := 48) ?hr ?_; (case hd => rfl); (case hg => rfl); (case hr => first | (go_simp; done) | (go_simp; rfl)); intro b10 hg_ w5 hbx hBx; have HL10 := Lib.hid (show wr.heap.size ≤ b10 from by rw [hg_]; exact Nat.le_refl _); have HB5 := Lib.hid hBx; have K10 := Lib.hid hbx; clear hg_ hbx hBx)
                      | ((with_reducible refine gate_ (.store 48 (.tmp 10) (.tmp 44)) rfl ?_); go_must (refine bstore (t := 48) (p := 10) (v := .tmp 44) rfl rfl rfl b10 _ #[.bool true, .string u.f1, .string u.f2, .slice A3' u.f3.length c3', .int .i8 u.f4, .float .f64 u.f5] (.agg #[.bool true, .string u.f1, .string u.f2, .slice A3' u.f3.length c3', .int .i8 u.f4, .float .f64 u.f5]) rfl rfl rfl K10.out (by kernel_rfl) rfl (by simp [Value.oneCell']) ?_); intro w6 hb4 hs4 hz4 hB4; have K6 := Lib.hid hb4; have HBr := Lib.hid (HB5.out.trans (hB4 _ HL10.out)); have HB6 := Lib.hid (HBI.out.trans (HBr.out.mono HBI.out.size)); have z0 := (blk_cell hb4 0).trans (Eq.refl (some (Value.bool true))); clear hb4 hs4 hz4 hB4)
                      | ((with_reducible refine gate_ (.load 28 (.tmp 2)) rfl ?_); (try (refine gate_guard (by rfl) ?_; dsimp only)); first | (clear U1; go_must (refine wpList_load_row rfl 28 (.tmp 2) rfl b2 rfl _ _ _ _ (blk_below KP4.out HB6.out) Tryd.underlying28 rfl HSP.out ?_)) | (go_must (refine wpList_load_row rfl 28 (.tmp 2) rfl b2 rfl _ _ _ _ (blk_below KP4.out HB7.out) Tryd.underlying28 rfl HSP.out ?_)))
                      | ((with_reducible refine gate_ (.load 48 (.tmp 10)) rfl ?_); (try (refine gate_guard (by rfl) ?_; dsimp only)); go_must (refine wpList_load_row rfl 48 (.tmp 10) rfl b10 rfl _ _ _ _ K6.out Tryd.underlying48 rfl (by kernel_rfl) ?_))
                      | ((with_reducible refine gate_ (.load 30 (.tmp 3)) rfl ?_); (try (refine gate_guard (by rfl) ?_; dsimp only)); first | (clear U2; go_must (refine wpList_load_row rfl 30 (.tmp 3) rfl b3 rfl _ _ _ _ (blk_below KT4.out HB6.out) Tryd.underlying30 rfl (by kernel_rfl) ?_)) | (go_must (refine wpList_load_row rfl 30 (.tmp 3) rfl b3 rfl _ _ _ _ (blk_below KT4.out HB7.out) Tryd.underlying30 rfl (by kernel_rfl) ?_)))
                      | (go_at_call 51; go_must (refine (matches_calls p C #[.bool true, .string u.f1, .string u.f2, .slice A3' u.f3.length c3', .int .i8 u.f4, .float .f64 u.f5] u t _ (k28.K_below (BW4.out.trans (HB6.out.mono BW4.out.size)) HK.out) (by have hr := k48_mk w6 u LU.out (Kd.C_below HU.out (BW4.out.trans (HB6.out.mono BW4.out.size))); rw [HF0.out] at hr; exact hr) OKP.out).mono ?_); rw [HM.out]; rintro e w7 ⟨rfl, hb⟩; have HB7r := Lib.hid (HBr.out.trans (hb.mono HBr.out.size)); have HB7 := Lib.hid (HB6.out.trans (hb.mono HB6.out.size)); clear hb)
                      | (go_at_call 52; go_must (have hby := by_calls p C t k u _ (k28.K_below (BW4.out.trans (HB7.out.mono BW4.out.size)) HK.out) HKU.out HZ.out); rw [HF0.out] at hby; go_must (refine hby.mono ?_); rintro e w8 ⟨v, rfl, ⟨v6, v7, rfl, h6, h7⟩, hb⟩; have HG6 := Lib.hid h6; have HG7 := Lib.hid h7; have HB8 := Lib.hid (HB7.out.trans (hb.mono HB7.out.size)); clear hby hb h6 h7)
                      | ((with_reducible refine gate_ (.store 33 (.tmp 4) (.tmp 59)) rfl ?_); go_must (refine bstore (t := 33) (p := 4) (v := .tmp 59) rfl rfl rfl b4 _ #[.int .i8 (byL p t k u).f0, .int .i64 (byL p t k u).f1, v6, v7] (.agg #[.int .i8 (byL p t k u).f0, .int .i64 (byL p t k u).f1, v6, v7]) rfl rfl rfl (blk_below KR4.out HB8.out) (by kernel_rfl) rfl ?hone ?_); (case hone => exact by_one HG6.out HG7.out); intro w9 hb4 hs4 hz4 hB4; have HF := Lib.hid hb4; have HFR := Lib.hid hs4; have HB := Lib.hid ((BW4.out.trans (HB8.out.mono BW4.out.size)).trans (hB4 _ HG4.out)); clear hb4 hs4 hz4 hB4))
                  refine bodyPost_ret (results_cell_row rfl _ _ b4 33 #[.int .i8 (byL p t k u).f0, .int .i64 (byL p t k u).f1, v6, v7] (0, 0) _ rfl HF.out Tryd.underlying33 rfl (by kernel_rfl)) rfl ?_
                  refine ⟨_, rfl, ?_, HB.out⟩
                  rw [expl_deny HQ.out HNE.out HQT.out HKU.out]
                  exact ⟨v6, v7, rfl, Kd.R_lower (SsR.away HG6.out (by_lt4 KR4.out HB7.out) HFR.out) (Nat.le_trans BW4.out.size HB7.out.size), Kd.R_lower (SsR.away HG7.out (by_lt4 KR4.out HB7.out) HFR.out) (Nat.le_trans BW4.out.size HB7.out.size)⟩
            · obtain rfl : k = p.f9.length := by omega
              have HNN := Lib.hid (none_of HNO.out)
              go_wp2_with fail
              go_roundw
              case rel => exact ⟨1, by decide, by first | rfl | go_num, Lib.hid ⟨fun _ => HNN.out, fun h => absurd h (by decide)⟩, HBI, HKI⟩
              case measure => simp [intOf]
        · go_wp2_with fail
          have HMM := HM
          clear HM
          obtain ⟨WO, hWO⟩ : ∃ x, x = wr := ⟨wr, rfl⟩
          rw [← hWO] at HBO HKB hb0 hb1 q9 ⊢
          clear hWO hb0 hb1 q9
          go_loopw [40] (fun i wi => ∃ k : Nat, k ≤ p.f9.length ∧ i = .int .i64 (k : Nat) ∧ Hid (∀ j y, j < k → p.f9[j]? = some y → ruleQ p t false y = false) ∧ Hid (Below w4.heap.size w4 wi) ∧ Hid (wi.heap[bl]? = some (Obj.cells #[Value.bool true, Value.bool false] 4 (0, 0)))) (fun i _ => p.f9.length - (intOf i).toNat)
          case atStart => exact ⟨0, Nat.zero_le _, rfl, Lib.hid (fun j y h => absurd h (Nat.not_lt_zero _)), HBO, HKB⟩
          case round =>
            obtain ⟨k, hk, rfl, HNO, HBI, HKI⟩ := hrel
            by_cases hlt : k < p.f9.length
            · obtain ⟨u, hu⟩ := nth_rule hlt
              obtain ⟨ad, A3', c3', rfl, lu, gu, hel⟩ := rule_at H9.out rfl hu
              obtain ⟨e0, e1, e2, e3, e4, e5⟩ := hel wr (BW4.out.trans (HBI.out.mono BW4.out.size))
              have HKU := Lib.hid hu
              have LU := Lib.hid lu
              have HU := Lib.hid gu
              clear hu lu gu hel
              obtain ⟨b0, hb0⟩ : ∃ b, b = u.f0 := ⟨_, rfl⟩
              rw [← hb0] at e0
              cases b0 with
              | false =>
                have HF0 := Lib.hid hb0.symm
                clear hb0
                cases hm : matchB p u t with
                | false =>
                  have HM := Lib.hid hm
                  clear hm
                  have HQF := Lib.hid (show ruleQ p t false u = false by unfold ruleQ; rw [HM.out, Bool.and_false])
                  go_wp2_with (first
                      | ((with_reducible refine gate_dst (N := 10) rfl ?_); refine box_event ?hg (N := 10) ?hd (cs := #[.bool false, .string ⟨#[]⟩, .string ⟨#[]⟩, .slice none 0 0, .int .i8 0, .float .f64 0]) (t := 48) ?hr ?_; (case hd => rfl); (case hg => rfl); (case hr => first | (go_simp; done) | (go_simp; rfl)); intro b10 hg_ w5 hbx hBx; have HL10 := Lib.hid (show wr.heap.size ≤ b10 from by rw [hg_]; exact Nat.le_refl _); have HB5 := Lib.hid hBx; have K10 := Lib.hid hbx; clear hg_ hbx hBx)
                      | ((with_reducible refine gate_ (.store 48 (.tmp 10) (.tmp 44)) rfl ?_); go_must (refine bstore (t := 48) (p := 10) (v := .tmp 44) rfl rfl rfl b10 _ #[.bool false, .string u.f1, .string u.f2, .slice A3' u.f3.length c3', .int .i8 u.f4, .float .f64 u.f5] (.agg #[.bool false, .string u.f1, .string u.f2, .slice A3' u.f3.length c3', .int .i8 u.f4, .float .f64 u.f5]) rfl rfl rfl K10.out (by kernel_rfl) rfl (by simp [Value.oneCell']) ?_); intro w6 hb4 hs4 hz4 hB4; have K6 := Lib.hid hb4; have HBr := Lib.hid (HB5.out.trans (hB4 _ HL10.out)); have HB6 := Lib.hid (HBI.out.trans (HBr.out.mono HBI.out.size)); have z0 := (blk_cell hb4 0).trans (Eq.refl (some (Value.bool false))); clear hb4 hs4 hz4 hB4)
                      | ((with_reducible refine gate_ (.load 28 (.tmp 2)) rfl ?_); (try (refine gate_guard (by rfl) ?_; dsimp only)); go_must (refine wpList_load_row rfl 28 (.tmp 2) rfl b2 rfl _ _ _ _ (blk_below KP4.out HB6.out) Tryd.underlying28 rfl HSP.out ?_))
                      | ((with_reducible refine gate_ (.load 48 (.tmp 10)) rfl ?_); (try (refine gate_guard (by rfl) ?_; dsimp only)); go_must (refine wpList_load_row rfl 48 (.tmp 10) rfl b10 rfl _ _ _ _ K6.out Tryd.underlying48 rfl (by kernel_rfl) ?_))
                      | ((with_reducible refine gate_ (.load 30 (.tmp 3)) rfl ?_); (try (refine gate_guard (by rfl) ?_; dsimp only)); go_must (refine wpList_load_row rfl 30 (.tmp 3) rfl b3 rfl _ _ _ _ (blk_below KT4.out HB6.out) Tryd.underlying30 rfl (by kernel_rfl) ?_))
                      | (go_at_call 51; go_must (refine (matches_calls p C #[.bool false, .string u.f1, .string u.f2, .slice A3' u.f3.length c3', .int .i8 u.f4, .float .f64 u.f5] u t _ (k28.K_below (BW4.out.trans (HB6.out.mono BW4.out.size)) HK.out) (by have hr := k48_mk w6 u LU.out (Kd.C_below HU.out (BW4.out.trans (HB6.out.mono BW4.out.size))); rw [HF0.out] at hr; exact hr) OKP.out).mono ?_); rw [HM.out]; rintro e w7 ⟨rfl, hb⟩; have HB7r := Lib.hid (HBr.out.trans (hb.mono HBr.out.size)); have HB7 := Lib.hid (HB6.out.trans (hb.mono HB6.out.size)); clear hb))
                  go_roundw
                  case rel => exact ⟨k + 1, hlt, by go_num, Lib.hid (no_more HNO.out HKU.out HQF.out), HB7, Lib.hid (blk_below HKI.out HB7r.out)⟩
                  case measure => simp [intOf]; omega
                | true =>
                  have HM := Lib.hid hm
                  clear hm
                  have HQT := Lib.hid (firstIx_some HNO.out HKU.out (show ruleQ p t false u = true from ruleQ_iff.2 ⟨HF0.out, HM.out⟩))
                  have U1 : True := trivial
                  have U2 : True := trivial
                  go_wp2_with (first
                      | ((with_reducible refine gate_dst (N := 10) rfl ?_); refine box_event ?hg (N := 10) ?hd (cs := #[.bool false, .string ⟨#[]⟩, .string ⟨#[]⟩, .slice none 0 0, .int .i8 0, .float .f64 0]) (t := 48) ?hr ?_; (case hd => rfl); (case hg => rfl); (case hr => first | (go_simp; done) | (go_simp; rfl)); intro b10 hg_ w5 hbx hBx; have HL10 := Lib.hid (show wr.heap.size ≤ b10 from by rw [hg_]; exact Nat.le_refl _); have HB5 := Lib.hid hBx; have K10 := Lib.hid hbx; clear hg_ hbx hBx)
                      | ((with_reducible refine gate_ (.store 48 (.tmp 10) (.tmp 44)) rfl ?_); go_must (refine bstore (t := 48) (p := 10) (v := .tmp 44) rfl rfl rfl b10 _ #[.bool false, .string u.f1, .string u.f2, .slice A3' u.f3.length c3', .int .i8 u.f4, .float .f64 u.f5] (.agg #[.bool false, .string u.f1, .string u.f2, .slice A3' u.f3.length c3', .int .i8 u.f4, .float .f64 u.f5]) rfl rfl rfl K10.out (by kernel_rfl) rfl (by simp [Value.oneCell']) ?_); intro w6 hb4 hs4 hz4 hB4; have K6 := Lib.hid hb4; have HBr := Lib.hid (HB5.out.trans (hB4 _ HL10.out)); have HB6 := Lib.hid (HBI.out.trans (HBr.out.mono HBI.out.size)); have z0 := (blk_cell hb4 0).trans (Eq.refl (some (Value.bool false))); clear hb4 hs4 hz4 hB4)
                      | ((with_reducible refine gate_ (.load 28 (.tmp 2)) rfl ?_); (try (refine gate_guard (by rfl) ?_; dsimp only)); first | (clear U1; go_must (refine wpList_load_row rfl 28 (.tmp 2) rfl b2 rfl _ _ _ _ (blk_below KP4.out HB6.out) Tryd.underlying28 rfl HSP.out ?_)) | (go_must (refine wpList_load_row rfl 28 (.tmp 2) rfl b2 rfl _ _ _ _ (blk_below KP4.out HB7.out) Tryd.underlying28 rfl HSP.out ?_)))
                      | ((with_reducible refine gate_ (.load 48 (.tmp 10)) rfl ?_); (try (refine gate_guard (by rfl) ?_; dsimp only)); go_must (refine wpList_load_row rfl 48 (.tmp 10) rfl b10 rfl _ _ _ _ K6.out Tryd.underlying48 rfl (by kernel_rfl) ?_))
                      | ((with_reducible refine gate_ (.load 30 (.tmp 3)) rfl ?_); (try (refine gate_guard (by rfl) ?_; dsimp only)); first | (clear U2; go_must (refine wpList_load_row rfl 30 (.tmp 3) rfl b3 rfl _ _ _ _ (blk_below KT4.out HB6.out) Tryd.underlying30 rfl (by kernel_rfl) ?_)) | (go_must (refine wpList_load_row rfl 30 (.tmp 3) rfl b3 rfl _ _ _ _ (blk_below KT4.out HB7.out) Tryd.underlying30 rfl (by kernel_rfl) ?_)))
                      | (go_at_call 51; go_must (refine (matches_calls p C #[.bool false, .string u.f1, .string u.f2, .slice A3' u.f3.length c3', .int .i8 u.f4, .float .f64 u.f5] u t _ (k28.K_below (BW4.out.trans (HB6.out.mono BW4.out.size)) HK.out) (by have hr := k48_mk w6 u LU.out (Kd.C_below HU.out (BW4.out.trans (HB6.out.mono BW4.out.size))); rw [HF0.out] at hr; exact hr) OKP.out).mono ?_); rw [HM.out]; rintro e w7 ⟨rfl, hb⟩; have HB7r := Lib.hid (HBr.out.trans (hb.mono HBr.out.size)); have HB7 := Lib.hid (HB6.out.trans (hb.mono HB6.out.size)); clear hb)
                      | (go_at_call 52; go_must (have hby := by_calls p C t k u _ (k28.K_below (BW4.out.trans (HB7.out.mono BW4.out.size)) HK.out) HKU.out HZ.out); rw [HF0.out] at hby; go_must (refine hby.mono ?_); rintro e w8 ⟨v, rfl, ⟨v6, v7, rfl, h6, h7⟩, hb⟩; have HG6 := Lib.hid h6; have HG7 := Lib.hid h7; have HB8 := Lib.hid (HB7.out.trans (hb.mono HB7.out.size)); clear hby hb h6 h7)
                      | ((with_reducible refine gate_ (.store 33 (.tmp 4) (.tmp 59)) rfl ?_); go_must (refine bstore (t := 33) (p := 4) (v := .tmp 59) rfl rfl rfl b4 _ #[.int .i8 (byL p t k u).f0, .int .i64 (byL p t k u).f1, v6, v7] (.agg #[.int .i8 (byL p t k u).f0, .int .i64 (byL p t k u).f1, v6, v7]) rfl rfl rfl (blk_below KR4.out HB8.out) (by kernel_rfl) rfl ?hone ?_); (case hone => exact by_one HG6.out HG7.out); intro w9 hb4 hs4 hz4 hB4; have HF := Lib.hid hb4; have HFR := Lib.hid hs4; have HB := Lib.hid ((BW4.out.trans (HB8.out.mono BW4.out.size)).trans (hB4 _ HG4.out)); clear hb4 hs4 hz4 hB4))
                  refine bodyPost_ret (results_cell_row rfl _ _ b4 33 #[.int .i8 (byL p t k u).f0, .int .i64 (byL p t k u).f1, v6, v7] (0, 0) _ rfl HF.out Tryd.underlying33 rfl (by kernel_rfl)) rfl ?_
                  refine ⟨_, rfl, ?_, HB.out⟩
                  rw [expl_allow HQ.out HNE.out (HMM.out.1 (by decide)) HQT.out HKU.out]
                  exact ⟨v6, v7, rfl, Kd.R_lower (SsR.away HG6.out (by_lt4 KR4.out HB7.out) HFR.out) (Nat.le_trans BW4.out.size HB7.out.size), Kd.R_lower (SsR.away HG7.out (by_lt4 KR4.out HB7.out) HFR.out) (Nat.le_trans BW4.out.size HB7.out.size)⟩
              | true =>
                have HF0 := Lib.hid hb0.symm
                clear hb0
                have HQF := Lib.hid (show ruleQ p t false u = false by unfold ruleQ; rw [HF0.out]; rfl)
                go_wp2_with (first
                    | ((with_reducible refine gate_dst (N := 10) rfl ?_); refine box_event ?hg (N := 10) ?hd (cs := #[.bool false, .string ⟨#[]⟩, .string ⟨#[]⟩, .slice none 0 0, .int .i8 0, .float .f64 0]) (t := 48) ?hr ?_; (case hd => rfl); (case hg => rfl); (case hr => first | (go_simp; done) | (go_simp; rfl)); intro b10 hg_ w5 hbx hBx; have HL10 := Lib.hid (show wr.heap.size ≤ b10 from by rw [hg_]; exact Nat.le_refl _); have HB5 := Lib.hid hBx; have K10 := Lib.hid hbx; clear hg_ hbx hBx)
                    | ((with_reducible refine gate_ (.store 48 (.tmp 10) (.tmp 44)) rfl ?_); go_must (refine bstore (t := 48) (p := 10) (v := .tmp 44) rfl rfl rfl b10 _ #[.bool true, .string u.f1, .string u.f2, .slice A3' u.f3.length c3', .int .i8 u.f4, .float .f64 u.f5] (.agg #[.bool true, .string u.f1, .string u.f2, .slice A3' u.f3.length c3', .int .i8 u.f4, .float .f64 u.f5]) rfl rfl rfl K10.out (by kernel_rfl) rfl (by simp [Value.oneCell']) ?_); intro w6 hb4 hs4 hz4 hB4; have K6 := Lib.hid hb4; have HBr := Lib.hid (HB5.out.trans (hB4 _ HL10.out)); have HB6 := Lib.hid (HBI.out.trans (HBr.out.mono HBI.out.size)); have z0 := (blk_cell hb4 0).trans (Eq.refl (some (Value.bool true))); clear hb4 hs4 hz4 hB4))
                go_roundw
                case rel => exact ⟨k + 1, hlt, by go_num, Lib.hid (no_more HNO.out HKU.out HQF.out), HB6, Lib.hid (blk_below HKI.out HBr.out)⟩
                case measure => simp [intOf]; omega
            · obtain rfl : k = p.f9.length := by omega
              have HNN := Lib.hid (none_of HNO.out)
              go_wp2_with fail
              go_roundw
              case rel => exact ⟨2, by decide, by first | rfl | go_num, Lib.hid ⟨fun _ => HMM.out.1 (by decide), fun _ => HNN.out⟩, HBI, HKI⟩
              case measure => simp [intOf]
        · go_wp2_with (first
            | ((with_reducible refine gate_ (.store 33 (.tmp 4) (.tmp 62)) rfl ?_); go_must (refine bstore (t := 33) (p := 4) (v := .tmp 62) rfl rfl rfl b4 _ #[.int .i8 5, .int .i64 0, .slice none 0 0, .slice none 0 0] (.agg #[.int .i8 5, .int .i64 0, .slice none 0 0, .slice none 0 0]) rfl rfl rfl (blk_below KR4.out HBO.out) (by kernel_rfl) rfl (by simp [Value.oneCell']) ?_); intro w9 hb4 hs4 hz4 hB4; have HF := Lib.hid hb4; have HB := Lib.hid ((BW4.out.trans (HBO.out.mono BW4.out.size)).trans (hB4 _ HG4.out)); clear hb4 hs4 hz4 hB4))
          refine bodyPost_ret (results_cell_row rfl _ _ b4 33 #[.int .i8 5, .int .i64 0, .slice none 0 0, .slice none 0 0] (0, 0) _ rfl HF.out Tryd.underlying33 rfl (by kernel_rfl)) rfl ?_
          exact ⟨_, rfl, by rw [expl_no HQ.out HNE.out (HM.out.1 (by decide)) (HM.out.2 (by decide))]; exact RsV.nil _ 5 0 _, HB.out⟩
/-- why.Explain. -/
theorem explain_calls (p : Pol) (C : Array Value) (t : Tri) (w : World) (hk : k28.K w p C.toList) (hz : Sz p) :
    Calls Tryd.prog 21 #[.agg C, .agg #[.string t.f0, .string t.f1, .string t.f2]] w fun e w' => ∃ v, e = .returned v ∧ RsV w.heap.size (explL p t) v w' ∧ Below w.heap.size w w' := by
  cases hq : knownB p t with
  | false => exact explain_unk p C t w hk hq
  | true => exact explain_known p C t w hk hq hz
end Go.Proofs.YteefneemmdfncaaDoor.M
