/- MeanUnknown as the row asks for it: walked. Conditions: the row's. -/
import Derived.Test.YtnkdcekddhmjnaaRoB
import Derived.Test.YtnkdcekddhmjnaaSz
import Derived.Test.YtnkdcekddhmjnaaAx
import Derived.Test.YtnkdcekddhmjnaaPR
import Derived.Laws.Rows
namespace Go.Proofs.Ytnkdcekddhmjnaa.F
open Go.RowKit Go.Proofs.YtnkdcekddhmjnaaW.Raw Go.Proofs.YtnkdcekddhmjnaaW.PrintWords Go.Proofs.YtnkdcekddhmjnaaW.PrintLast Go.Proofs.Ytnkdcekddhmjnaa.M
set_option linter.unusedVariables false
set_option linter.unusedSimpArgs false
theorem there_k (p : Pol) (C0 : Array Value) (t : Tri) (w : World) (hk : k34.K w p C0.toList) (hs : Sz p) :
    Calls Try.prog 39 #[.agg C0, .agg #[.string t.f0, .string t.f1, .string t.f2]] w fun e w' => e = .returned (.bool (thereB p t)) ∧ Below w.heap.size w w' := by
  obtain ⟨k, hk2⟩ := there_f p t hs
  obtain ⟨A0, c0, A1, c1, A2, c2, A3, c3, A4, c4, A5, c5, A6, c6, A7, c7, A8, c8, A9, c9, A10, c10, e_, l0, g0, l1, g1, l2, g2, l3, g3, l4, g4, l5, g5, l6, g6, l7, g7, l8, g8, l9, g9, l10, g10⟩ := k34_open hk
  obtain rfl : C0 = #[.slice A0 p.f0.length c0, .slice A1 p.f1.length c1, .slice A2 p.f2.length c2, .slice A3 p.f3.length c3, .slice A4 p.f4.length c4, .slice A5 p.f5.length c5, .slice A6 p.f6.length c6, .slice A7 p.f7.length c7, .slice A8 p.f8.length c8, .slice A9 p.f9.length c9, .slice A10 p.f10.length c10] := by cases C0; simpa using e_
  clear e_
  exact gatehouselaw08_there.calls k A0 c0 p.f0 A1 c1 p.f1 A2 c2 p.f2 A3 c3 p.f3 A4 c4 p.f4 A5 c5 p.f5 A6 c6 p.f6 A7 c7 p.f7 A8 c8 p.f8 A9 c9 p.f9 A10 c10 p.f10 t.f0 t.f1 t.f2 _ w g0 l0 g1 l1 g2 l2 g3 l3 g4 l4 g5 l5 g6 l6 g7 l7 g8 l8 g9 l9 g10 l10 (hk2 k (Nat.le_refl _))
theorem vast_k (p : Pol) (C0 : Array Value) (w : World) (hk : k34.K w p C0.toList) (hs : Sz p) :
    ∃ b, (b = false → p.f1.length * (p.f3.length * p.f0.length) ≤ 65536) ∧ Calls Try.prog 26 #[.agg C0] w fun e w' => e = .returned (.bool b) ∧ Below w.heap.size w w' := by
  obtain ⟨b, hb, hc⟩ := vast_f p hs.l1 hs.l3 hs.l0
  obtain ⟨A0, c0, A1, c1, A2, c2, A3, c3, A4, c4, A5, c5, A6, c6, A7, c7, A8, c8, A9, c9, A10, c10, e_, l0, g0, l1, g1, l2, g2, l3, g3, l4, g4, l5, g5, l6, g6, l7, g7, l8, g8, l9, g9, l10, g10⟩ := k34_open hk
  obtain rfl : C0 = #[.slice A0 p.f0.length c0, .slice A1 p.f1.length c1, .slice A2 p.f2.length c2, .slice A3 p.f3.length c3, .slice A4 p.f4.length c4, .slice A5 p.f5.length c5, .slice A6 p.f6.length c6, .slice A7 p.f7.length c7, .slice A8 p.f8.length c8, .slice A9 p.f9.length c9, .slice A10 p.f10.length c10] := by cases C0; simpa using e_
  clear e_
  exact ⟨b, hc, gatehouselaw08_vast.calls A0 c0 p.f0 A1 c1 p.f1 A2 c2 p.f2 A3 c3 p.f3 A4 c4 p.f4 A5 c5 p.f5 A6 c6 p.f6 A7 c7 p.f7 A8 c8 p.f8 A9 c9 p.f9 A10 c10 p.f10 _ w g0 l0 g1 l1 g2 l2 g3 l3 g4 l4 g5 l5 g6 l6 g7 l7 g8 l8 g9 l9 g10 l10 hb⟩
theorem twin_k (p : Pol) (C0 : Array Value) (w : World) (hk : k34.K w p C0.toList) (hs : Sz p) :
    Calls Try.prog 34 #[.agg C0] w fun e w' => ∃ v0 v1 v2 v3 v4 v5 v6 v7 v8 v9 v10 : Value, e = .returned (.agg #[v0, v1, v2, v3, v4, v5, v6, v7, v8, v9, v10]) ∧ Kd.R Kd.string 9 w' w.heap.size (fun _ => True) v0 p.f0 ∧ Kd.R k57 57 w' w.heap.size (fun _ => True) v1 p.f1 ∧ Kd.R Kd.string 9 w' w.heap.size (fun _ => True) v2 p.f2 ∧ Kd.R Kd.string 9 w' w.heap.size (fun _ => True) v3 p.f3 ∧ Kd.R Kd.string 9 w' w.heap.size (fun _ => True) v4 p.f4 ∧ Kd.R k86 86 w' w.heap.size (fun _ => True) v5 p.f5 ∧ Kd.R k86 86 w' w.heap.size (fun _ => True) v6 p.f6 ∧ Kd.R k86 86 w' w.heap.size (fun _ => True) v7 p.f7 ∧ Kd.R k86 86 w' w.heap.size (fun _ => True) v8 p.f8 ∧ Kd.R k36 36 w' w.heap.size (fun _ => True) v10 p.f10 ∧ Kd.N k27 27 w' w.heap.size (fun _ => True) v9 p.f9 ∧ Below w.heap.size w w' := by
  obtain ⟨k, hk2⟩ := twin_f p hs
  obtain ⟨A0, c0, A1, c1, A2, c2, A3, c3, A4, c4, A5, c5, A6, c6, A7, c7, A8, c8, A9, c9, A10, c10, e_, l0, g0, l1, g1, l2, g2, l3, g3, l4, g4, l5, g5, l6, g6, l7, g7, l8, g8, l9, g9, l10, g10⟩ := k34_open hk
  obtain rfl : C0 = #[.slice A0 p.f0.length c0, .slice A1 p.f1.length c1, .slice A2 p.f2.length c2, .slice A3 p.f3.length c3, .slice A4 p.f4.length c4, .slice A5 p.f5.length c5, .slice A6 p.f6.length c6, .slice A7 p.f7.length c7, .slice A8 p.f8.length c8, .slice A9 p.f9.length c9, .slice A10 p.f10.length c10] := by cases C0; simpa using e_
  clear e_
  refine (gatehouselaw08_twin.calls k A0 c0 p.f0 A1 c1 p.f1 A2 c2 p.f2 A3 c3 p.f3 A4 c4 p.f4 A5 c5 p.f5 A6 c6 p.f6 A7 c7 p.f7 A8 c8 p.f8 A9 c9 p.f9 A10 c10 p.f10 _ _ _ _ _ _ _ _ _ _ _ w g0 l0 g1 l1 g2 l2 g3 l3 g4 l4 g5 l5 g6 l6 g7 l7 g8 l8 g9 l9 g10 l10 (hk2 k (Nat.le_refl _))).mono ?_
  rintro e w' ⟨v0, v1, v2, v3, v4, v5, v6, v7, v8, v9, v10, rfl, h0, h1, h2, h3, h4, h5, h6, h7, h8, h9, h10, hb⟩
  exact ⟨v0, v1, v2, v3, v4, v5, v6, v7, v8, v9, v10, rfl, R_all h0, R_all h1, R_all h2, R_all h3, R_all h4, R_all h5, R_all h6, R_all h7, R_all h8, R_all h10, Kd.N_mono (Kd.S_N h9) (fun _ _ => trivial), hb⟩
theorem size34u : (Try.prog.info? 34).map (·.size) = some 11 := by kernel_rfl
theorem one_R {α : Type} {d : Kd α} {e : Nat} {w : World} {B : Nat} {ok : Nat → Prop} {v : Value} {l : List α} (h : d.R e w B ok v l) : v.oneCell' = true := by
  obtain ⟨A, c, rfl⟩ := Kd.R_slice h
  rfl
theorem one_N {α : Type} {d : Kd α} {e : Nat} {w : World} {B : Nat} {ok : Nat → Prop} {v : Value} {l : List α} (h : Kd.N d e w B ok v l) : v.oneCell' = true := by
  obtain ⟨A, c, rfl⟩ := Kd.N_slice h
  rfl
theorem allows_k1 {t : Tri} {q0 : Pol} (hf : Hid (allowsB q0 t = false)) (q : Pol) (c : Array Value) (t2 : Tri) (W : World) (hk : k34.K W q c.toList) (ho : Hid (okB q = true)) (e1 : q0 = q := by rfl) (e2 : t2 = t := by rfl) : Calls Try.prog 22 #[.agg c, .agg #[.string t2.f0, .string t2.f1, .string t2.f2]] W fun e w' => e = .returned (.bool false) ∧ Below W.heap.size W w' := by
  subst e1
  subst e2
  have h := allows_pol_calls q0 c t2 W hk (okB_iff.1 ho.out)
  rw [hf.out] at h
  exact h
theorem matches_k2 {t : Tri} {r : Rule} {q : Pol} (hf : Hid (matchB q r t = false)) (q2 : Pol) (c cr : Array Value) (t2 : Tri) (W : World) (hk : k34.K W q c.toList) (hr : k27.K W r cr.toList) (ho : Sz q) (e1 : q = q2 := by rfl) (e2 : t2 = t := by rfl) : Calls Try.prog 19 #[.agg c, .agg cr, .agg #[.string t2.f0, .string t2.f1, .string t2.f2]] W fun e w' => e = .returned (.bool false) ∧ Below W.heap.size W w' := by
  subst e1
  subst e2
  have h := matches_calls q c cr r t2 W hk hr (okB_iff.1 ho.ok)
  rw [hf.out] at h
  exact h
theorem matches_k3 {t : Tri} {r : Rule} {q : Pol} (hf : Hid (matchB q r t = false)) (q2 : Pol) (c cr : Array Value) (t2 : Tri) (W : World) (hk : k34.K W q c.toList) (hr : k27.K W r cr.toList) (ho : Hid (okB q = true)) (e1 : q = q2 := by rfl) (e2 : t2 = t := by rfl) : Calls Try.prog 19 #[.agg c, .agg cr, .agg #[.string t2.f0, .string t2.f1, .string t2.f2]] W fun e w' => e = .returned (.bool false) ∧ Below W.heap.size W w' := by
  subst e1
  subst e2
  have h := matches_calls q c cr r t2 W hk hr (okB_iff.1 ho.out)
  rw [hf.out] at h
  exact h
theorem has_k {kh nl c : Nat} {A : Option Addr} {l : List Tri} {t : Tri} (hh : Hid (gatehouselaw08_has.f kh l t.f0 t.f1 t.f2 = some false)) (hn : Hid (nl = l.length)) (hc : nl ≤ c) (W : World) {W2 : World} (hC : Kd.C k36 W2 A l.length l) (hb : Below W2.heap.size W2 W := by exact Below.refl _ _) : Calls Try.prog 32 #[.slice A nl c, .agg #[.string t.f0, .string t.f1, .string t.f2]] W fun e w' => e = .returned (.bool false) ∧ Below W.heap.size W w' := by
  have hn := hn.out
  subst hn
  exact gatehouselaw08_has.calls kh A c l t.f0 t.f1 t.f2 false W (Kd.C_below hC hb) hc hh.out
structure UkS (w0 : World) (b3 b4 b5 b10 : Nat) (c3 c4 c5 c10 : Array Value) (W : World) : Prop where
  h3 : W.heap[b3]? = some (Obj.cells c3 34 (0, 0))
  h4 : W.heap[b4]? = some (Obj.cells c4 36 (0, 0))
  h5 : W.heap[b5]? = some (Obj.cells c5 27 (0, 0))
  h10 : W.heap[b10]? = some (Obj.cells c10 34 (0, 0))
  bel : Below w0.heap.size w0 W
theorem UkS.below {w0 W W' : World} {b3 b4 b5 b10 : Nat} {c3 c4 c5 c10 : Array Value} (h : UkS w0 b3 b4 b5 b10 c3 c4 c5 c10 W) (hb : Below W.heap.size W W') : UkS w0 b3 b4 b5 b10 c3 c4 c5 c10 W' :=
  ⟨blk_below h.h3 hb, blk_below h.h4 hb, blk_below h.h5 hb, blk_below h.h10 hb, h.bel.trans (hb.mono h.bel.size)⟩
set_option maxRecDepth 100000 in
set_option maxHeartbeats 8000000 in
theorem MeanUnknown.walk (x0 : S34) (c0 : Array Value) (x1 : S36) (c1 : Array Value) (x2 : S27) (c2 : Array Value) (w : World) (hk0 : Kd.K k34 w x0 c0.toList) (hg0 : g34 x0) (hk1 : Kd.K k36 w x1 c1.toList) (hg1 : g36 x1) (hk2 : Kd.K k27 w x2 c2.toList) (hg2 : g27 x2) (hb : b34 x0 + b36 x1 + b27 x2 ≤ 1048576) :
    Calls Go.Proofs.Try.prog 13 #[.agg c0, .agg c1, .agg c2] w fun e w' => e = .returned (.bool true) ∧ Below w.heap.size w w' := by
  have hs := sz_of x0 (by omega)
  have h3 := Nat.le_trans (acts_le x2) (show b27 x2 ≤ 1048576 by omega)
  clear hb hg0 hg1 hg2
  obtain ⟨C0, rfl⟩ : ∃ C, C = c0 := ⟨_, rfl⟩
  obtain ⟨p, rfl⟩ : ∃ p, p = x0 := ⟨_, rfl⟩
  obtain ⟨t, rfl⟩ : ∃ t, t = x1 := ⟨_, rfl⟩
  obtain ⟨r, rfl⟩ : ∃ r, r = x2 := ⟨_, rfl⟩
  obtain ⟨D1, hD1⟩ : ∃ C, C = c1 := ⟨_, rfl⟩
  subst hD1
  obtain ⟨D2, hD2⟩ : ∃ C, C = c2 := ⟨_, rfl⟩
  subst hD2
  have HK := Lib.hid hk0
  obtain ⟨A0, c0, A1, c1, A2, c2, A3, c3, A4, c4, A5, c5, A6, c6, A7, c7, A8, c8, A9, c9, A10, c10, e_, l0, g0, l1, g1, l2, g2, l3, g3, l4, g4, l5, g5, l6, g6, l7, g7, l8, g8, l9, g9, l10, g10⟩ := k34_open hk0
  obtain rfl : C0 = #[.slice A0 p.f0.length c0, .slice A1 p.f1.length c1, .slice A2 p.f2.length c2, .slice A3 p.f3.length c3, .slice A4 p.f4.length c4, .slice A5 p.f5.length c5, .slice A6 p.f6.length c6, .slice A7 p.f7.length c7, .slice A8 p.f8.length c8, .slice A9 p.f9.length c9, .slice A10 p.f10.length c10] := by cases C0; simpa using e_
  clear e_
  have e1_ := k36_open hk1
  obtain rfl : D1 = #[Value.string t.f0, Value.string t.f1, Value.string t.f2] := by cases D1; simpa using e1_
  obtain ⟨Ar, cr, er_, lr, gr⟩ := k27_open hk2
  obtain rfl : D2 = #[Value.bool r.f0, Value.string r.f1, Value.string r.f2, Value.slice Ar r.f3.length cr, Value.int .i8 r.f4, Value.float .f64 r.f5] := by cases D2; simpa using er_
  have GR := Lib.hid gr
  clear e1_ er_ gr hk0 hk1 hk2 g0 g1 g2 g3 g4 g5 g6 g7 g8 g9 g10
  go_enter Try.func13, Try.ntmps13
  go_upto_region 1 with (first | ((with_reducible refine gate_dst (N := 3) rfl ?_); refine box_event ?hg (N := 3) ?hd (cs := #[.slice A0 p.f0.length c0, .slice A1 p.f1.length c1, .slice A2 p.f2.length c2, .slice A3 p.f3.length c3, .slice A4 p.f4.length c4, .slice A5 p.f5.length c5, .slice A6 p.f6.length c6, .slice A7 p.f7.length c7, .slice A8 p.f8.length c8, .slice A9 p.f9.length c9, .slice A10 p.f10.length c10]) (t := 34) ?hr ?_; (case hd => rfl); (case hg => rfl); (case hr => first | (go_simp; done) | (go_simp; rfl)); intro b3 hg_ w1 hb3 hB3; go_must (have hle3 : w.heap.size ≤ b3 := (by omega)); clear hg_) | ((with_reducible refine gate_dst (N := 4) rfl ?_); refine box_event ?hg (N := 4) ?hd (cs := #[.string t.f0, .string t.f1, .string t.f2]) (t := 36) ?hr ?_; (case hd => rfl); (case hg => rfl); (case hr => first | (go_simp; done) | (go_simp; rfl)); intro b4 hg_ w2 hb4 hB4; go_must (have n34 : b3 ≠ b4 := (by have := blk_lt hb3; omega)); clear hg_) | ((with_reducible refine gate_dst (N := 5) rfl ?_); refine box_event ?hg (N := 5) ?hd (cs := #[.bool r.f0, .string r.f1, .string r.f2, .slice Ar r.f3.length cr, .int .i8 r.f4, .float .f64 r.f5]) (t := 27) ?hr ?_; (case hd => rfl); (case hg => rfl); (case hr => first | (go_simp; done) | (go_simp; rfl)); intro b5 hg_ w3 hb5 hB5; go_must (have n35 : b3 ≠ b5 := (by have := blk_lt hb3; have := hB4.size; omega)); clear hg_))
  have BW3 : Below w.heap.size w w3 := (hB3.trans (hB4.mono hB3.size)).trans (hB5.mono (Nat.le_trans hB3.size hB4.size))
  have K3 := Lib.hid (blk_below (blk_below hb3 hB4) hB5)
  have K4 := Lib.hid (blk_below hb4 hB5)
  have K5 := Lib.hid hb5
  have BW := Lib.hid BW3
  clear hb3 hb4 hb5 hB3 hB4 hB5 BW3
  go_upto_region 2 with (go_at_call 30; go_must (refine (alive_calls _).mono ?_); rintro e w4 ⟨rfl, hb⟩; have BW_ := Lib.hid (BW.out.trans (hb.mono BW.out.size)); have K3_ := Lib.hid (blk_below K3.out hb); have K4_ := Lib.hid (blk_below K4.out hb); have K5_ := Lib.hid (blk_below K5.out hb); clear hb)
  clear BW K3 K4 K5
  have BW := BW_
  have K3 := K3_
  have K4 := K4_
  have K5 := K5_
  clear BW_ K3_ K4_ K5_
  go_upto_region 3 with (first | ((with_reducible refine gate_ (.load 34 (.tmp 3)) rfl ?_); go_must (refine wpList_load_row rfl 34 (.tmp 3) rfl b3 rfl _ _ _ _ K3.out Try.underlying34 rfl (by kernel_rfl) ?_)) | ((with_reducible refine gate_ (.load 36 (.tmp 4)) rfl ?_); go_must (refine wpList_load_row rfl 36 (.tmp 4) rfl b4 rfl _ _ _ _ K4.out Try.underlying36 rfl (by kernel_rfl) ?_)) | (go_at_call 39; go_must (refine (there_k p _ t _ (k34.K_below BW.out HK.out) hs).mono ?_); rintro e w5 ⟨rfl, hb⟩; have BW_ := Lib.hid (BW.out.trans (hb.mono BW.out.size)); have K3_ := Lib.hid (blk_below K3.out hb); have K4_ := Lib.hid (blk_below K4.out hb); have K5_ := Lib.hid (blk_below K5.out hb); clear hb))
  clear BW K3 K4 K5
  have BW := BW_
  have K3 := K3_
  have K4 := K4_
  have K5 := K5_
  clear BW_ K3_ K4_ K5_
  obtain ⟨vb, hvb, hv⟩ := vast_k p _ w5 (k34.K_below BW.out HK.out) hs
  have HV := Lib.hid hv
  have HVB := Lib.hid hvb
  clear hv hvb
  go_upto_region 4 with (first | ((with_reducible refine gate_ (.load 34 (.tmp 3)) rfl ?_); go_must (refine wpList_load_row rfl 34 (.tmp 3) rfl b3 rfl _ _ _ _ K3.out Try.underlying34 rfl (by kernel_rfl) ?_)) | (go_at_call 26; go_must (refine HV.out.mono ?_); rintro e w6 ⟨rfl, hb⟩; have BW_ := Lib.hid (BW.out.trans (hb.mono BW.out.size)); have K3_ := Lib.hid (blk_below K3.out hb); have K4_ := Lib.hid (blk_below K4.out hb); have K5_ := Lib.hid (blk_below K5.out hb); clear hb))
  clear BW K3 K4 K5
  have BW := BW_
  have K3 := K3_
  have K4 := K4_
  have K5 := K5_
  clear BW_ K3_ K4_ K5_
  clear HV
  by_cases hkn : thereB p t = true
  · rw [hkn]
    go_wp2_with fail
    go_ret
    exact ⟨rfl, BW.out⟩
  · have hkf : thereB p t = false := Bool.eq_false_iff.mpr hkn
    rw [hkf]
    clear hkn
    cases vb with
    | true =>
      go_wp2_with fail
      go_ret
      exact ⟨rfl, BW.out⟩
    | false =>
      have HKF := Lib.hid hkf
      have hcap := HVB.out rfl
      clear HVB hkf
      go_upto_region 7 with (first | ((with_reducible refine gate_ (.load 34 (.tmp 3)) rfl ?_); go_must (refine wpList_load_row rfl 34 (.tmp 3) rfl b3 rfl _ _ _ _ K3.out Try.underlying34 rfl (by kernel_rfl) ?_)) | (go_at_call 34; go_must (refine (twin_k p _ _ (k34.K_below BW.out HK.out) hs).mono ?_); rintro e w7 ⟨v0, v1, v2, v3, v4, v5, v6, v7, v8, v9, v10, rfl, r0, r1, r2, r3, r4, r5, r6, r7, r8, r10, hN, hb⟩; have R0 := Lib.hid r0; clear r0; have R1 := Lib.hid r1; clear r1; have R2 := Lib.hid r2; clear r2; have R3 := Lib.hid r3; clear r3; have R4 := Lib.hid r4; clear r4; have R5 := Lib.hid r5; clear r5; have R6 := Lib.hid r6; clear r6; have R7 := Lib.hid r7; clear r7; have R8 := Lib.hid r8; clear r8; have R10 := Lib.hid r10; clear r10; have HN := Lib.hid hN; have n5 : some b5 ≠ v9.ownBlock := (fun e => by have h1 := Kd.N_base hN b5 e.symm; have h2 := blk_lt K5.out; omega); have HZ := Lib.hid (BW.out.size); clear hN; have BW_ := Lib.hid (BW.out.trans (hb.mono BW.out.size)); have K3_ := Lib.hid (blk_below K3.out hb); have K4_ := Lib.hid (blk_below K4.out hb); have K5_ := Lib.hid (blk_below K5.out hb); clear hb) | ((with_reducible refine gate_dst (N := 10) rfl ?_); refine box_event ?hg (N := 10) ?hd (cs := #[.slice none 0 0, .slice none 0 0, .slice none 0 0, .slice none 0 0, .slice none 0 0, .slice none 0 0, .slice none 0 0, .slice none 0 0, .slice none 0 0, .slice none 0 0, .slice none 0 0]) (t := 34) ?hr ?_; (case hd => rfl); (case hg => rfl); (case hr => first | (go_simp; done) | (go_simp; rfl)); intro b10 hg_ w8 hb10 hB10; go_must (have hle10 : w7.heap.size ≤ b10 := (by omega); have n310 : b3 ≠ b10 := (by have := blk_lt K3_.out; omega); have n410 : b4 ≠ b10 := (by have := blk_lt K4_.out; omega); have n510 : b5 ≠ b10 := (by have := blk_lt K5_.out; omega)); clear hg_) | ((with_reducible refine gate_ (.store 34 (.tmp 10) (.tmp 24)) rfl ?_); go_must (refine bstore (t := 34) (p := 10) (v := .tmp 24) rfl rfl rfl b10 _ #[v0, v1, v2, v3, v4, v5, v6, v7, v8, v9, v10] (.agg #[v0, v1, v2, v3, v4, v5, v6, v7, v8, v9, v10]) rfl rfl rfl hb10 size34u rfl (by intro u hu; simp only [List.mem_cons, List.not_mem_nil, or_false] at hu; rcases hu with rfl | rfl | rfl | rfl | rfl | rfl | rfl | rfl | rfl | rfl | rfl; exact one_R R0.out; exact one_R R1.out; exact one_R R2.out; exact one_R R3.out; exact one_R R4.out; exact one_R R5.out; exact one_R R6.out; exact one_R R7.out; exact one_R R8.out; exact one_N HN.out; exact one_R R10.out) ?_); intro w9 hb9 hoth hsz hbel; have hB9 := hB10.trans (hbel _ hle10)))
      clear BW K3 K4 K5
      have BW := BW_
      have K3 := K3_
      have K4 := K4_
      have K5 := K5_
      clear BW_ K3_ K4_ K5_
      have HS := Lib.hid (show UkS w b3 b4 b5 b10 #[.slice A0 p.f0.length c0, .slice A1 p.f1.length c1, .slice A2 p.f2.length c2, .slice A3 p.f3.length c3, .slice A4 p.f4.length c4, .slice A5 p.f5.length c5, .slice A6 p.f6.length c6, .slice A7 p.f7.length c7, .slice A8 p.f8.length c8, .slice A9 p.f9.length c9, .slice A10 p.f10.length c10] #[.string t.f0, .string t.f1, .string t.f2] #[.bool r.f0, .string r.f1, .string r.f2, .slice Ar r.f3.length cr, .int .i8 r.f4, .float .f64 r.f5] #[v0, v1, v2, v3, v4, v5, v6, v7, v8, v9, v10] w9 from ⟨blk_below K3.out hB9, blk_below K4.out hB9, blk_below K5.out hB9, hb9, BW.out.trans (hB9.mono BW.out.size)⟩)
      have S0 := Lib.hid (Kd.R_lower (Kd.R_below R0.out hB9) HZ.out)
      have S1 := Lib.hid (Kd.R_lower (Kd.R_below R1.out hB9) HZ.out)
      have S2 := Lib.hid (Kd.R_lower (Kd.R_below R2.out hB9) HZ.out)
      have S3 := Lib.hid (Kd.R_lower (Kd.R_below R3.out hB9) HZ.out)
      have S4 := Lib.hid (Kd.R_lower (Kd.R_below R4.out hB9) HZ.out)
      have S5 := Lib.hid (Kd.R_lower (Kd.R_below R5.out hB9) HZ.out)
      have S6 := Lib.hid (Kd.R_lower (Kd.R_below R6.out hB9) HZ.out)
      have S7 := Lib.hid (Kd.R_lower (Kd.R_below R7.out hB9) HZ.out)
      have S8 := Lib.hid (Kd.R_lower (Kd.R_below R8.out hB9) HZ.out)
      have S10 := Lib.hid (Kd.R_lower (Kd.R_below R10.out hB9) HZ.out)
      have HN9 := Lib.hid (Kd.N_lower (Kd.N_below (Kd.N_elderB HN.out b10 hle10) hB9) HZ.out)
      have hle : w.heap.size ≤ b10 := Nat.le_trans BW.out.size hle10
      clear K3 K4 K5 BW HN HZ hB9 hb9 hoth hsz hbel hb10 hB10 R0 R1 R2 R3 R4 R5 R6 R7 R8 R10
      obtain ⟨A9_, c9_, e9⟩ := Kd.N_slice HN9.out
      subst e9
      obtain ⟨qf0, qf1, qf2, qf3, qf4, qf5, qf6, qf7, qf8, qf9, qf10, qf11, qf12, qf13, qf14, qf15, qf16, qf17, qf18, qf19, qf20, qf21⟩ := bC11 (Aside0.mk HS.out.h10)
      go_upto_region 8 with (first | ((with_reducible refine gate_ (.load 27 (.tmp 5)) rfl ?_); go_must (refine wpList_load_row rfl 27 (.tmp 5) rfl b5 rfl _ _ _ _ HS.out.h5 Try.underlying27 rfl (by kernel_rfl) ?_)) | ((with_reducible refine gate_builtin (b := .append) (xs := #[.tmp 26, .tmp 28]) rfl ?_); at_builtin; go_must (refine Kd.N_append k27 (w0 := w) w.heap.size rfl (.tmp 26) (.tmp 28) 31 27 (.agg #[(.bool false), (.string ⟨#[]⟩), (.string ⟨#[]⟩), (.slice none 0 0), (.int .i8 0), (.float .f64 0)]) 80 rfl Try.underlying31 info27 rfl (by decide) (by omega) (.slice A9_ p.f9.length c9_) p.f9 r [.bool r.f0, .string r.f1, .string r.f2, .slice Ar r.f3.length cr, .int .i8 r.f4, .float .f64 r.f5] (fun k => True ∧ k ≠ b10) (fun k => k < w.heap.size) rfl (by first | (go_simp; done) | (go_simp; rfl)) ?hp ?hok ?hfr HN9.out HS.out.bel HS.out.bel.size ?hl ?_); go_must (case hp => exact k27_mkF w9 _ r lr (fun W' hW => Kd.Heap.C Kd.heap_string (fun k hk => (hW k hk (Nat.lt_of_lt_of_le hk HS.out.bel.size)).trans (HS.out.bel.block k hk)) GR.out)); go_must (case hok => exact fun k hk => ⟨⟨trivial, by omega⟩, fun e => by have := Kd.N_base HN9.out k e.symm; omega⟩); go_must (case hfr => exact fun k hk => ⟨trivial, by have := blk_lt HS.out.h10; omega⟩); go_must (case hl => have := hs.l9; omega); intro vn w10 ho hb hg hat; obtain ⟨An, cn, en⟩ := Kd.N_slice ho; rw [show (p.f9 ++ [r]).length = p.f9.length + 1 from by simp] at en; subst en; have h10 := blk_grown HS.out.h10 hg (fun e => (Kd.N_away HN9.out (fun k hk => hk.2)) e); have h5 := blk_grown HS.out.h5 hg n5; have h3 := blk_gts HS.out.h3 hg (Kd.N_typed HN9.out) (by decide : (34 : Nat) ≠ 27); have h4 := blk_gts HS.out.h4 hg (Kd.N_typed HN9.out) (by decide : (36 : Nat) ≠ 27); have T0 := Lib.hid (R_ts S0.out (TS.grown (T := [9]) hg (Kd.N_typed HN9.out) (by decide)) (by decide)); have T1 := Lib.hid (R_ts S1.out (TS.grown (T := [57]) hg (Kd.N_typed HN9.out) (by decide)) (by decide)); have T2 := Lib.hid (R_ts S2.out (TS.grown (T := [9]) hg (Kd.N_typed HN9.out) (by decide)) (by decide)); have T3 := Lib.hid (R_ts S3.out (TS.grown (T := [9]) hg (Kd.N_typed HN9.out) (by decide)) (by decide)); have T4 := Lib.hid (R_ts S4.out (TS.grown (T := [9]) hg (Kd.N_typed HN9.out) (by decide)) (by decide)); have T5 := Lib.hid (R_ts S5.out (TS.grown (T := [86]) hg (Kd.N_typed HN9.out) (by decide)) (by decide)); have T6 := Lib.hid (R_ts S6.out (TS.grown (T := [86]) hg (Kd.N_typed HN9.out) (by decide)) (by decide)); have T7 := Lib.hid (R_ts S7.out (TS.grown (T := [86]) hg (Kd.N_typed HN9.out) (by decide)) (by decide)); have T8 := Lib.hid (R_ts S8.out (TS.grown (T := [86]) hg (Kd.N_typed HN9.out) (by decide)) (by decide)); have T10 := Lib.hid (R_ts S10.out (TS.grown (T := [36]) hg (Kd.N_typed HN9.out) (by decide)) (by decide)); have NN := Lib.hid ho; have BL := Lib.hid hb; have H10 := Lib.hid h10; have H5 := Lib.hid h5; have H3 := Lib.hid h3; have H4 := Lib.hid h4; clear ho hb hg hat h10 h5 h3 h4; obtain ⟨qg0, qg1, qg2, qg3, qg4, qg5, qg6, qg7, qg8, qg9, qg10, qg11, qg12, qg13, qg14, qg15, qg16, qg17, qg18, qg19, qg20, qg21⟩ := bC11 (Aside0.mk H10.out)))
      clear HS HN9 qf0 qg0 qf1 qg1 qf2 qg2 qf3 qg3 qf4 qg4 qf5 qg5 qf6 qg6 qf7 qg7 qf8 qg8 qf9 qg9 qf10 qg10 qf11 qg11 qf12 qg12 qf13 qg13 qf14 qg14 qf15 qg15 qf16 qg16 qf17 qg17 qf18 qg18 qf19 qg19 qf20 qg20 qf21 qg21 S0 S1 S2 S3 S4 S5 S6 S7 S8 S10 n5
      obtain ⟨w11, hw⟩ : ∃ x, x = w10.setCell ⟨b10, 9, none⟩ (.slice An (p.f9.length + 1) cn) := ⟨_, rfl⟩
      rw [← hw]
      have HS := Lib.hid (show UkS w b3 b4 b5 b10 #[.slice A0 p.f0.length c0, .slice A1 p.f1.length c1, .slice A2 p.f2.length c2, .slice A3 p.f3.length c3, .slice A4 p.f4.length c4, .slice A5 p.f5.length c5, .slice A6 p.f6.length c6, .slice A7 p.f7.length c7, .slice A8 p.f8.length c8, .slice A9 p.f9.length c9, .slice A10 p.f10.length c10] #[.string t.f0, .string t.f1, .string t.f2] #[.bool r.f0, .string r.f1, .string r.f2, .slice Ar r.f3.length cr, .int .i8 r.f4, .float .f64 r.f5] #[v0, v1, v2, v3, v4, v5, v6, v7, v8, .slice An (p.f9.length + 1) cn, v10] w11 from by rw [hw]; exact ⟨(Below.heap_setCell w10 _ _ b3 n310).trans H3.out, (Below.heap_setCell w10 _ _ b4 n410).trans H4.out, (Below.heap_setCell w10 _ _ b5 n510).trans H5.out, blk_put H10.out 9 _ rfl, BL.out.setCell hle _⟩)
      have U0 : Kd.R Kd.string 9 w11 w.heap.size (fun _ => True) v0 p.f0 := by rw [hw]; exact Kd.R_set T0.out H10.out (by decide) _ _
      have U1 : Kd.R k57 57 w11 w.heap.size (fun _ => True) v1 p.f1 := by rw [hw]; exact Kd.R_set T1.out H10.out (by decide) _ _
      have U2 : Kd.R Kd.string 9 w11 w.heap.size (fun _ => True) v2 p.f2 := by rw [hw]; exact Kd.R_set T2.out H10.out (by decide) _ _
      have U3 : Kd.R Kd.string 9 w11 w.heap.size (fun _ => True) v3 p.f3 := by rw [hw]; exact Kd.R_set T3.out H10.out (by decide) _ _
      have U4 : Kd.R Kd.string 9 w11 w.heap.size (fun _ => True) v4 p.f4 := by rw [hw]; exact Kd.R_set T4.out H10.out (by decide) _ _
      have U5 : Kd.R k86 86 w11 w.heap.size (fun _ => True) v5 p.f5 := by rw [hw]; exact Kd.R_set T5.out H10.out (by decide) _ _
      have U6 : Kd.R k86 86 w11 w.heap.size (fun _ => True) v6 p.f6 := by rw [hw]; exact Kd.R_set T6.out H10.out (by decide) _ _
      have U7 : Kd.R k86 86 w11 w.heap.size (fun _ => True) v7 p.f7 := by rw [hw]; exact Kd.R_set T7.out H10.out (by decide) _ _
      have U8 : Kd.R k86 86 w11 w.heap.size (fun _ => True) v8 p.f8 := by rw [hw]; exact Kd.R_set T8.out H10.out (by decide) _ _
      have U10 : Kd.R k36 36 w11 w.heap.size (fun _ => True) v10 p.f10 := by rw [hw]; exact Kd.R_set T10.out H10.out (by decide) _ _
      have UN : Kd.N k27 27 w11 w.heap.size (fun k => True ∧ k ≠ b10) (.slice An (p.f9.length + 1) cn) (p.f9 ++ [r]) := by rw [hw]; exact Kd.N_far (p := ⟨b10, 9, none⟩) NN.out (fun k hk => hk.2) _
      clear hw H3 H4 H5 H10 BL NN T0 T1 T2 T3 T4 T5 T6 T7 T8 T10
      obtain ⟨B0, d0, e0⟩ := Kd.R_slice U0
      subst e0
      obtain ⟨B1, d1, e1⟩ := Kd.R_slice U1
      subst e1
      obtain ⟨B2, d2, e2⟩ := Kd.R_slice U2
      subst e2
      obtain ⟨B3, d3, e3⟩ := Kd.R_slice U3
      subst e3
      obtain ⟨B4, d4, e4⟩ := Kd.R_slice U4
      subst e4
      obtain ⟨B5, d5, e5⟩ := Kd.R_slice U5
      subst e5
      obtain ⟨B6, d6, e6⟩ := Kd.R_slice U6
      subst e6
      obtain ⟨B7, d7, e7⟩ := Kd.R_slice U7
      subst e7
      obtain ⟨B8, d8, e8⟩ := Kd.R_slice U8
      subst e8
      obtain ⟨B10, d10, e10⟩ := Kd.R_slice U10
      subst e10
      have hq9 : (moreP p r).f9.length = p.f9.length + 1 := by show (p.f9 ++ [r]).length = _; simp
      have KQ : k34.K w11 (moreP p r) (#[.slice B0 p.f0.length d0, .slice B1 p.f1.length d1, .slice B2 p.f2.length d2, .slice B3 p.f3.length d3, .slice B4 p.f4.length d4, .slice B5 p.f5.length d5, .slice B6 p.f6.length d6, .slice B7 p.f7.length d7, .slice B8 p.f8.length d8, .slice An (p.f9.length + 1) cn, .slice B10 p.f10.length d10] : Array Value).toList := by
        have h := k34_mk w11 (moreP p r) (Kd.R_reads' U0).2.1 (Kd.R_reads' U0).2.2 (Kd.R_reads' U1).2.1 (Kd.R_reads' U1).2.2 (Kd.R_reads' U2).2.1 (Kd.R_reads' U2).2.2 (Kd.R_reads' U3).2.1 (Kd.R_reads' U3).2.2 (Kd.R_reads' U4).2.1 (Kd.R_reads' U4).2.2 (Kd.R_reads' U5).2.1 (Kd.R_reads' U5).2.2 (Kd.R_reads' U6).2.1 (Kd.R_reads' U6).2.2 (Kd.R_reads' U7).2.1 (Kd.R_reads' U7).2.2 (Kd.R_reads' U8).2.1 (Kd.R_reads' U8).2.2 (show (moreP p r).f9.length ≤ cn from by rw [hq9]; exact (Kd.N_reads' UN).2.1) (Kd.N_reads' UN).2.2 (Kd.R_reads' U10).2.1 (Kd.R_reads' U10).2.2
        rw [hq9] at h
        exact h
      have HKQ := Lib.hid KQ
      clear KQ UN hq9 U0 U1 U2 U3 U4 U5 U6 U7 U8 U10
      have hR := more_okR r hs hcap
      have hkm : okB (moreP p r) = true := okB_iff.2 (okR_iff.1 hR).1
      have hnm : thereB (moreP p r) t = false := HKF.out
      have f1 : allowsB (moreP p r) t = false := unknown_allows hnm
      have f2 : matchB p r t = false := unknown_matches (r := r) HKF.out
      have f3 : matchB (moreP p r) r t = false := unknown_matches (r := r) hnm
      have HR := Lib.hid hR
      have HKM := Lib.hid hkm
      have HF1 := Lib.hid f1
      have HF2 := Lib.hid f2
      have HF3 := Lib.hid f3
      have HNM := Lib.hid hnm
      clear hR hkm hnm f1 f2 f3
      obtain ⟨qf0, qf1, qf2, qf3, qf4, qf5, qf6, qf7, qf8, qf9, qf10, qf11, qf12, qf13, qf14, qf15, qf16, qf17, qf18, qf19, qf20, qf21⟩ := bC11 (Aside0.mk HS.out.h10); obtain ⟨qb0, qb1, qb2, qb3, qb4, qb5, qb6, qb7, qb8, qb9, qb10, qb11, qb12, qb13, qb14, qb15, qb16, qb17, qb18, qb19, qb20, qb21⟩ := bC11 (Aside0.mk HS.out.h3); obtain ⟨t0, t1, t2, t3, t4, t5⟩ := bC3 (Aside0.mk HS.out.h4); obtain ⟨x0, x1, x2, x3, x4, x5, x6, x7, x8, x9, xa, xb⟩ := bC6 (Aside0.mk HS.out.h5)
      go_upto_region 10 with (first | (go_at_call 22; go_must (refine (allows_k1 HF1 (moreP p r) #[.slice B0 p.f0.length d0, .slice B1 p.f1.length d1, .slice B2 p.f2.length d2, .slice B3 p.f3.length d3, .slice B4 p.f4.length d4, .slice B5 p.f5.length d5, .slice B6 p.f6.length d6, .slice B7 p.f7.length d7, .slice B8 p.f8.length d8, .slice An (p.f9.length + 1) cn, .slice B10 p.f10.length d10] t w11 HKQ.out HKM).mono ?_); rintro e wA ⟨rfl, hb⟩; have HSa := Lib.hid (HS.out.below hb); have Ka := Lib.hid (k34.K_below hb HKQ.out); clear hb; obtain ⟨qf0, qf1, qf2, qf3, qf4, qf5, qf6, qf7, qf8, qf9, qf10, qf11, qf12, qf13, qf14, qf15, qf16, qf17, qf18, qf19, qf20, qf21⟩ := bC11 (Aside0.mk HSa.out.h10); obtain ⟨qb0, qb1, qb2, qb3, qb4, qb5, qb6, qb7, qb8, qb9, qb10, qb11, qb12, qb13, qb14, qb15, qb16, qb17, qb18, qb19, qb20, qb21⟩ := bC11 (Aside0.mk HSa.out.h3); obtain ⟨t0, t1, t2, t3, t4, t5⟩ := bC3 (Aside0.mk HSa.out.h4); obtain ⟨x0, x1, x2, x3, x4, x5, x6, x7, x8, x9, xa, xb⟩ := bC6 (Aside0.mk HSa.out.h5)) | (go_at_call 19; (with_reducible refine (matches_k2 HF2 p #[.slice A0 p.f0.length c0, .slice A1 p.f1.length c1, .slice A2 p.f2.length c2, .slice A3 p.f3.length c3, .slice A4 p.f4.length c4, .slice A5 p.f5.length c5, .slice A6 p.f6.length c6, .slice A7 p.f7.length c7, .slice A8 p.f8.length c8, .slice A9 p.f9.length c9, .slice A10 p.f10.length c10] #[.bool r.f0, .string r.f1, .string r.f2, .slice Ar r.f3.length cr, .int .i8 r.f4, .float .f64 r.f5] t _ ?k1 ?k2 hs).mono ?_); (case k1 => exact k34.K_below HSa.out.bel HK.out); (case k2 => exact k27_mk _ r lr (Kd.C_below GR.out HSa.out.bel)); rintro e wB ⟨rfl, hb⟩; have HSb := Lib.hid (HSa.out.below hb); have Kb := Lib.hid (k34.K_below hb Ka.out); clear hb; obtain ⟨qf0, qf1, qf2, qf3, qf4, qf5, qf6, qf7, qf8, qf9, qf10, qf11, qf12, qf13, qf14, qf15, qf16, qf17, qf18, qf19, qf20, qf21⟩ := bC11 (Aside0.mk HSb.out.h10); obtain ⟨qb0, qb1, qb2, qb3, qb4, qb5, qb6, qb7, qb8, qb9, qb10, qb11, qb12, qb13, qb14, qb15, qb16, qb17, qb18, qb19, qb20, qb21⟩ := bC11 (Aside0.mk HSb.out.h3); obtain ⟨t0, t1, t2, t3, t4, t5⟩ := bC3 (Aside0.mk HSb.out.h4); obtain ⟨x0, x1, x2, x3, x4, x5, x6, x7, x8, x9, xa, xb⟩ := bC6 (Aside0.mk HSb.out.h5)) | (go_at_call 19; (with_reducible refine (matches_k3 HF3 (moreP p r) #[.slice B0 p.f0.length d0, .slice B1 p.f1.length d1, .slice B2 p.f2.length d2, .slice B3 p.f3.length d3, .slice B4 p.f4.length d4, .slice B5 p.f5.length d5, .slice B6 p.f6.length d6, .slice B7 p.f7.length d7, .slice B8 p.f8.length d8, .slice An (p.f9.length + 1) cn, .slice B10 p.f10.length d10] #[.bool r.f0, .string r.f1, .string r.f2, .slice Ar r.f3.length cr, .int .i8 r.f4, .float .f64 r.f5] t _ ?k1 ?k2 HKM).mono ?_); (case k1 => exact Kb.out); (case k2 => exact k27_mk _ r lr (Kd.C_below GR.out HSb.out.bel)); rintro e wC ⟨rfl, hb⟩; have HSc := Lib.hid (HSb.out.below hb); have Kc := Lib.hid (k34.K_below hb Kb.out); clear hb; obtain ⟨qf0, qf1, qf2, qf3, qf4, qf5, qf6, qf7, qf8, qf9, qf10, qf11, qf12, qf13, qf14, qf15, qf16, qf17, qf18, qf19, qf20, qf21⟩ := bC11 (Aside0.mk HSc.out.h10); obtain ⟨qb0, qb1, qb2, qb3, qb4, qb5, qb6, qb7, qb8, qb9, qb10, qb11, qb12, qb13, qb14, qb15, qb16, qb17, qb18, qb19, qb20, qb21⟩ := bC11 (Aside0.mk HSc.out.h3); obtain ⟨t0, t1, t2, t3, t4, t5⟩ := bC3 (Aside0.mk HSc.out.h4); obtain ⟨x0, x1, x2, x3, x4, x5, x6, x7, x8, x9, xa, xb⟩ := bC6 (Aside0.mk HSc.out.h5)))
      have hcap2 : (moreP p r).f1.length * ((moreP p r).f3.length * (moreP p r).f0.length) ≤ 16777216 := by
        show p.f1.length * (p.f3.length * p.f0.length) ≤ 16777216
        omega
      have hll : (relL (moreP p r)).length ≤ 65536 := Nat.le_trans (rel_le (moreP p r)) hcap
      obtain ⟨kh, hh⟩ := has_f (relL (moreP p r)) t (by omega)
      have hh := hh kh (Nat.le_refl _)
      rw [hasB_rel, HF1.out] at hh
      have HH := Lib.hid hh
      clear hh hll
      go_upto_region 11 with (go_at_call 28; go_must (refine (relation_calls (moreP p r) #[.slice B0 p.f0.length d0, .slice B1 p.f1.length d1, .slice B2 p.f2.length d2, .slice B3 p.f3.length d3, .slice B4 p.f4.length d4, .slice B5 p.f5.length d5, .slice B6 p.f6.length d6, .slice B7 p.f7.length d7, .slice B8 p.f8.length d8, .slice An (p.f9.length + 1) cn, .slice B10 p.f10.length d10] _ Kc.out (okB_iff.1 HKM.out) hcap2).mono ?_); rintro e wD ⟨v, rfl, hN, hb⟩; obtain ⟨AL, cL, rfl, hlc, hC⟩ := Kd.N_reads hN; have HC := Lib.hid hC; have HSd := Lib.hid (HSc.out.below hb); clear hN hC hb; obtain ⟨nl, hnl⟩ : ∃ n, n = (relL (moreP p r)).length := ⟨_, rfl⟩; rw [← hnl] at hlc ⊢; have HNL := Lib.hid hnl; clear hnl; obtain ⟨qf0, qf1, qf2, qf3, qf4, qf5, qf6, qf7, qf8, qf9, qf10, qf11, qf12, qf13, qf14, qf15, qf16, qf17, qf18, qf19, qf20, qf21⟩ := bC11 (Aside0.mk HSd.out.h10); obtain ⟨qb0, qb1, qb2, qb3, qb4, qb5, qb6, qb7, qb8, qb9, qb10, qb11, qb12, qb13, qb14, qb15, qb16, qb17, qb18, qb19, qb20, qb21⟩ := bC11 (Aside0.mk HSd.out.h3); obtain ⟨t0, t1, t2, t3, t4, t5⟩ := bC3 (Aside0.mk HSd.out.h4); obtain ⟨x0, x1, x2, x3, x4, x5, x6, x7, x8, x9, xa, xb⟩ := bC6 (Aside0.mk HSd.out.h5))
      go_wp2_with (go_at_call 32; go_must (refine (has_k HH HNL hlc _ HC.out).mono ?_); rintro e wE ⟨rfl, hb⟩; have HB := Lib.hid (HSd.out.bel.trans (hb.mono HSd.out.bel.size)); clear hb)
      go_ret
      exact ⟨rfl, HB.out⟩
end Go.Proofs.Ytnkdcekddhmjnaa.F
