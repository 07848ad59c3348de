-- Written by a program of this session (mk.py over the kit's print, turned for floats and for contracts given by hand). Not trusted: Lean checks it.
import Derived.Test.YtnkdcekddhmjnaaF0
import Derived.Test.YtnkdcekddhmjnaaF1
import Derived.Test.YtnkdcekddhmjnaaF6
namespace Go.Proofs.Ytnkdcekddhmjnaa.F
open Go.RowKit Go.Proofs.YtnkdcekddhmjnaaW.PrintWords Go.Proofs.YtnkdcekddhmjnaaW.PrintLast Go.Proofs.YtnkdcekddhmjnaaW.PrintMore
attribute [local go_sem] max2_int min2_int max_two min_two max_three min_three max_four min_four   -- for this text's walks alone
attribute [local go_sem] flt_eql flt_neq flt_lss flt_leq flt_gtr flt_geq run_store_float
set_option linter.unusedVariables false
set_option linter.unusedSimpArgs false

attribute [local go_sem high] eqA36
/-! ### gatehouseref08_excepted: function 59 -/
/-! ### gatehouseref08_Allows: function 23 -/
def gatehouseref08_Allows.T6 : Bool × List (List Nat × List Nat) := (true, [([], []), ([], []), ([1], [1]), ([], []), ([2, 3], [2, 3]), ([4], [4]), ([], []), ([0, 5, 6], [0, 5, 6]), ([7, 7, 0, 1, 2, 3, 4, 5, 6, 7], [7])])
def gatehouseref08_Allows.B6 : List Nat := [0, 0, 2, 0, 14, 30, 0, 127, 255]
-- NOT PRINTED: function 6 (gatehouselaw08_MeanAllows)

/-! ### gatehouselaw08_vast: function 26 -/
def gatehouselaw08_vast.f (z3 : List ByteArray) (z1 : List (S57)) (z6 : List ByteArray) (z2 : List ByteArray) (z7 : List ByteArray) (z8 : List (S86)) (z9 : List (S86)) (za : List (S86)) (zb : List (S86)) (zc : List (S27)) (z5 : List (S36)) : Option (Bool) := if (z1.length : Int) > 65536 then (some true) else (if (z2.length : Int) > 65536 then (some true) else (if (z3.length : Int) > 65536 then (some true) else (if (wrap64 ((z1.length : Int) * (z2.length : Int))) > 65536 then (some true) else (some (decide ((wrap64 ((wrap64 ((z1.length : Int) * (z2.length : Int))) * (z3.length : Int))) > 65536))))))
set_option maxHeartbeats 8000000 in
set_option maxRecDepth 100000 in
theorem gatehouselaw08_vast.calls (ze : Option Addr) (zp : Nat) (z3 : List ByteArray) (zf : Option Addr) (zq : Nat) (z1 : List (S57)) (zh : Option Addr) (zs : Nat) (z6 : List ByteArray) (zi : Option Addr) (zt : Nat) (z2 : List ByteArray) (zj : Option Addr) (zu : Nat) (z7 : List ByteArray) (zk : Option Addr) (zv : Nat) (z8 : List (S86)) (zl : Option Addr) (zw : Nat) (z9 : List (S86)) (zm : Option Addr) (zx : Nat) (za : List (S86)) (zn : Option Addr) (zy : Nat) (zb : List (S86)) (zo : Option Addr) (zz : Nat) (zc : List (S27)) (zg : Option Addr) (zr : Nat) (z5 : List (S36)) (r : Bool) (w : World) (hr0_0 : Kd.C Kd.string w ze z3.length z3) (hc0_0 : z3.length ≤ zp) (hr0_1 : Kd.C k57 w zf z1.length z1) (hc0_1 : z1.length ≤ zq) (hr0_2 : Kd.C Kd.string w zh z6.length z6) (hc0_2 : z6.length ≤ zs) (hr0_3 : Kd.C Kd.string w zi z2.length z2) (hc0_3 : z2.length ≤ zt) (hr0_4 : Kd.C Kd.string w zj z7.length z7) (hc0_4 : z7.length ≤ zu) (hr0_5 : Kd.C k86 w zk z8.length z8) (hc0_5 : z8.length ≤ zv) (hr0_6 : Kd.C k86 w zl z9.length z9) (hc0_6 : z9.length ≤ zw) (hr0_7 : Kd.C k86 w zm za.length za) (hc0_7 : za.length ≤ zx) (hr0_8 : Kd.C k86 w zn zb.length zb) (hc0_8 : zb.length ≤ zy) (hr0_9 : Kd.C k27 w zo zc.length zc) (hc0_9 : zc.length ≤ zz) (hr0_10 : Kd.C k36 w zg z5.length z5) (hc0_10 : z5.length ≤ zr) (h : gatehouselaw08_vast.f z3 z1 z6 z2 z7 z8 z9 za zb zc z5 = some r) :
  Calls Try.prog 26 #[.agg #[.slice ze z3.length zp, .slice zf z1.length zq, .slice zh z6.length zs, .slice zi z2.length zt, .slice zj z7.length zu, .slice zk z8.length zv, .slice zl z9.length zw, .slice zm za.length zx, .slice zn zb.length zy, .slice zo zc.length zz, .slice zg z5.length zr]] w fun e w' => e = .returned (.bool r) ∧ Below w.heap.size w w' := by
 have hu34 := Try.underlying34; have z2F := Aside0.mk hr0_0; have z2u := Aside0.mk hc0_0; clear hr0_0 hc0_0; have z2G := Aside0.mk hr0_1; have z2v := Aside0.mk hc0_1; clear hr0_1 hc0_1; have z2I := Aside0.mk hr0_2; have z2x := Aside0.mk hc0_2; clear hr0_2 hc0_2; have z2J := Aside0.mk hr0_3; have z2y := Aside0.mk hc0_3; clear hr0_3 hc0_3; have z2K := Aside0.mk hr0_4; have z2z := Aside0.mk hc0_4; clear hr0_4 hc0_4; have z2L := Aside0.mk hr0_5; have z2A := Aside0.mk hc0_5; clear hr0_5 hc0_5; have z2M := Aside0.mk hr0_6; have z2B := Aside0.mk hc0_6; clear hr0_6 hc0_6; have z2N := Aside0.mk hr0_7; have z2C := Aside0.mk hc0_7; clear hr0_7 hc0_7; have z2O := Aside0.mk hr0_8; have z2D := Aside0.mk hc0_8; clear hr0_8 hc0_8; have z2P := Aside0.mk hr0_9; have z2E := Aside0.mk hc0_9; clear hr0_9 hc0_9; have z2H := Aside0.mk hr0_10; have z2w := Aside0.mk hc0_10; clear hr0_10 hc0_10; have HB := Aside0.mk (Below.refl w.heap.size w); have H : (if (z1.length : Int) > 65536 then (some true) else (if (z2.length : Int) > 65536 then (some true) else (if (z3.length : Int) > 65536 then (some true) else (if (wrap64 ((z1.length : Int) * (z2.length : Int))) > 65536 then (some true) else (some (decide ((wrap64 ((wrap64 ((z1.length : Int) * (z2.length : Int))) * (z3.length : Int))) > 65536))))))) = some r := h; clear h
 by_cases c2 : (z1.length : Int) > 65536
 ·rw [if_pos c2] at H
  have z2o : decide (65536 < (z1.length : Int)) = true := decide_eq_true c2; have z2p : decide (65536 < z1.length) = true := decide_eq_true (by omega); clear c2
  obtain rfl := Option.some.inj H
  go_enter Try.func26, Try.ntmps26
  go_wp2_with (first | ((with_reducible refine gate_dst (N := 1) rfl ?_); refine box_event ?hg (N := 1) ?hd (cs := #[.slice ze z3.length zp, .slice zf z1.length zq, .slice zh z6.length zs, .slice zi z2.length zt, .slice zj z7.length zu, .slice zk z8.length zv, .slice zl z9.length zw, .slice zm za.length zx, .slice zn zb.length zy, .slice zo zc.length zz, .slice zg z5.length zr]) (t := 34) ?hr ?_; (case hd => rfl); (case hg => rfl); (case hr => first | (go_simp; done) | (go_simp; rfl)); intro z0 hg w3 hbox hb; have z4 := Aside0.mk (hbox); have zA := Aside0.mk ((by rw [hg]; exact (below_size (hW HB)) : w.heap.size ≤ z0)); have zd := Aside0.mk ((by rw [hg]; exact (below_size (hW HB)) : w.heap.size ≤ z0)); replace HB := hF HB hb; clear hb hbox hg; obtain ⟨z18, z19, z1b, z1c, z1d, z1e, z1f, z1g, z1h, z1i, z1a, z21, z22, z24, z25, z26, z27, z28, z29, z2a, z2b, z23⟩ := bC11 z4))
  repeat (go_quiet (first | ((with_reducible refine gate_dst (N := 1) rfl ?_); refine box_event ?hg (N := 1) ?hd (cs := #[.slice ze z3.length zp, .slice zf z1.length zq, .slice zh z6.length zs, .slice zi z2.length zt, .slice zj z7.length zu, .slice zk z8.length zv, .slice zl z9.length zw, .slice zm za.length zx, .slice zn zb.length zy, .slice zo zc.length zz, .slice zg z5.length zr]) (t := 34) ?hr ?_; (case hd => rfl); (case hg => rfl); (case hr => first | (go_simp; done) | (go_simp; rfl)); intro z0 hg w3 hbox hb; have z4 := Aside0.mk (hbox); have zA := Aside0.mk ((by rw [hg]; exact (below_size (hW HB)) : w.heap.size ≤ z0)); have zd := Aside0.mk ((by rw [hg]; exact (below_size (hW HB)) : w.heap.size ≤ z0)); replace HB := hF HB hb; clear hb hbox hg; obtain ⟨z18, z19, z1b, z1c, z1d, z1e, z1f, z1g, z1h, z1i, z1a, z21, z22, z24, z25, z26, z27, z28, z29, z2a, z2b, z23⟩ := bC11 z4)); try go_wp2_with (first | ((with_reducible refine gate_dst (N := 1) rfl ?_); refine box_event ?hg (N := 1) ?hd (cs := #[.slice ze z3.length zp, .slice zf z1.length zq, .slice zh z6.length zs, .slice zi z2.length zt, .slice zj z7.length zu, .slice zk z8.length zv, .slice zl z9.length zw, .slice zm za.length zx, .slice zn zb.length zy, .slice zo zc.length zz, .slice zg z5.length zr]) (t := 34) ?hr ?_; (case hd => rfl); (case hg => rfl); (case hr => first | (go_simp; done) | (go_simp; rfl)); intro z0 hg w3 hbox hb; have z4 := Aside0.mk (hbox); have zA := Aside0.mk ((by rw [hg]; exact (below_size (hW HB)) : w.heap.size ≤ z0)); have zd := Aside0.mk ((by rw [hg]; exact (below_size (hW HB)) : w.heap.size ≤ z0)); replace HB := hF HB hb; clear hb hbox hg; obtain ⟨z18, z19, z1b, z1c, z1d, z1e, z1f, z1g, z1h, z1i, z1a, z21, z22, z24, z25, z26, z27, z28, z29, z2a, z2b, z23⟩ := bC11 z4)))
  go_ret
  exact ⟨by first | rfl | (simp [errW_none, errW_some] <;> rfl) | (simp [*, errW_none, errW_some] <;> rfl), by repeat (first | (with_reducible first | exact HB.out | apply below_alloc | apply pw_below_drewN | apply below_drew1 | refine below_set ?_ zd.out) | exact HB.out)⟩
 ·rw [if_neg c2] at H
  have z2o : decide (65536 < (z1.length : Int)) = false := decide_eq_false c2; have z2p : decide (65536 < z1.length) = false := decide_eq_false (by omega); clear c2
  by_cases c5 : (z2.length : Int) > 65536
  ·rw [if_pos c5] at H
   have z2q : decide (65536 < (z2.length : Int)) = true := decide_eq_true c5; have z2r : decide (65536 < z2.length) = true := decide_eq_true (by omega); clear c5
   obtain rfl := Option.some.inj H
   go_enter Try.func26, Try.ntmps26
   go_wp2_with (first | ((with_reducible refine gate_dst (N := 1) rfl ?_); refine box_event ?hg (N := 1) ?hd (cs := #[.slice ze z3.length zp, .slice zf z1.length zq, .slice zh z6.length zs, .slice zi z2.length zt, .slice zj z7.length zu, .slice zk z8.length zv, .slice zl z9.length zw, .slice zm za.length zx, .slice zn zb.length zy, .slice zo zc.length zz, .slice zg z5.length zr]) (t := 34) ?hr ?_; (case hd => rfl); (case hg => rfl); (case hr => first | (go_simp; done) | (go_simp; rfl)); intro z0 hg w6 hbox hb; have z4 := Aside0.mk (hbox); have zA := Aside0.mk ((by rw [hg]; exact (below_size (hW HB)) : w.heap.size ≤ z0)); have zd := Aside0.mk ((by rw [hg]; exact (below_size (hW HB)) : w.heap.size ≤ z0)); replace HB := hF HB hb; clear hb hbox hg; obtain ⟨z1j, z1k, z1m, z1n, z1o, z1p, z1q, z1r, z1s, z1t, z1l, z2c, z2d, z2f, z2g, z2h, z2i, z2j, z2k, z2l, z2m, z2e⟩ := bC11 z4))
   repeat (go_quiet (first | ((with_reducible refine gate_dst (N := 1) rfl ?_); refine box_event ?hg (N := 1) ?hd (cs := #[.slice ze z3.length zp, .slice zf z1.length zq, .slice zh z6.length zs, .slice zi z2.length zt, .slice zj z7.length zu, .slice zk z8.length zv, .slice zl z9.length zw, .slice zm za.length zx, .slice zn zb.length zy, .slice zo zc.length zz, .slice zg z5.length zr]) (t := 34) ?hr ?_; (case hd => rfl); (case hg => rfl); (case hr => first | (go_simp; done) | (go_simp; rfl)); intro z0 hg w6 hbox hb; have z4 := Aside0.mk (hbox); have zA := Aside0.mk ((by rw [hg]; exact (below_size (hW HB)) : w.heap.size ≤ z0)); have zd := Aside0.mk ((by rw [hg]; exact (below_size (hW HB)) : w.heap.size ≤ z0)); replace HB := hF HB hb; clear hb hbox hg; obtain ⟨z1j, z1k, z1m, z1n, z1o, z1p, z1q, z1r, z1s, z1t, z1l, z2c, z2d, z2f, z2g, z2h, z2i, z2j, z2k, z2l, z2m, z2e⟩ := bC11 z4)); try go_wp2_with (first | ((with_reducible refine gate_dst (N := 1) rfl ?_); refine box_event ?hg (N := 1) ?hd (cs := #[.slice ze z3.length zp, .slice zf z1.length zq, .slice zh z6.length zs, .slice zi z2.length zt, .slice zj z7.length zu, .slice zk z8.length zv, .slice zl z9.length zw, .slice zm za.length zx, .slice zn zb.length zy, .slice zo zc.length zz, .slice zg z5.length zr]) (t := 34) ?hr ?_; (case hd => rfl); (case hg => rfl); (case hr => first | (go_simp; done) | (go_simp; rfl)); intro z0 hg w6 hbox hb; have z4 := Aside0.mk (hbox); have zA := Aside0.mk ((by rw [hg]; exact (below_size (hW HB)) : w.heap.size ≤ z0)); have zd := Aside0.mk ((by rw [hg]; exact (below_size (hW HB)) : w.heap.size ≤ z0)); replace HB := hF HB hb; clear hb hbox hg; obtain ⟨z1j, z1k, z1m, z1n, z1o, z1p, z1q, z1r, z1s, z1t, z1l, z2c, z2d, z2f, z2g, z2h, z2i, z2j, z2k, z2l, z2m, z2e⟩ := bC11 z4)))
   go_ret
   exact ⟨by first | rfl | (simp [errW_none, errW_some] <;> rfl) | (simp [*, errW_none, errW_some] <;> rfl), by repeat (first | (with_reducible first | exact HB.out | apply below_alloc | apply pw_below_drewN | apply below_drew1 | refine below_set ?_ zd.out) | exact HB.out)⟩
  ·rw [if_neg c5] at H
   have z2q : decide (65536 < (z2.length : Int)) = false := decide_eq_false c5; have z2r : decide (65536 < z2.length) = false := decide_eq_false (by omega); clear c5
   by_cases c8 : (z3.length : Int) > 65536
   ·rw [if_pos c8] at H
    have z2s : decide (65536 < (z3.length : Int)) = true := decide_eq_true c8; have z2t : decide (65536 < z3.length) = true := decide_eq_true (by omega); clear c8
    obtain rfl := Option.some.inj H
    go_enter Try.func26, Try.ntmps26
    go_wp2_with (first | ((with_reducible refine gate_dst (N := 1) rfl ?_); refine box_event ?hg (N := 1) ?hd (cs := #[.slice ze z3.length zp, .slice zf z1.length zq, .slice zh z6.length zs, .slice zi z2.length zt, .slice zj z7.length zu, .slice zk z8.length zv, .slice zl z9.length zw, .slice zm za.length zx, .slice zn zb.length zy, .slice zo zc.length zz, .slice zg z5.length zr]) (t := 34) ?hr ?_; (case hd => rfl); (case hg => rfl); (case hr => first | (go_simp; done) | (go_simp; rfl)); intro z0 hg w9 hbox hb; have z4 := Aside0.mk (hbox); have zA := Aside0.mk ((by rw [hg]; exact (below_size (hW HB)) : w.heap.size ≤ z0)); have zd := Aside0.mk ((by rw [hg]; exact (below_size (hW HB)) : w.heap.size ≤ z0)); replace HB := hF HB hb; clear hb hbox hg; obtain ⟨zB, zC, zE, zF, zG, zH, zI, zJ, zK, zL, zD, z1u, z1v, z1x, z1y, z1z, z1A, z1B, z1C, z1D, z1E, z1w⟩ := bC11 z4))
    repeat (go_quiet (first | ((with_reducible refine gate_dst (N := 1) rfl ?_); refine box_event ?hg (N := 1) ?hd (cs := #[.slice ze z3.length zp, .slice zf z1.length zq, .slice zh z6.length zs, .slice zi z2.length zt, .slice zj z7.length zu, .slice zk z8.length zv, .slice zl z9.length zw, .slice zm za.length zx, .slice zn zb.length zy, .slice zo zc.length zz, .slice zg z5.length zr]) (t := 34) ?hr ?_; (case hd => rfl); (case hg => rfl); (case hr => first | (go_simp; done) | (go_simp; rfl)); intro z0 hg w9 hbox hb; have z4 := Aside0.mk (hbox); have zA := Aside0.mk ((by rw [hg]; exact (below_size (hW HB)) : w.heap.size ≤ z0)); have zd := Aside0.mk ((by rw [hg]; exact (below_size (hW HB)) : w.heap.size ≤ z0)); replace HB := hF HB hb; clear hb hbox hg; obtain ⟨zB, zC, zE, zF, zG, zH, zI, zJ, zK, zL, zD, z1u, z1v, z1x, z1y, z1z, z1A, z1B, z1C, z1D, z1E, z1w⟩ := bC11 z4)); try go_wp2_with (first | ((with_reducible refine gate_dst (N := 1) rfl ?_); refine box_event ?hg (N := 1) ?hd (cs := #[.slice ze z3.length zp, .slice zf z1.length zq, .slice zh z6.length zs, .slice zi z2.length zt, .slice zj z7.length zu, .slice zk z8.length zv, .slice zl z9.length zw, .slice zm za.length zx, .slice zn zb.length zy, .slice zo zc.length zz, .slice zg z5.length zr]) (t := 34) ?hr ?_; (case hd => rfl); (case hg => rfl); (case hr => first | (go_simp; done) | (go_simp; rfl)); intro z0 hg w9 hbox hb; have z4 := Aside0.mk (hbox); have zA := Aside0.mk ((by rw [hg]; exact (below_size (hW HB)) : w.heap.size ≤ z0)); have zd := Aside0.mk ((by rw [hg]; exact (below_size (hW HB)) : w.heap.size ≤ z0)); replace HB := hF HB hb; clear hb hbox hg; obtain ⟨zB, zC, zE, zF, zG, zH, zI, zJ, zK, zL, zD, z1u, z1v, z1x, z1y, z1z, z1A, z1B, z1C, z1D, z1E, z1w⟩ := bC11 z4)))
    go_ret
    exact ⟨by first | rfl | (simp [errW_none, errW_some] <;> rfl) | (simp [*, errW_none, errW_some] <;> rfl), by repeat (first | (with_reducible first | exact HB.out | apply below_alloc | apply pw_below_drewN | apply below_drew1 | refine below_set ?_ zd.out) | exact HB.out)⟩
   ·rw [if_neg c8] at H
    have z2s : decide (65536 < (z3.length : Int)) = false := decide_eq_false c8; have z2t : decide (65536 < z3.length) = false := decide_eq_false (by omega); clear c8
    by_cases c11 : (wrap64 ((z1.length : Int) * (z2.length : Int))) > 65536
    ·rw [if_pos c11] at H
     have z2n : decide (65536 < (wrap64 ((z1.length : Int) * (z2.length : Int)))) = true := decide_eq_true c11; clear c11
     obtain rfl := Option.some.inj H
     go_enter Try.func26, Try.ntmps26
     go_wp2_with (first | ((with_reducible refine gate_dst (N := 1) rfl ?_); refine box_event ?hg (N := 1) ?hd (cs := #[.slice ze z3.length zp, .slice zf z1.length zq, .slice zh z6.length zs, .slice zi z2.length zt, .slice zj z7.length zu, .slice zk z8.length zv, .slice zl z9.length zw, .slice zm za.length zx, .slice zn zb.length zy, .slice zo zc.length zz, .slice zg z5.length zr]) (t := 34) ?hr ?_; (case hd => rfl); (case hg => rfl); (case hr => first | (go_simp; done) | (go_simp; rfl)); intro z0 hg w12 hbox hb; have z4 := Aside0.mk (hbox); have zA := Aside0.mk ((by rw [hg]; exact (below_size (hW HB)) : w.heap.size ≤ z0)); have zd := Aside0.mk ((by rw [hg]; exact (below_size (hW HB)) : w.heap.size ≤ z0)); replace HB := hF HB hb; clear hb hbox hg; obtain ⟨zM, zN, zP, zQ, zR, zS, zT, zU, zV, zW, zO, z1F, z1G, z1I, z1J, z1K, z1L, z1M, z1N, z1O, z1P, z1H⟩ := bC11 z4))
     repeat (go_quiet (first | ((with_reducible refine gate_dst (N := 1) rfl ?_); refine box_event ?hg (N := 1) ?hd (cs := #[.slice ze z3.length zp, .slice zf z1.length zq, .slice zh z6.length zs, .slice zi z2.length zt, .slice zj z7.length zu, .slice zk z8.length zv, .slice zl z9.length zw, .slice zm za.length zx, .slice zn zb.length zy, .slice zo zc.length zz, .slice zg z5.length zr]) (t := 34) ?hr ?_; (case hd => rfl); (case hg => rfl); (case hr => first | (go_simp; done) | (go_simp; rfl)); intro z0 hg w12 hbox hb; have z4 := Aside0.mk (hbox); have zA := Aside0.mk ((by rw [hg]; exact (below_size (hW HB)) : w.heap.size ≤ z0)); have zd := Aside0.mk ((by rw [hg]; exact (below_size (hW HB)) : w.heap.size ≤ z0)); replace HB := hF HB hb; clear hb hbox hg; obtain ⟨zM, zN, zP, zQ, zR, zS, zT, zU, zV, zW, zO, z1F, z1G, z1I, z1J, z1K, z1L, z1M, z1N, z1O, z1P, z1H⟩ := bC11 z4)); try go_wp2_with (first | ((with_reducible refine gate_dst (N := 1) rfl ?_); refine box_event ?hg (N := 1) ?hd (cs := #[.slice ze z3.length zp, .slice zf z1.length zq, .slice zh z6.length zs, .slice zi z2.length zt, .slice zj z7.length zu, .slice zk z8.length zv, .slice zl z9.length zw, .slice zm za.length zx, .slice zn zb.length zy, .slice zo zc.length zz, .slice zg z5.length zr]) (t := 34) ?hr ?_; (case hd => rfl); (case hg => rfl); (case hr => first | (go_simp; done) | (go_simp; rfl)); intro z0 hg w12 hbox hb; have z4 := Aside0.mk (hbox); have zA := Aside0.mk ((by rw [hg]; exact (below_size (hW HB)) : w.heap.size ≤ z0)); have zd := Aside0.mk ((by rw [hg]; exact (below_size (hW HB)) : w.heap.size ≤ z0)); replace HB := hF HB hb; clear hb hbox hg; obtain ⟨zM, zN, zP, zQ, zR, zS, zT, zU, zV, zW, zO, z1F, z1G, z1I, z1J, z1K, z1L, z1M, z1N, z1O, z1P, z1H⟩ := bC11 z4)))
     go_ret
     exact ⟨by first | rfl | (simp [errW_none, errW_some] <;> rfl) | (simp [*, errW_none, errW_some] <;> rfl), by repeat (first | (with_reducible first | exact HB.out | apply below_alloc | apply pw_below_drewN | apply below_drew1 | refine below_set ?_ zd.out) | exact HB.out)⟩
    ·rw [if_neg c11] at H
     have z2n : decide (65536 < (wrap64 ((z1.length : Int) * (z2.length : Int)))) = false := decide_eq_false c11; clear c11
     obtain rfl := Option.some.inj H
     go_enter Try.func26, Try.ntmps26
     go_wp2_with (first | ((with_reducible refine gate_dst (N := 1) rfl ?_); refine box_event ?hg (N := 1) ?hd (cs := #[.slice ze z3.length zp, .slice zf z1.length zq, .slice zh z6.length zs, .slice zi z2.length zt, .slice zj z7.length zu, .slice zk z8.length zv, .slice zl z9.length zw, .slice zm za.length zx, .slice zn zb.length zy, .slice zo zc.length zz, .slice zg z5.length zr]) (t := 34) ?hr ?_; (case hd => rfl); (case hg => rfl); (case hr => first | (go_simp; done) | (go_simp; rfl)); intro z0 hg w14 hbox hb; have z4 := Aside0.mk (hbox); have zA := Aside0.mk ((by rw [hg]; exact (below_size (hW HB)) : w.heap.size ≤ z0)); have zd := Aside0.mk ((by rw [hg]; exact (below_size (hW HB)) : w.heap.size ≤ z0)); replace HB := hF HB hb; clear hb hbox hg; obtain ⟨zX, zY, z10, z11, z12, z13, z14, z15, z16, z17, zZ, z1Q, z1R, z1T, z1U, z1V, z1W, z1X, z1Y, z1Z, z20, z1S⟩ := bC11 z4))
     repeat (go_quiet (first | ((with_reducible refine gate_dst (N := 1) rfl ?_); refine box_event ?hg (N := 1) ?hd (cs := #[.slice ze z3.length zp, .slice zf z1.length zq, .slice zh z6.length zs, .slice zi z2.length zt, .slice zj z7.length zu, .slice zk z8.length zv, .slice zl z9.length zw, .slice zm za.length zx, .slice zn zb.length zy, .slice zo zc.length zz, .slice zg z5.length zr]) (t := 34) ?hr ?_; (case hd => rfl); (case hg => rfl); (case hr => first | (go_simp; done) | (go_simp; rfl)); intro z0 hg w14 hbox hb; have z4 := Aside0.mk (hbox); have zA := Aside0.mk ((by rw [hg]; exact (below_size (hW HB)) : w.heap.size ≤ z0)); have zd := Aside0.mk ((by rw [hg]; exact (below_size (hW HB)) : w.heap.size ≤ z0)); replace HB := hF HB hb; clear hb hbox hg; obtain ⟨zX, zY, z10, z11, z12, z13, z14, z15, z16, z17, zZ, z1Q, z1R, z1T, z1U, z1V, z1W, z1X, z1Y, z1Z, z20, z1S⟩ := bC11 z4)); try go_wp2_with (first | ((with_reducible refine gate_dst (N := 1) rfl ?_); refine box_event ?hg (N := 1) ?hd (cs := #[.slice ze z3.length zp, .slice zf z1.length zq, .slice zh z6.length zs, .slice zi z2.length zt, .slice zj z7.length zu, .slice zk z8.length zv, .slice zl z9.length zw, .slice zm za.length zx, .slice zn zb.length zy, .slice zo zc.length zz, .slice zg z5.length zr]) (t := 34) ?hr ?_; (case hd => rfl); (case hg => rfl); (case hr => first | (go_simp; done) | (go_simp; rfl)); intro z0 hg w14 hbox hb; have z4 := Aside0.mk (hbox); have zA := Aside0.mk ((by rw [hg]; exact (below_size (hW HB)) : w.heap.size ≤ z0)); have zd := Aside0.mk ((by rw [hg]; exact (below_size (hW HB)) : w.heap.size ≤ z0)); replace HB := hF HB hb; clear hb hbox hg; obtain ⟨zX, zY, z10, z11, z12, z13, z14, z15, z16, z17, zZ, z1Q, z1R, z1T, z1U, z1V, z1W, z1X, z1Y, z1Z, z20, z1S⟩ := bC11 z4)))
     go_ret
     exact ⟨by first | rfl | (simp [errW_none, errW_some] <;> rfl) | (simp [*, errW_none, errW_some] <;> rfl), by repeat (first | (with_reducible first | exact HB.out | apply below_alloc | apply pw_below_drewN | apply below_drew1 | refine below_set ?_ zd.out) | exact HB.out)⟩

-- NOT PRINTED: function 64 (api_Subject)

/-! ### mean_once: function 66 -/
def mean_once.l0 : Nat → List ByteArray → List ByteArray → Int → Int → Option (List ByteArray)
 | 0, _, _, _, _ => none
 | k + 1, x3, x6, x7, x8 => if x8 < x7 then (if 0 ≤ x8 then (if x8 < (x6.length : Int) then ((slices_Contains_string_string.f k x3 (rdOf ByteArray.empty x6 x8)).bind fun t322 => (if t322 = true then (mean_once.l0 k x3 x6 x7 (wrap64 (x8 + 1))) else (if x3.length < 8796093022208 then (mean_once.l0 k (x3 ++ [rdOf ByteArray.empty x6 x8]) x6 x7 (wrap64 (x8 + 1))) else (none)))) else (none)) else (none)) else (some x3)
def mean_once.f (k : Nat) (l0 : List ByteArray) : Option (List ByteArray) := mean_once.l0 k ([] : List ByteArray) l0 (l0.length : Int) 0
set_option maxHeartbeats 8000000 in
set_option maxRecDepth 100000 in
theorem mean_once.calls (k : Nat) (A0 : Option Addr) (c0 : Nat) (l0 : List ByteArray) (r : List ByteArray) (w : World) (hr0 : Kd.C Kd.string w A0 l0.length l0) (hc0 : l0.length ≤ c0) (h : mean_once.f k l0 = some r) :
  Calls Try.prog 66 #[.slice A0 l0.length c0] w fun e w' => ∃ v0_ : Value, e = .returned (v0_) ∧ Kd.R Kd.string 9 w' w.heap.size (fun _ => True) v0_ r ∧ Below w.heap.size w w' := by
 have HR0 := Aside0.mk hr0; have HC0 := Aside0.mk hc0; clear hr0 hc0; have HB := Aside0.mk (Below.refl w.heap.size w); have H : (mean_once.l0 k ([] : List ByteArray) l0 (l0.length : Int) 0) = some r := h; clear h; have H' := Aside0.mk H; clear H
 go_enter Try.func66, Try.ntmps66
 go_wp2
 go_loopg [3, 8] k (fun kq v3 v8 w' => ∃ (z1 : List ByteArray) (z0 : Int), v8 = .int .i64 z0 ∧ Aside0 (mean_once.l0 kq z1 l0 (l0.length : Int) z0 = some r) ∧ Aside0 (kq ≤ k) ∧ Aside0 (Kd.R Kd.string 9 w' w.heap.size (fun _ => True) v3 z1) ∧ Aside0 (Below w.heap.size w w'))
 case atStart => exact ⟨(([] : List ByteArray)), (0), (by first | rfl | (simp; done) | (simp [*]; done)), H', ⟨Nat.le_refl _⟩, ⟨by first | exact Kd.R_nil _ _ _ _ _ | exact Kd.N_nil _ _ _ _ _ | exact Kd.V_nil _ _ _ _ _ | exact Kd.Q_nil _ _ _ _ _ | exact Kd.S_nil _ _ _ _ _⟩, ⟨hW HB⟩⟩
 case round =>
  clear H'; obtain ⟨z1, z0, rfl, HA, HK1, z2, HB⟩ := hrel
  cases gk with
  | zero => exact absurd HA.out (by simp [mean_once.l0])
  | succ k1 =>
   have H := HA.out; clear HA
   simp only [mean_once.l0] at H
   by_cases c2 : z0 < (l0.length : Int)
   ·rw [if_pos c2] at H
    have zb : decide (z0 < (l0.length : Int)) = true := decide_eq_true c2; clear c2
    by_cases c3 : 0 ≤ z0
    ·rw [if_pos c3] at H
     have zf : decide (0 ≤ z0) = true := decide_eq_true c3; clear c3
     by_cases c4 : z0 < (l0.length : Int)
     ·rw [if_pos c4] at H
      have zg : decide (z0 < (l0.length : Int)) = true := decide_eq_true c4; clear c4; replace H := Option.bind_eq_some_iff.mp H; obtain ⟨t322, A50, H⟩ := H; replace H : (if t322 = true then (mean_once.l0 k1 z1 l0 (l0.length : Int) (wrap64 (z0 + 1))) else (if z1.length < 8796093022208 then (mean_once.l0 k1 (z1 ++ [rdOf ByteArray.empty l0 z0]) l0 (l0.length : Int) (wrap64 (z0 + 1))) else (none))) = some r := H; have A5 := Aside0.mk A50; clear A50
      by_cases c6 : t322 = true
      ·subst c6
       have H1 : (mean_once.l0 k1 z1 l0 (l0.length : Int) (wrap64 (z0 + 1))) = some r := by rw [if_pos rfl] at H; exact H
       clear H; have H := H1; clear H1; have H' := Aside0.mk H; clear H; have p321 : 0 ≤ (z0 : Int) := of_decide_eq_true (by first | (with_reducible assumption) | assumption); have q321 : z0 < (l0.length : Int) := of_decide_eq_true (by first | (with_reducible assumption) | assumption); obtain ⟨za, e321, z3⟩ := Kd.at_string HR0.out z0 p321 q321
       cases e321
       replace z3 := hC HB z3; replace p321 := eq_true p321; replace q321 := eq_true q321; obtain ⟨z6, zc, zd⟩ := Kd.R_slice z2.out
       subst zd
       go_wp2_with (first | ((with_reducible refine gate_callee (f := 47) rfl ?_); refine goesL_ (some 14) rfl rfl Try.func47 (by kernel_rfl) rfl #[.slice z6 z1.length zc, .string (rdOf ByteArray.empty l0 z0)] rfl (by (try simp only [List.map_toArray, List.map_cons, List.map_nil]); first | done | rfl | (simp only [List.length_drop, List.length_take]; rfl)) ?_; (with_reducible refine (slices_Contains_string_string.calls k1 _ _ z1 (rdOf ByteArray.empty l0 z0) true _ ?side1 ?side2 A5.out).mono ?_); (case side1 => exact cE (Kd.R_reads' z2.out).2.2); (case side2 => exact (Kd.R_reads' z2.out).2.1); rintro e w' ⟨rfl, ⟨nd, rfl⟩⟩; refine ⟨_, rfl, ?_⟩))
       go_roundg k1
       case measure => have := HK1.out; omega
       case rel => exact ⟨(z1), (wrap64 (z0 + 1)), (by first | rfl | (simp; done) | (simp [*]; done)), H', ⟨by have := HK1.out; omega⟩, ⟨rE z2.out⟩, ⟨hW HB⟩⟩
      ·replace c6 := Bool.eq_false_iff.mpr c6
       subst c6
       have H1 : (if z1.length < 8796093022208 then (mean_once.l0 k1 (z1 ++ [rdOf ByteArray.empty l0 z0]) l0 (l0.length : Int) (wrap64 (z0 + 1))) else (none)) = some r := by rw [if_neg (show ¬ (false = true) by decide)] at H; exact H
       clear H; have H := H1; clear H1
       by_cases c8 : z1.length < 8796093022208
       ·rw [if_pos c8] at H
        have z8 := Aside0.mk c8; clear c8; obtain ⟨y323, hy323⟩ : ∃ y_ : List ByteArray, y_ = (z1 ++ [rdOf ByteArray.empty l0 z0]) := ⟨_, rfl⟩
        replace H : (mean_once.l0 k1 y323 l0 (l0.length : Int) (wrap64 (z0 + 1))) = some r := by first | (rw [hy323]; with_reducible exact H) | (have H2_ := (Option.bind_some _ _).symm.trans H; rw [hy323]; with_reducible exact H2_) | (have H2_ := (Option.bind_some _ _).symm.trans H; with_reducible exact H2_) | with_reducible exact H | (rw [hy323]; exact H) | exact H
        have z9 := Aside0.mk hy323; clear hy323; have H' := Aside0.mk H; clear H; have p321 : 0 ≤ (z0 : Int) := of_decide_eq_true (by first | (with_reducible assumption) | assumption); have q321 : z0 < (l0.length : Int) := of_decide_eq_true (by first | (with_reducible assumption) | assumption); obtain ⟨za, e321, z3⟩ := Kd.at_string HR0.out z0 p321 q321
        cases e321
        replace z3 := hC HB z3; replace p321 := eq_true p321; replace q321 := eq_true q321; obtain ⟨z4, z5, ze⟩ := Kd.R_slice z2.out
        subst ze
        go_wp2_with (first | ((with_reducible refine gate_callee (f := 47) rfl ?_); refine goesL_ (some 14) rfl rfl Try.func47 (by kernel_rfl) rfl #[.slice z4 z1.length z5, .string (rdOf ByteArray.empty l0 z0)] rfl (by (try simp only [List.map_toArray, List.map_cons, List.map_nil]); first | done | rfl | (simp only [List.length_drop, List.length_take]; rfl)) ?_; (with_reducible refine (slices_Contains_string_string.calls k1 _ _ z1 (rdOf ByteArray.empty l0 z0) false _ ?side1 ?side2 A5.out).mono ?_); (case side1 => exact cE (Kd.R_reads' z2.out).2.2); (case side2 => exact (Kd.R_reads' z2.out).2.1); rintro e w' ⟨rfl, ⟨nd, rfl⟩⟩; refine ⟨_, rfl, ?_⟩) | ((with_reducible refine gate_builtin (b := .append) (xs := #[.tmp 16, .tmp 18]) rfl ?_); at_builtin; refine Kd.R_append Kd.string (w0 := w) w.heap.size rfl (.tmp 16) (.tmp 18) 25 9 (.string ⟨#[]⟩) 16 rfl Try.underlying25 info9 rfl (by decide) (by omega) (.slice z4 z1.length z5) z1 (rdOf ByteArray.empty l0 z0) [.string (rdOf ByteArray.empty l0 z0)] (fun _ => True) (fun _ => False) rfl rfl ?aP (fun _ hk => hk.elim) ?aF ?aO ?aB ?aS ?aL ?_; (case aP => exact rfl); (case aB => exact (hW HB)); (case aF => exact (fun _ _ => trivial)); (case aO => exact (rE z2.out)); (case aS => exact (below_size (hW HB))); (case aL => have := z8.out; omega); intro v324 w10 ho hb hg hat; rw [← z9.out] at ho; replace HB := Aside0.mk (hb); have z7 := Aside0.mk (ho); clear z2; clear ho hb hg hat))
        go_roundg k1
        case measure => have := HK1.out; omega
        case rel => exact ⟨(y323), (wrap64 (z0 + 1)), (by first | rfl | (simp; done) | (simp [*]; done)), H', ⟨by have := HK1.out; omega⟩, ⟨rE z7.out⟩, ⟨hW HB⟩⟩
       ·rw [if_neg c8] at H
        exact absurd H (by simp)
     ·rw [if_neg c4] at H
      exact absurd H (by simp)
    ·rw [if_neg c3] at H
     exact absurd H (by simp)
   ·rw [if_neg c2] at H
    have zb : decide (z0 < (l0.length : Int)) = false := decide_eq_false c2; clear c2
    obtain rfl := Option.some.inj H
    go_wp2
    go_ret
    exact ⟨_, by first | rfl | (simp [errW_none, errW_some] <;> rfl) | (simp [*, errW_none, errW_some] <;> rfl), by (with_reducible repeat (first | apply Kd.R_alloc | apply Kd.R_drewN | apply Kd.R_drew)); exact z2.out, by repeat (first | (with_reducible first | exact HB.out | apply below_alloc | apply pw_below_drewN | apply below_drew1) | exact HB.out)⟩

-- by hand: function 28 (mean_Relation)

/-! ### gatehouselaw08_tri: function 40 -/
def gatehouselaw08_tri.f (a0 : ByteArray) (a1 : ByteArray) (a2 : ByteArray) : Option (ByteArray × ByteArray × ByteArray) := some (a0, a1, a2)
set_option maxHeartbeats 8000000 in
set_option maxRecDepth 100000 in
theorem gatehouselaw08_tri.calls (a0 : ByteArray) (a1 : ByteArray) (a2 : ByteArray) (r1 : ByteArray) (r2 : ByteArray) (r3 : ByteArray) (w : World) (h : gatehouselaw08_tri.f a0 a1 a2 = some (r1, r2, r3)) :
  Calls Try.prog 40 #[.string a0, .string a1, .string a2] w fun e w' => e = .returned (.agg #[.string r1, .string r2, .string r3]) ∧ Below w.heap.size w w' := by
 have hu36 := Try.underlying36; have HB := Aside0.mk (Below.refl w.heap.size w); have H : (some (a0, a1, a2)) = some (r1, r2, r3) := h; clear h
 simp only [Option.some.injEq, Prod.mk.injEq] at H
 obtain ⟨rfl, rfl, rfl⟩ := H
 go_enter Try.func40, Try.ntmps40
 go_wp2_with (first | ((with_reducible refine gate_dst (N := 6) rfl ?_); refine box_event ?hg (N := 6) ?hd (cs := #[.string (⟨#[]⟩ : ByteArray), .string (⟨#[]⟩ : ByteArray), .string (⟨#[]⟩ : ByteArray)]) (t := 36) ?hr ?_; (case hd => rfl); (case hg => rfl); (case hr => first | (go_simp; done) | (go_simp; rfl)); intro z0 hg w4 hbox hb; have z1 := Aside0.mk (hbox); have z3 := Aside0.mk ((by rw [hg]; exact (below_size (hW HB)) : w.heap.size ≤ z0)); have z2 := Aside0.mk ((by rw [hg]; exact (below_size (hW HB)) : w.heap.size ≤ z0)); replace HB := hF HB hb; clear hb hbox hg; obtain ⟨z4, z5, z6, z7, z8, z9⟩ := bC3 z1))
 refine bodyPost_ret (results_cell_row rfl _ _ z0 36 #[.string a0, .string a1, .string a2] (0, 0) _ rfl (pK z1) Try.underlying36 rfl (by kernel_rfl)) rfl ?_
 exact ⟨by first | rfl | (simp [errW_none, errW_some] <;> rfl) | (simp [*, errW_none, errW_some] <;> rfl), by repeat (first | (with_reducible first | exact HB.out | apply below_alloc | apply pw_below_drewN | apply below_drew1 | refine below_set ?_ z2.out) | exact HB.out)⟩

-- by hand: function 30 (gatehouselaw08_alive)

/-! ### gatehouselaw08_texts: function 67 -/
def gatehouselaw08_texts.f (l0 : List ByteArray) : Option (List ByteArray) := if ([] : List ByteArray).length + l0.length < 8796093022208 then (some (([] : List ByteArray) ++ l0)) else (none)
set_option maxHeartbeats 8000000 in
set_option maxRecDepth 100000 in
theorem gatehouselaw08_texts.calls (A0 : Option Addr) (c0 : Nat) (l0 : List ByteArray) (r : List ByteArray) (w : World) (hr0 : Kd.C Kd.string w A0 l0.length l0) (hc0 : l0.length ≤ c0) (h : gatehouselaw08_texts.f l0 = some r) :
  Calls Try.prog 67 #[.slice A0 l0.length c0] w fun e w' => ∃ v0_ : Value, e = .returned (v0_) ∧ Kd.R Kd.string 9 w' w.heap.size (fun _ => True) v0_ r ∧ Below w.heap.size w w' := by
 have HR0 := Aside0.mk hr0; have HC0 := Aside0.mk hc0; clear hr0 hc0; have HB := Aside0.mk (Below.refl w.heap.size w); have H : (if ([] : List ByteArray).length + l0.length < 8796093022208 then (some (([] : List ByteArray) ++ l0)) else (none)) = some r := h; clear h
 by_cases c2 : ([] : List ByteArray).length + l0.length < 8796093022208
 ·rw [if_pos c2] at H
  have z1 := Aside0.mk c2; clear c2; obtain ⟨y327, hy327⟩ : ∃ y_ : List ByteArray, y_ = (([] : List ByteArray) ++ l0) := ⟨_, rfl⟩
  replace H : (some y327) = some r := by first | (rw [hy327]; with_reducible exact H) | (have H2_ := (Option.bind_some _ _).symm.trans H; rw [hy327]; with_reducible exact H2_) | (have H2_ := (Option.bind_some _ _).symm.trans H; with_reducible exact H2_) | with_reducible exact H | (rw [hy327]; exact H) | exact H
  have z2 := Aside0.mk hy327; clear hy327
  obtain rfl := Option.some.inj H
  go_enter Try.func67, Try.ntmps67
  go_wp2_with (first | ((with_reducible refine gate_builtin (b := .append) (xs := #[.tmp 4, .tmp 5]) rfl ?_); at_builtin; refine Kd.R_append_rows Kd.string (w0 := w) w.heap.size rfl (.tmp 4) (.tmp 5) 25 9 (.string ⟨#[]⟩) 16 rfl Try.underlying25 info9 rfl (by decide) (by omega) (.slice none 0 0) ([] : List ByteArray) l0 _ _ _ (fun _ => True) (fun _ => False) rfl rfl ?aO ?aR (fun _ _ h => h) (fun _ h => h.elim) ?aF ?aB ?aS ?aL ?_; (case aR => repeat (first | exact HR0.out | (with_reducible refine Kd.C_alloc ?_ _) | (with_reducible refine Kd.C_drewN ?_ _) | (with_reducible refine Kd.C_drew ?_))); (case aB => exact (hW HB)); (case aF => exact (fun _ _ => trivial)); (case aO => exact ((Kd.R_nil _ _ _ _ (fun _ => True)))); (case aS => exact (below_size (hW HB))); (case aL => have := z1.out; omega); intro v328 w3 ho hb hg hat; rw [← z2.out] at ho; replace HB := Aside0.mk (hb); have z0 := Aside0.mk (ho); clear ho hb hg hat))
  go_ret
  exact ⟨_, by first | rfl | (simp [errW_none, errW_some] <;> rfl) | (simp [*, errW_none, errW_some] <;> rfl), by (with_reducible repeat (first | apply Kd.R_alloc | apply Kd.R_drewN | apply Kd.R_drew)); exact z0.out, by repeat (first | (with_reducible first | exact HB.out | apply below_alloc | apply pw_below_drewN | apply below_drew1) | exact HB.out)⟩
 ·rw [if_neg c2] at H
  exact absurd H (by simp)

end Go.Proofs.Ytnkdcekddhmjnaa.F
