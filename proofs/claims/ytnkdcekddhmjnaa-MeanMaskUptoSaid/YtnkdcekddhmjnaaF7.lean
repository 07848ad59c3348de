-- Written by a program of this session (mk.py over the kit's print, turned for floats and for contracts given by hand). Not trusted: Lean checks it.
import Derived.Test.YtnkdcekddhmjnaaF0
import Derived.Test.YtnkdcekddhmjnaaF1
import Derived.Test.YtnkdcekddhmjnaaF6
namespace Go.Proofs.Ytnkdcekddhmjnaa.F
open Go.RowKit Go.Proofs.YtnkdcekddhmjnaaW.PrintWords Go.Proofs.YtnkdcekddhmjnaaW.PrintLast Go.Proofs.YtnkdcekddhmjnaaW.PrintMore
attribute [local go_sem] max2_int min2_int max_two min_two max_three min_three max_four min_four   -- for this text's walks alone
attribute [local go_sem] flt_eql flt_neq flt_lss flt_leq flt_gtr flt_geq run_store_float
set_option linter.unusedVariables false
set_option linter.unusedSimpArgs false

attribute [local go_sem high] eqA36
/-! ### gatehouseref08_excepted: function 59 -/
def gatehouseref08_excepted.l0 : Nat → Int → List ByteArray → List (S57) → List ByteArray → List ByteArray → List ByteArray → List (S86) → List (S86) → List (S86) → List (S86) → List (S27) → List (S36) → ByteArray → ByteArray → ByteArray → Option (Bool)
 | 0, _, _, _, _, _, _, _, _, _, _, _, _, _, _, _ => none
 | k + 1, x5, zV, zW, zX, zY, zZ, z10, z11, z12, z13, z14, zH, zN, zO, zP => if x5 < (zH.length : Int) then (if 0 ≤ x5 then (if ((((rd_T36 zH x5).f0).toList) == zN.toList && ((((rd_T36 zH x5).f1).toList) == zO.toList && ((((rd_T36 zH x5).f2).toList) == zP.toList))) = true then (some true) else (gatehouseref08_excepted.l0 k (wrap64 (x5 + 1)) zV zW zX zY zZ z10 z11 z12 z13 z14 zH zN zO zP)) else (none)) else (some false)
def gatehouseref08_excepted.f (k : Nat) (z5 : List ByteArray) (z6 : List (S57)) (z7 : List ByteArray) (z8 : List ByteArray) (z9 : List ByteArray) (za : List (S86)) (zb : List (S86)) (zc : List (S86)) (zd : List (S86)) (ze : List (S27)) (z0 : List (S36)) (a1_0 : ByteArray) (a1_1 : ByteArray) (a1_2 : ByteArray) : Option (Bool) := gatehouseref08_excepted.l0 k 0 z5 z6 z7 z8 z9 za zb zc zd ze z0 a1_0 a1_1 a1_2
set_option maxHeartbeats 8000000 in
set_option maxRecDepth 100000 in
theorem gatehouseref08_excepted.calls (k : Nat) (zg : Option Addr) (zr : Nat) (z5 : List ByteArray) (zh : Option Addr) (zs : Nat) (z6 : List (S57)) (zj : Option Addr) (zu : Nat) (z7 : List ByteArray) (zk : Option Addr) (zv : Nat) (z8 : List ByteArray) (zl : Option Addr) (zw : Nat) (z9 : List ByteArray) (zm : Option Addr) (zx : Nat) (za : List (S86)) (zn : Option Addr) (zy : Nat) (zb : List (S86)) (zo : Option Addr) (zz : Nat) (zc : List (S86)) (zp : Option Addr) (zA : Nat) (zd : List (S86)) (zq : Option Addr) (zB : Nat) (ze : List (S27)) (zi : Option Addr) (zt : Nat) (z0 : List (S36)) (a1_0 : ByteArray) (a1_1 : ByteArray) (a1_2 : ByteArray) (r : Bool) (w : World) (hr0_0 : Kd.C Kd.string w zg z5.length z5) (hc0_0 : z5.length ≤ zr) (hr0_1 : Kd.C k57 w zh z6.length z6) (hc0_1 : z6.length ≤ zs) (hr0_2 : Kd.C Kd.string w zj z7.length z7) (hc0_2 : z7.length ≤ zu) (hr0_3 : Kd.C Kd.string w zk z8.length z8) (hc0_3 : z8.length ≤ zv) (hr0_4 : Kd.C Kd.string w zl z9.length z9) (hc0_4 : z9.length ≤ zw) (hr0_5 : Kd.C k86 w zm za.length za) (hc0_5 : za.length ≤ zx) (hr0_6 : Kd.C k86 w zn zb.length zb) (hc0_6 : zb.length ≤ zy) (hr0_7 : Kd.C k86 w zo zc.length zc) (hc0_7 : zc.length ≤ zz) (hr0_8 : Kd.C k86 w zp zd.length zd) (hc0_8 : zd.length ≤ zA) (hr0_9 : Kd.C k27 w zq ze.length ze) (hc0_9 : ze.length ≤ zB) (hr0_10 : Kd.C k36 w zi z0.length z0) (hc0_10 : z0.length ≤ zt) (h : gatehouseref08_excepted.f k z5 z6 z7 z8 z9 za zb zc zd ze z0 a1_0 a1_1 a1_2 = some r) :
  Calls Try.prog 59 #[.agg #[.slice zg z5.length zr, .slice zh z6.length zs, .slice zj z7.length zu, .slice zk z8.length zv, .slice zl z9.length zw, .slice zm za.length zx, .slice zn zb.length zy, .slice zo zc.length zz, .slice zp zd.length zA, .slice zq ze.length zB, .slice zi z0.length zt], .agg #[.string a1_0, .string a1_1, .string a1_2]] w fun e w' => e = .returned (.bool r) ∧ Below w.heap.size w w' := by
 have hu34 := Try.underlying34; have hu36 := Try.underlying36; have z1g := Aside0.mk hr0_0; have z15 := Aside0.mk hc0_0; clear hr0_0 hc0_0; have z1h := Aside0.mk hr0_1; have z16 := Aside0.mk hc0_1; clear hr0_1 hc0_1; have z1i := Aside0.mk hr0_2; have z18 := Aside0.mk hc0_2; clear hr0_2 hc0_2; have z1j := Aside0.mk hr0_3; have z19 := Aside0.mk hc0_3; clear hr0_3 hc0_3; have z1k := Aside0.mk hr0_4; have z1a := Aside0.mk hc0_4; clear hr0_4 hc0_4; have z1l := Aside0.mk hr0_5; have z1b := Aside0.mk hc0_5; clear hr0_5 hc0_5; have z1m := Aside0.mk hr0_6; have z1c := Aside0.mk hc0_6; clear hr0_6 hc0_6; have z1n := Aside0.mk hr0_7; have z1d := Aside0.mk hc0_7; clear hr0_7 hc0_7; have z1o := Aside0.mk hr0_8; have z1e := Aside0.mk hc0_8; clear hr0_8 hc0_8; have z1p := Aside0.mk hr0_9; have z1f := Aside0.mk hc0_9; clear hr0_9 hc0_9; have zM := Aside0.mk hr0_10; have z17 := Aside0.mk hc0_10; clear hr0_10 hc0_10; have HB := Aside0.mk (Below.refl w.heap.size w); have H : (gatehouseref08_excepted.l0 k 0 z5 z6 z7 z8 z9 za zb zc zd ze z0 a1_0 a1_1 a1_2) = some r := h; clear h; have H' := Aside0.mk H; clear H
 go_enter Try.func59, Try.ntmps59
 go_wp2_with (first | ((with_reducible refine gate_dst (N := 2) rfl ?_); refine box_event ?hg (N := 2) ?hd (cs := #[.slice zg z5.length zr, .slice zh z6.length zs, .slice zj z7.length zu, .slice zk z8.length zv, .slice zl z9.length zw, .slice zm za.length zx, .slice zn zb.length zy, .slice zo zc.length zz, .slice zp zd.length zA, .slice zq ze.length zB, .slice zi z0.length zt]) (t := 34) ?hr ?_; (case hd => rfl); (case hg => rfl); (case hr => first | (go_simp; done) | (go_simp; rfl)); intro z3 hg w3 hbox hb; have z2 := Aside0.mk (hbox); have zK := Aside0.mk ((by rw [hg]; exact (below_size (hW HB)) : w.heap.size ≤ z3)); have zI := Aside0.mk ((by rw [hg]; exact (below_size (hW HB)) : w.heap.size ≤ z3)); replace HB := hF HB hb; clear hb hbox hg) | ((with_reducible refine gate_dst (N := 3) rfl ?_); refine box_event ?hg (N := 3) ?hd (cs := #[.string a1_0, .string a1_1, .string a1_2]) (t := 36) ?hr ?_; (case hd => rfl); (case hg => rfl); (case hr => first | (go_simp; done) | (go_simp; rfl)); intro z4 hg w4 hbox hb; have zf := Aside0.mk (hbox); have zL := Aside0.mk ((by rw [hg]; exact (below_size (hW HB)) : w.heap.size ≤ z4)); have zJ := Aside0.mk ((by rw [hg]; exact (below_size (hW HB)) : w.heap.size ≤ z4)); replace HB := hF HB hb; have zC := Aside0.mk ((by rw [hg]; exact Nat.ne_of_lt (bL z2) : z3 ≠ z4)); have zD := Aside0.mk ((by rw [hg]; exact Nat.ne_of_gt (bL z2) : z4 ≠ z3)); replace z2 := kF z2 hb; clear hb hbox hg))
 repeat (go_quiet (first | ((with_reducible refine gate_dst (N := 2) rfl ?_); refine box_event ?hg (N := 2) ?hd (cs := #[.slice zg z5.length zr, .slice zh z6.length zs, .slice zj z7.length zu, .slice zk z8.length zv, .slice zl z9.length zw, .slice zm za.length zx, .slice zn zb.length zy, .slice zo zc.length zz, .slice zp zd.length zA, .slice zq ze.length zB, .slice zi z0.length zt]) (t := 34) ?hr ?_; (case hd => rfl); (case hg => rfl); (case hr => first | (go_simp; done) | (go_simp; rfl)); intro z3 hg w3 hbox hb; have z2 := Aside0.mk (hbox); have zK := Aside0.mk ((by rw [hg]; exact (below_size (hW HB)) : w.heap.size ≤ z3)); have zI := Aside0.mk ((by rw [hg]; exact (below_size (hW HB)) : w.heap.size ≤ z3)); replace HB := hF HB hb; clear hb hbox hg) | ((with_reducible refine gate_dst (N := 3) rfl ?_); refine box_event ?hg (N := 3) ?hd (cs := #[.string a1_0, .string a1_1, .string a1_2]) (t := 36) ?hr ?_; (case hd => rfl); (case hg => rfl); (case hr => first | (go_simp; done) | (go_simp; rfl)); intro z4 hg w4 hbox hb; have zf := Aside0.mk (hbox); have zL := Aside0.mk ((by rw [hg]; exact (below_size (hW HB)) : w.heap.size ≤ z4)); have zJ := Aside0.mk ((by rw [hg]; exact (below_size (hW HB)) : w.heap.size ≤ z4)); replace HB := hF HB hb; have zC := Aside0.mk ((by rw [hg]; exact Nat.ne_of_lt (bL z2) : z3 ≠ z4)); have zD := Aside0.mk ((by rw [hg]; exact Nat.ne_of_gt (bL z2) : z4 ≠ z3)); replace z2 := kF z2 hb; clear hb hbox hg)); try go_wp2_with (first | ((with_reducible refine gate_dst (N := 2) rfl ?_); refine box_event ?hg (N := 2) ?hd (cs := #[.slice zg z5.length zr, .slice zh z6.length zs, .slice zj z7.length zu, .slice zk z8.length zv, .slice zl z9.length zw, .slice zm za.length zx, .slice zn zb.length zy, .slice zo zc.length zz, .slice zp zd.length zA, .slice zq ze.length zB, .slice zi z0.length zt]) (t := 34) ?hr ?_; (case hd => rfl); (case hg => rfl); (case hr => first | (go_simp; done) | (go_simp; rfl)); intro z3 hg w3 hbox hb; have z2 := Aside0.mk (hbox); have zK := Aside0.mk ((by rw [hg]; exact (below_size (hW HB)) : w.heap.size ≤ z3)); have zI := Aside0.mk ((by rw [hg]; exact (below_size (hW HB)) : w.heap.size ≤ z3)); replace HB := hF HB hb; clear hb hbox hg) | ((with_reducible refine gate_dst (N := 3) rfl ?_); refine box_event ?hg (N := 3) ?hd (cs := #[.string a1_0, .string a1_1, .string a1_2]) (t := 36) ?hr ?_; (case hd => rfl); (case hg => rfl); (case hr => first | (go_simp; done) | (go_simp; rfl)); intro z4 hg w4 hbox hb; have zf := Aside0.mk (hbox); have zL := Aside0.mk ((by rw [hg]; exact (below_size (hW HB)) : w.heap.size ≤ z4)); have zJ := Aside0.mk ((by rw [hg]; exact (below_size (hW HB)) : w.heap.size ≤ z4)); replace HB := hF HB hb; have zC := Aside0.mk ((by rw [hg]; exact Nat.ne_of_lt (bL z2) : z3 ≠ z4)); have zD := Aside0.mk ((by rw [hg]; exact Nat.ne_of_gt (bL z2) : z4 ≠ z3)); replace z2 := kF z2 hb; clear hb hbox hg)))
 go_loopg [5] k (fun kq v5 w' => ∃ (z1 : Int), v5 = .int .i64 z1 ∧ Aside0 (gatehouseref08_excepted.l0 kq z1 z5 z6 z7 z8 z9 za zb zc zd ze z0 a1_0 a1_1 a1_2 = some r) ∧ Aside0 (kq ≤ k) ∧ Aside0 (w'.heap[z3]? = some (.cells #[(.slice zg z5.length zr), (.slice zh z6.length zs), (.slice zj z7.length zu), (.slice zk z8.length zv), (.slice zl z9.length zw), (.slice zm za.length zx), (.slice zn zb.length zy), (.slice zo zc.length zz), (.slice zp zd.length zA), (.slice zq ze.length zB), (.slice zi z0.length zt)] 34 (0, 0))) ∧ Aside0 (w'.heap[z4]? = some (.cells #[.string a1_0, .string a1_1, .string a1_2] 36 (0, 0))) ∧ Aside0 (Below w.heap.size w w'))
 case atStart => exact ⟨(0), (by first | rfl | (simp; done) | (simp [*]; done)), H', ⟨Nat.le_refl _⟩, ⟨bE z2⟩, ⟨bE zf⟩, ⟨hW HB⟩⟩
 case round =>
  clear H'
  try clear p2
  obtain ⟨z1, rfl, HA, HK1, z2, zf, HB⟩ := hrel
  cases gk with
  | zero => exact absurd HA.out (by simp [gatehouseref08_excepted.l0])
  | succ k1 =>
   have H := HA.out; clear HA
   simp only [gatehouseref08_excepted.l0] at H
   by_cases c5 : z1 < (z0.length : Int)
   ·rw [if_pos c5] at H
    have zR : decide (z1 < (z0.length : Int)) = true := decide_eq_true c5; clear c5
    by_cases c6 : 0 ≤ z1
    ·rw [if_pos c6] at H
     have z1q : decide (0 ≤ z1) = true := decide_eq_true c6; clear c6
     by_cases c7 : ((((rd_T36 z0 z1).f0).toList) == a1_0.toList && ((((rd_T36 z0 z1).f1).toList) == a1_1.toList && ((((rd_T36 z0 z1).f2).toList) == a1_2.toList))) = true
     ·rw [if_pos c7] at H
      have zS : ((((rd_T36 z0 z1).f0).toList) == a1_0.toList && ((((rd_T36 z0 z1).f1).toList) == a1_1.toList && ((((rd_T36 z0 z1).f2).toList) == a1_2.toList))) = true := c7
      (try (have zT : decide ((((rd_T36 z0 z1).f0).toList) = a1_0.toList && ((((rd_T36 z0 z1).f1).toList) == a1_1.toList && ((((rd_T36 z0 z1).f2).toList) == a1_2.toList))) = true := by simpa using c7))
      (try (have zU : ((((rd_T36 z0 z1).f0).toList) == a1_0.toList && ((((rd_T36 z0 z1).f1).toList) == a1_1.toList && ((((rd_T36 z0 z1).f2).toList) == a1_2.toList))) = true := by simpa using c7))
      clear c7
      obtain rfl := Option.some.inj H
      have z2K := zC.out; have z2N := zD.out; obtain ⟨z1U, z1V, z1X, z1Y, z1Z, z20, z21, z22, z23, z24, z1W, z2x, z2y, z2A, z2B, z2C, z2D, z2E, z2F, z2G, z2H, z2z⟩ := bC11 z2; have p309 : 0 ≤ (z1 : Int) := of_decide_eq_true (by first | (with_reducible assumption) | assumption); have q309 : z1 < (z0.length : Int) := of_decide_eq_true (by first | (with_reducible assumption) | assumption); obtain ⟨zQ, e309, zE, zF, zG⟩ := at_T36 zM.out z1 p309 q309
      cases e309
      replace zE := hC HB zE; replace zF := hC HB zF; replace zG := hC HB zG; replace p309 := eq_true p309; replace q309 := eq_true q309; obtain ⟨z1s, z1t, z1u, z25, z26, z27⟩ := bC3 zf
      go_wp2
      repeat (go_quiet (fail); try go_wp2)
      go_ret
      exact ⟨by first | rfl | (simp [errW_none, errW_some] <;> rfl) | (simp [*, errW_none, errW_some] <;> rfl), by repeat (first | (with_reducible first | exact HB.out | apply below_alloc | apply pw_below_drewN | apply below_drew1 | refine below_set ?_ zI.out | refine below_set ?_ zJ.out) | exact HB.out)⟩
     ·rw [if_neg c7] at H
      have zS : ((((rd_T36 z0 z1).f0).toList) == a1_0.toList && ((((rd_T36 z0 z1).f1).toList) == a1_1.toList && ((((rd_T36 z0 z1).f2).toList) == a1_2.toList))) = false := by simpa using c7
      (try (have zT : decide ((((rd_T36 z0 z1).f0).toList) = a1_0.toList && ((((rd_T36 z0 z1).f1).toList) == a1_1.toList && ((((rd_T36 z0 z1).f2).toList) == a1_2.toList))) = false := by simpa using c7))
      (try (have zU : ((((rd_T36 z0 z1).f0).toList) == a1_0.toList && ((((rd_T36 z0 z1).f1).toList) == a1_1.toList && ((((rd_T36 z0 z1).f2).toList) == a1_2.toList))) = false := by simpa using c7))
      (try (have z1r : ¬ ((((rd_T36 z0 z1).f0).toList) = a1_0.toList && ((((rd_T36 z0 z1).f1).toList) == a1_1.toList && ((((rd_T36 z0 z1).f2).toList) == a1_2.toList))) := by simpa using c7))
      clear c7; have H' := Aside0.mk H; clear H; have z2I := zC.out; have z2L := zD.out; obtain ⟨z1v, z1w, z1y, z1z, z1A, z1B, z1C, z1D, z1E, z1F, z1x, z28, z29, z2b, z2c, z2d, z2e, z2f, z2g, z2h, z2i, z2a⟩ := bC11 z2; have p309 : 0 ≤ (z1 : Int) := of_decide_eq_true (by first | (with_reducible assumption) | assumption); have q309 : z1 < (z0.length : Int) := of_decide_eq_true (by first | (with_reducible assumption) | assumption); obtain ⟨zQ, e309, zE, zF, zG⟩ := at_T36 zM.out z1 p309 q309
      cases e309
      replace zE := hC HB zE; replace zF := hC HB zF; replace zG := hC HB zG; replace p309 := eq_true p309; replace q309 := eq_true q309; obtain ⟨z1G, z1H, z1I, z2j, z2k, z2l⟩ := bC3 zf
      go_wp2
      repeat (go_quiet (fail); try go_wp2)
      go_roundg k1
      case measure => have := HK1.out; omega
      case rel => exact ⟨(wrap64 (z1 + 1)), (by first | rfl | (simp; done) | (simp [*]; done)), H', ⟨by have := HK1.out; omega⟩, ⟨bE z2⟩, ⟨bE zf⟩, ⟨hW HB⟩⟩
    ·rw [if_neg c6] at H
     exact absurd H (by simp)
   ·rw [if_neg c5] at H
    have zR : decide (z1 < (z0.length : Int)) = false := decide_eq_false c5; clear c5
    obtain rfl := Option.some.inj H
    have z2J := zC.out; have z2M := zD.out; obtain ⟨z1J, z1K, z1M, z1N, z1O, z1P, z1Q, z1R, z1S, z1T, z1L, z2m, z2n, z2p, z2q, z2r, z2s, z2t, z2u, z2v, z2w, z2o⟩ := bC11 z2
    go_wp2
    repeat (go_quiet (fail); try go_wp2)
    go_ret
    exact ⟨by first | rfl | (simp [errW_none, errW_some] <;> rfl) | (simp [*, errW_none, errW_some] <;> rfl), by repeat (first | (with_reducible first | exact HB.out | apply below_alloc | apply pw_below_drewN | apply below_drew1 | refine below_set ?_ zI.out | refine below_set ?_ zJ.out) | exact HB.out)⟩

/-! ### gatehouseref08_Allows: function 23 -/
mutual
def gatehouseref08_Allows.l0 : Nat → Bool → Bool → Int → List ByteArray → List (S57) → List ByteArray → List ByteArray → List ByteArray → List (S86) → List (S86) → List (S86) → List (S86) → List (S27) → List (S36) → ByteArray → ByteArray → ByteArray → Option (Bool)
 | 0, _, _, _, _, _, _, _, _, _, _, _, _, _, _, _, _, _ => none
 | k + 1, x5, x6, x7, zi, zj, zk, zl, zm, zn, zo, zp, zq, zg, zr, zs, zt, zu => if x7 < (zg.length : Int) then (if 0 ≤ x7 then ((gatehouseref08_Matches.f k zi zj zk zl zm zn zo zp zq zg zr ((rd_T27 zg x7).f0) ((rd_T27 zg x7).f1) ((rd_T27 zg x7).f2) ((rd_T27 zg x7).f3) ((rd_T27 zg x7).f4) ((rd_T27 zg x7).f5) zs zt zu).bind fun t314 => (if t314 = true then (gatehouseref08_Allows.j1 k x5 x6 x7 t314 ((rd_T27 zg x7).f0) zi zj zk zl zm zn zo zp zq zg zr zs zt zu) else (gatehouseref08_Allows.j1 k x5 x6 x7 t314 false zi zj zk zl zm zn zo zp zq zg zr zs zt zu))) else (none)) else ((gatehouseref08_excepted.f k zi zj zk zl zm zn zo zp zq zg zr zs zt zu).bind fun t312 => (if x5 = true then (if x6 = true then (some false) else (some (!t312))) else (some false)))
def gatehouseref08_Allows.j1 : Nat → Bool → Bool → Int → Bool → Bool → List ByteArray → List (S57) → List ByteArray → List ByteArray → List ByteArray → List (S86) → List (S86) → List (S86) → List (S86) → List (S27) → List (S36) → ByteArray → ByteArray → ByteArray → Option (Bool)
 | 0, _, _, _, _, _, _, _, _, _, _, _, _, _, _, _, _, _, _, _ => none
 | k + 1, x5, x6, x7, x8, x33, zi, zj, zk, zl, zm, zn, zo, zp, zq, zg, zr, zs, zt, zu => if x33 = true then (if x8 = true then (if 0 ≤ x7 then (if x7 < (zg.length : Int) then (if ((rd_T27 zg x7).f0 = true) then (gatehouseref08_Allows.l0 k x5 true (wrap64 (x7 + 1)) zi zj zk zl zm zn zo zp zq zg zr zs zt zu) else (gatehouseref08_Allows.l0 k true true (wrap64 (x7 + 1)) zi zj zk zl zm zn zo zp zq zg zr zs zt zu)) else (none)) else (none)) else (gatehouseref08_Allows.l0 k x5 true (wrap64 (x7 + 1)) zi zj zk zl zm zn zo zp zq zg zr zs zt zu)) else (if x8 = true then (if 0 ≤ x7 then (if x7 < (zg.length : Int) then (if ((rd_T27 zg x7).f0 = true) then (gatehouseref08_Allows.l0 k x5 x6 (wrap64 (x7 + 1)) zi zj zk zl zm zn zo zp zq zg zr zs zt zu) else (gatehouseref08_Allows.l0 k true x6 (wrap64 (x7 + 1)) zi zj zk zl zm zn zo zp zq zg zr zs zt zu)) else (none)) else (none)) else (gatehouseref08_Allows.l0 k x5 x6 (wrap64 (x7 + 1)) zi zj zk zl zm zn zo zp zq zg zr zs zt zu))
end
def gatehouseref08_Allows.f (k : Nat) (z3 : List ByteArray) (z4 : List (S57)) (z6 : List ByteArray) (z7 : List ByteArray) (z8 : List ByteArray) (z9 : List (S86)) (za : List (S86)) (zb : List (S86)) (zc : List (S86)) (z1 : List (S27)) (z5 : List (S36)) (a1_0 : ByteArray) (a1_1 : ByteArray) (a1_2 : ByteArray) : Option (Bool) := gatehouseref08_Allows.l0 k false false 0 z3 z4 z6 z7 z8 z9 za zb zc z1 z5 a1_0 a1_1 a1_2
def gatehouseref08_Allows.T6 : Bool × List (List Nat × List Nat) := (true, [([], []), ([], []), ([1], [1]), ([], []), ([2, 3], [2, 3]), ([4], [4]), ([], []), ([0, 5, 6], [0, 5, 6]), ([7, 7, 0, 1, 2, 3, 4, 5, 6, 7], [7])])
def gatehouseref08_Allows.B6 : List Nat := [0, 0, 2, 0, 14, 30, 0, 127, 255]
theorem gatehouseref08_Allows.tab6 : rtab .any (opsOf Try.f23 6) = gatehouseref08_Allows.T6 := by kernel_rfl
theorem gatehouseref08_Allows.bits6 : waitsOk gatehouseref08_Allows.T6.2 gatehouseref08_Allows.B6 = true := by kernel_rfl
set_option maxHeartbeats 8000000 in
set_option maxRecDepth 100000 in
theorem gatehouseref08_Allows.calls (k : Nat) (zv : Option Addr) (zG : Nat) (z3 : List ByteArray) (zw : Option Addr) (zH : Nat) (z4 : List (S57)) (zy : Option Addr) (zJ : Nat) (z6 : List ByteArray) (zz : Option Addr) (zK : Nat) (z7 : List ByteArray) (zA : Option Addr) (zL : Nat) (z8 : List ByteArray) (zB : Option Addr) (zM : Nat) (z9 : List (S86)) (zC : Option Addr) (zN : Nat) (za : List (S86)) (zD : Option Addr) (zO : Nat) (zb : List (S86)) (zE : Option Addr) (zP : Nat) (zc : List (S86)) (zV : Option Addr) (zQ : Nat) (z1 : List (S27)) (zx : Option Addr) (zI : Nat) (z5 : List (S36)) (a1_0 : ByteArray) (a1_1 : ByteArray) (a1_2 : ByteArray) (r : Bool) (w : World) (hr0_0 : Kd.C Kd.string w zv z3.length z3) (hc0_0 : z3.length ≤ zG) (hr0_1 : Kd.C k57 w zw z4.length z4) (hc0_1 : z4.length ≤ zH) (hr0_2 : Kd.C Kd.string w zy z6.length z6) (hc0_2 : z6.length ≤ zJ) (hr0_3 : Kd.C Kd.string w zz z7.length z7) (hc0_3 : z7.length ≤ zK) (hr0_4 : Kd.C Kd.string w zA z8.length z8) (hc0_4 : z8.length ≤ zL) (hr0_5 : Kd.C k86 w zB z9.length z9) (hc0_5 : z9.length ≤ zM) (hr0_6 : Kd.C k86 w zC za.length za) (hc0_6 : za.length ≤ zN) (hr0_7 : Kd.C k86 w zD zb.length zb) (hc0_7 : zb.length ≤ zO) (hr0_8 : Kd.C k86 w zE zc.length zc) (hc0_8 : zc.length ≤ zP) (hr0_9 : Kd.C k27 w zV z1.length z1) (hc0_9 : z1.length ≤ zQ) (hr0_10 : Kd.C k36 w zx z5.length z5) (hc0_10 : z5.length ≤ zI) (h : gatehouseref08_Allows.f k z3 z4 z6 z7 z8 z9 za zb zc z1 z5 a1_0 a1_1 a1_2 = some r) :
  Calls Try.prog 23 #[.agg #[.slice zv z3.length zG, .slice zw z4.length zH, .slice zy z6.length zJ, .slice zz z7.length zK, .slice zA z8.length zL, .slice zB z9.length zM, .slice zC za.length zN, .slice zD zb.length zO, .slice zE zc.length zP, .slice zV z1.length zQ, .slice zx z5.length zI], .agg #[.string a1_0, .string a1_1, .string a1_2]] w fun e w' => e = .returned (.bool r) ∧ Below w.heap.size w w' := by
 have hu34 := Try.underlying34; have hu36 := Try.underlying36; have hu27 := Try.underlying27; have z1v := Aside0.mk hr0_0; have z1k := Aside0.mk hc0_0; clear hr0_0 hc0_0; have z1w := Aside0.mk hr0_1; have z1l := Aside0.mk hc0_1; clear hr0_1 hc0_1; have z1y := Aside0.mk hr0_2; have z1n := Aside0.mk hc0_2; clear hr0_2 hc0_2; have z1z := Aside0.mk hr0_3; have z1o := Aside0.mk hc0_3; clear hr0_3 hc0_3; have z1A := Aside0.mk hr0_4; have z1p := Aside0.mk hc0_4; clear hr0_4 hc0_4; have z1B := Aside0.mk hr0_5; have z1q := Aside0.mk hc0_5; clear hr0_5 hc0_5; have z1C := Aside0.mk hr0_6; have z1r := Aside0.mk hc0_6; clear hr0_6 hc0_6; have z1D := Aside0.mk hr0_7; have z1s := Aside0.mk hc0_7; clear hr0_7 hc0_7; have z1E := Aside0.mk hr0_8; have z1t := Aside0.mk hc0_8; clear hr0_8 hc0_8; have zF := Aside0.mk hr0_9; have z1u := Aside0.mk hc0_9; clear hr0_9 hc0_9; have z1x := Aside0.mk hr0_10; have z1m := Aside0.mk hc0_10; clear hr0_10 hc0_10; have HB := Aside0.mk (Below.refl w.heap.size w); have H : (gatehouseref08_Allows.l0 k false false 0 z3 z4 z6 z7 z8 z9 za zb zc z1 z5 a1_0 a1_1 a1_2) = some r := h; clear h; have H' := Aside0.mk H; clear H
 go_enter Try.func23, Try.ntmps23
 go_wp2_with (first | ((with_reducible refine gate_dst (N := 2) rfl ?_); refine box_event ?hg (N := 2) ?hd (cs := #[.slice zv z3.length zG, .slice zw z4.length zH, .slice zy z6.length zJ, .slice zz z7.length zK, .slice zA z8.length zL, .slice zB z9.length zM, .slice zC za.length zN, .slice zD zb.length zO, .slice zE zc.length zP, .slice zV z1.length zQ, .slice zx z5.length zI]) (t := 34) ?hr ?_; (case hd => rfl); (case hg => rfl); (case hr => first | (go_simp; done) | (go_simp; rfl)); intro zW hg w3 hbox hb; have z2 := Aside0.mk (hbox); have z30 := Aside0.mk ((by rw [hg]; exact (below_size (hW HB)) : w.heap.size ≤ zW)); have z1M := Aside0.mk ((by rw [hg]; exact (below_size (hW HB)) : w.heap.size ≤ zW)); replace HB := hF HB hb; clear hb hbox hg) | ((with_reducible refine gate_dst (N := 3) rfl ?_); refine box_event ?hg (N := 3) ?hd (cs := #[.string a1_0, .string a1_1, .string a1_2]) (t := 36) ?hr ?_; (case hd => rfl); (case hg => rfl); (case hr => first | (go_simp; done) | (go_simp; rfl)); intro zX hg w4 hbox hb; have zd := Aside0.mk (hbox); have z31 := Aside0.mk ((by rw [hg]; exact (below_size (hW HB)) : w.heap.size ≤ zX)); have z1N := Aside0.mk ((by rw [hg]; exact (below_size (hW HB)) : w.heap.size ≤ zX)); replace HB := hF HB hb; have zR := Aside0.mk ((by rw [hg]; exact Nat.ne_of_lt (bL z2) : zW ≠ zX)); have zS := Aside0.mk ((by rw [hg]; exact Nat.ne_of_gt (bL z2) : zX ≠ zW)); replace z2 := kF z2 hb; clear hb hbox hg))
 go_loopg [5, 6, 7] k (fun kq v5 v6 v7 w' => ∃ (ze : Bool) (zf : Bool) (z0 : Int), v5 = .bool ze ∧ v6 = .bool zf ∧ v7 = .int .i64 z0 ∧ Aside0 (gatehouseref08_Allows.l0 kq ze zf z0 z3 z4 z6 z7 z8 z9 za zb zc z1 z5 a1_0 a1_1 a1_2 = some r) ∧ Aside0 (kq ≤ k) ∧ Aside0 (w'.heap[zW]? = some (.cells #[(.slice zv z3.length zG), (.slice zw z4.length zH), (.slice zy z6.length zJ), (.slice zz z7.length zK), (.slice zA z8.length zL), (.slice zB z9.length zM), (.slice zC za.length zN), (.slice zD zb.length zO), (.slice zE zc.length zP), (.slice zV z1.length zQ), (.slice zx z5.length zI)] 34 (0, 0))) ∧ Aside0 (w'.heap[zX]? = some (.cells #[.string a1_0, .string a1_1, .string a1_2] 36 (0, 0))) ∧ Aside0 (Below w.heap.size w w'))
 case atStart => exact ⟨(false), (false), (0), (by first | rfl | (simp; done) | (simp [*]; done)), (by first | rfl | (simp; done) | (simp [*]; done)), (by first | rfl | (simp; done) | (simp [*]; done)), H', ⟨Nat.le_refl _⟩, ⟨bE z2⟩, ⟨bE zd⟩, ⟨hW HB⟩⟩
 case round =>
  clear H'
  try clear c2
  try clear p2
  obtain ⟨ze, zf, z0, rfl, rfl, rfl, HA, HK1, z2, zd, HB⟩ := hrel
  cases gk with
  | zero => exact absurd HA.out (by simp [gatehouseref08_Allows.l0])
  | succ k1 =>
   have H := HA.out; clear HA
   simp only [gatehouseref08_Allows.l0] at H
   by_cases c5 : z0 < (z1.length : Int)
   ·rw [if_pos c5] at H
    have z1Z : decide (z0 < (z1.length : Int)) = true := decide_eq_true c5; clear c5
    by_cases c6 : 0 ≤ z0
    ·rw [if_pos c6] at H
     have z2e : decide (0 ≤ z0) = true := decide_eq_true c6; clear c6; replace H := Option.bind_eq_some_iff.mp H; obtain ⟨t314, A70, H⟩ := H; replace H : (if t314 = true then (gatehouseref08_Allows.j1 k1 ze zf z0 t314 ((rd_T27 z1 z0).f0) z3 z4 z6 z7 z8 z9 za zb zc z1 z5 a1_0 a1_1 a1_2) else (gatehouseref08_Allows.j1 k1 ze zf z0 t314 false z3 z4 z6 z7 z8 z9 za zb zc z1 z5 a1_0 a1_1 a1_2)) = some r := H; have A7 := Aside0.mk A70; clear A70; have HC8 := Aside0.mk H; clear H; have z63 := zR.out; have z6c := zS.out; obtain ⟨z2f, z2g, z2i, z2j, z2k, z2l, z2m, z2n, z2o, z2p, z2h, z2B, z2C, z2E, z2F, z2G, z2H, z2I, z2J, z2K, z2L, z2D⟩ := bC11 z2
     try go_wp2
     replace z2 := kD z2; replace zd := kD zd; replace HB := Aside0.mk (below_drew1 HB.out); have p313 : 0 ≤ (z0 : Int) := of_decide_eq_true (by first | (with_reducible assumption) | assumption); have q313 : z0 < (z1.length : Int) := of_decide_eq_true (by first | (with_reducible assumption) | assumption); obtain ⟨zh, z1W, z1Y, e313, z14, z15, z16, z17, z18, z19, z22, z20⟩ := at_T27 zF.out z0 p313 q313; have z1K := z19; have z1J := z18; have z1I := z17; have z1H := z16; have z1G := z15; have z1F := z14
     cases e313
     replace z14 := hC HB z14; replace z15 := hC HB z15; replace z16 := hC HB z16; replace z17 := hC HB z17; replace z18 := hC HB z18; replace z19 := hC HB z19; have z1X := Aside0.mk z20; have z26 := Aside0.mk z22; clear z20 z22; replace p313 := eq_true p313; replace q313 := eq_true q313
     refine start_ (n := 9) (S := fun w' => sN11 w' zW (.slice zv z3.length zG) (.slice zw z4.length zH) (.slice zy z6.length zJ) (.slice zz z7.length zK) (.slice zA z8.length zL) (.slice zB z9.length zM) (.slice zC za.length zN) (.slice zD zb.length zO) (.slice zE zc.length zP) (.slice (some zh) z1.length zQ) (.slice zx z5.length zI) (sN3 w' zX (.string a1_0) (.string a1_1) (.string a1_2) (w'.cell? (zh.add ((z0).toNat * 6)) = some (.bool ((rd_T27 z1 z0).f0)) ∧ w'.cell? ⟨(zh.add ((z0).toNat * 6)).block, (zh.add ((z0).toNat * 6)).off + 1, none⟩ = some (.string ((rd_T27 z1 z0).f1)) ∧ w'.cell? ⟨(zh.add ((z0).toNat * 6)).block, (zh.add ((z0).toNat * 6)).off + 2, none⟩ = some (.string ((rd_T27 z1 z0).f2)) ∧ w'.cell? ⟨(zh.add ((z0).toNat * 6)).block, (zh.add ((z0).toNat * 6)).off + 3, none⟩ = some (.slice z1W ((rd_T27 z1 z0).f3).length z1Y) ∧ w'.cell? ⟨(zh.add ((z0).toNat * 6)).block, (zh.add ((z0).toNat * 6)).off + 4, none⟩ = some (.int .i8 ((rd_T27 z1 z0).f4)) ∧ w'.cell? ⟨(zh.add ((z0).toNat * 6)).block, (zh.add ((z0).toNat * 6)).off + 5, none⟩ = some (.float .f64 ((rd_T27 z1 z0).f5))))) (ds := []) #[false, false, false, false, false, false, false, false, false] (by kernel_rfl) rfl rfl ⟨(blk_cell z2.out 0).trans rfl, (blk_cell z2.out 1).trans rfl, (blk_cell z2.out 2).trans rfl, (blk_cell z2.out 3).trans rfl, (blk_cell z2.out 4).trans rfl, (blk_cell z2.out 5).trans rfl, (blk_cell z2.out 6).trans rfl, (blk_cell z2.out 7).trans rfl, (blk_cell z2.out 8).trans rfl, (blk_cell z2.out 9).trans rfl, (blk_cell z2.out 10).trans rfl, (blk_cell zd.out 0).trans rfl, (blk_cell zd.out 1).trans rfl, (blk_cell zd.out 2).trans rfl, ((HB.out.cell (World.block_lt_of_cell? w _ z1F)).trans z1F), ((HB.out.cell (World.block_lt_of_cell? w _ z1G)).trans z1G), ((HB.out.cell (World.block_lt_of_cell? w _ z1H)).trans z1H), ((HB.out.cell (World.block_lt_of_cell? w _ z1I)).trans z1I), ((HB.out.cell (World.block_lt_of_cell? w _ z1J)).trans z1J), ((HB.out.cell (World.block_lt_of_cell? w _ z1K)).trans z1K)⟩ (fun hHeld => ?_); refine with_tabW gatehouseref08_Allows.tab6 gatehouseref08_Allows.bits6 (fun HT_ HW_ => ?_)
     generalize wr.drew = w11 at z2 zd HB z1X z14 z15 z16 z17 z18 z19 hHeld ⊢; refine pT 1 18 HT_ rfl ?_; refine pT 3 20 HT_ rfl ?_; refine tT 0 17 HT_ rfl HW_ hHeld (by (rintro w' ⟨s0, s1, s2, s3, s4, s5, s6, s7, s8, s9, s10, s11, s12, s13, s14, s15, s16, s17, s18, s19⟩; go_simp; with_reducible rfl)) ?_; refine tT 2 19 HT_ rfl HW_ hHeld (by (rintro w' ⟨s0, s1, s2, s3, s4, s5, s6, s7, s8, s9, s10, s11, s12, s13, s14, s15, s16, s17, s18, s19⟩; go_simp; with_reducible rfl)) ?_; refine pT 4 21 HT_ rfl ?_; refine tT 5 22 HT_ rfl HW_ hHeld (by (rintro w' ⟨s0, s1, s2, s3, s4, s5, s6, s7, s8, s9, s10, s11, s12, s13, s14, s15, s16, s17, s18, s19⟩; go_simp; with_reducible rfl)) ?_; refine tT 6 23 HT_ rfl HW_ hHeld (by (rintro w' ⟨s0, s1, s2, s3, s4, s5, s6, s7, s8, s9, s10, s11, s12, s13, s14, s15, s16, s17, s18, s19⟩; go_simp; with_reducible rfl)) ?_
     refine one_ (i := 7) (N := some 24) #[true, true, true, true, true, true, true, true, false] rfl rfl (one_of HT_.out (by kernel_rfl)) (by decide) (fun K hK => ?_)
     refine goes_ Try.func20 (by kernel_rfl) rfl #[.agg #[.slice zv z3.length zG, .slice zw z4.length zH, .slice zy z6.length zJ, .slice zz z7.length zK, .slice zA z8.length zL, .slice zB z9.length zM, .slice zC za.length zN, .slice zD zb.length zO, .slice zE zc.length zP, .slice (some zh) z1.length zQ, .slice zx z5.length zI], .agg #[.bool ((rd_T27 z1 z0).f0), .string ((rd_T27 z1 z0).f1), .string ((rd_T27 z1 z0).f2), .slice z1W ((rd_T27 z1 z0).f3).length z1Y, .int .i8 ((rd_T27 z1 z0).f4), .float .f64 ((rd_T27 z1 z0).f5)], .agg #[.string a1_0, .string a1_1, .string a1_2]] (by rfl) rfl rfl (by (try simp only [List.map_toArray, List.map_cons, List.map_nil]); first | done | rfl | (simp only [List.length_drop, List.length_take]; rfl)) ?_
     with_reducible refine (gatehouseref08_Matches.calls k1 _ _ z3 _ _ z4 _ _ z6 _ _ z7 _ _ z8 _ _ z9 _ _ za _ _ zb _ _ zc _ _ z1 _ _ z5 ((rd_T27 z1 z0).f0) ((rd_T27 z1 z0).f1) ((rd_T27 z1 z0).f2) _ _ ((rd_T27 z1 z0).f3) ((rd_T27 z1 z0).f4) ((rd_T27 z1 z0).f5) a1_0 a1_1 a1_2 t314 _ ?side1 ?side2 ?side3 ?side4 ?side5 ?side6 ?side7 ?side8 ?side9 ?side10 ?side11 ?side12 ?side13 ?side14 ?side15 ?side16 ?side17 ?side18 ?side19 ?side20 ?side21 ?side22 ?side23 ?side24 (by have h_ := A7.out; first | exact h_ | (rw [← zT.out] at h_; exact h_) | (rw [← zU.out] at h_; exact h_))).mono ?_
     (case side1 => exact cE (Kd.C_below z1v.out HB.out)); (case side2 => exact z1k.out); (case side3 => exact cE (Kd.C_below z1w.out HB.out)); (case side4 => exact z1l.out); (case side5 => exact cE (Kd.C_below z1y.out HB.out)); (case side6 => exact z1n.out); (case side7 => exact cE (Kd.C_below z1z.out HB.out)); (case side8 => exact z1o.out); (case side9 => exact cE (Kd.C_below z1A.out HB.out)); (case side10 => exact z1p.out); (case side11 => exact cE (Kd.C_below z1B.out HB.out)); (case side12 => exact z1q.out); (case side13 => exact cE (Kd.C_below z1C.out HB.out)); (case side14 => exact z1r.out); (case side15 => exact cE (Kd.C_below z1D.out HB.out)); (case side16 => exact z1s.out); (case side17 => exact cE (Kd.C_below z1E.out HB.out)); (case side18 => exact z1t.out); (case side19 => exact cE (Kd.C_below zF.out HB.out)); (case side20 => exact z1u.out); (case side21 => exact cE (Kd.C_below z1x.out HB.out)); (case side22 => exact z1m.out); (case side23 => exact cE (Kd.C_below z1X.out HB.out)); (case side24 => exact z26.out)
     rintro e w12 ⟨rfl, hb⟩
     refine ⟨_, rfl, ?_⟩
     replace z2 := kF z2 hb; replace zd := kF zd hb; replace HB := hF HB hb; (try clear hb); (try clear hb2); (try clear hk); (try clear hi)
     refine hK.out _ _ ⟨(blk_cell z2.out 0).trans rfl, (blk_cell z2.out 1).trans rfl, (blk_cell z2.out 2).trans rfl, (blk_cell z2.out 3).trans rfl, (blk_cell z2.out 4).trans rfl, (blk_cell z2.out 5).trans rfl, (blk_cell z2.out 6).trans rfl, (blk_cell z2.out 7).trans rfl, (blk_cell z2.out 8).trans rfl, (blk_cell z2.out 9).trans rfl, (blk_cell z2.out 10).trans rfl, (blk_cell zd.out 0).trans rfl, (blk_cell zd.out 1).trans rfl, (blk_cell zd.out 2).trans rfl, ((HB.out.cell (World.block_lt_of_cell? w _ z1F)).trans z1F), ((HB.out.cell (World.block_lt_of_cell? w _ z1G)).trans z1G), ((HB.out.cell (World.block_lt_of_cell? w _ z1H)).trans z1H), ((HB.out.cell (World.block_lt_of_cell? w _ z1I)).trans z1I), ((HB.out.cell (World.block_lt_of_cell? w _ z1J)).trans z1J), ((HB.out.cell (World.block_lt_of_cell? w _ z1K)).trans z1K)⟩ (fun hHeld => ?_)
     clear hK K
     refine norm_ (a' := ?_) ?_ ?_
     rotate_left
     ·show Act.put _ (some 24) _ = _
      simp only [Act.put, List.setIfInBounds_toArray, List.set_cons_zero, List.set_cons_succ, i64_w, i32_w]
      rfl
     refine pT 8 8 HT_ rfl ?_
     refine done_ (done_of HT_.out (by kernel_rfl)) ?_
     go_upto_region 7 with (fail)
     go_cut [33] (fun v33 wc => ∃ (kq : Nat) (z1L : Bool), v33 = .bool z1L ∧ Aside0 (gatehouseref08_Allows.j1 kq ze zf z0 t314 z1L z3 z4 z6 z7 z8 z9 za zb zc z1 z5 a1_0 a1_1 a1_2 = some r) ∧ Aside0 (kq ≤ k1) ∧ Aside0 (wc.heap[zW]? = some (.cells #[(.slice zv z3.length zG), (.slice zw z4.length zH), (.slice zy z6.length zJ), (.slice zz z7.length zK), (.slice zA z8.length zL), (.slice zB z9.length zM), (.slice zC za.length zN), (.slice zD zb.length zO), (.slice zE zc.length zP), (.slice (some zh) z1.length zQ), (.slice zx z5.length zI)] 34 (0, 0))) ∧ Aside0 (wc.heap[zX]? = some (.cells #[.string a1_0, .string a1_1, .string a1_2] 36 (0, 0))) ∧ Aside0 (Below w.heap.size w wc))
     case first =>
      have H := HC8.out; clear HC8
      by_cases c13 : t314 = true
      ·subst c13
       have H1 : (gatehouseref08_Allows.j1 k1 ze zf z0 true ((rd_T27 z1 z0).f0) z3 z4 z6 z7 z8 z9 za zb zc z1 z5 a1_0 a1_1 a1_2) = some r := by rw [if_pos rfl] at H; exact H
       clear H; have H := H1; clear H1; have H' := Aside0.mk H; clear H; have z5V := zR.out; have z64 := zS.out; obtain ⟨z2q, z2r, z2t, z2u, z2v, z2w, z2x, z2y, z2z, z2A, z2s, z2M, z2N, z2P, z2Q, z2R, z2S, z2T, z2U, z2V, z2W, z2O⟩ := bC11 z2; have p315 : 0 ≤ (z0 : Int) := of_decide_eq_true (by first | (with_reducible assumption) | assumption); have q315 : z0 < (z1.length : Int) := of_decide_eq_true (by first | (with_reducible assumption) | assumption); obtain ⟨z2b, z2Z, z38, e315, z1Q, z1R, z1S, z1T, z1U, z1V, z23, z21⟩ := at_T27 zF.out z0 p315 q315
       obtain rfl : zh = z2b := (by injection e315)
       replace z1Q := hC HB z1Q; replace z1R := hC HB z1R; replace z1S := hC HB z1S; replace z1T := hC HB z1T; replace z1U := hC HB z1U; replace z1V := hC HB z1V; have z33 := Aside0.mk z21; have z32 := Aside0.mk z23; clear z21 z23; replace p315 := eq_true p315; replace q315 := eq_true q315
       go_wp2
       go_meet
       case rel => exact ⟨_, ((rd_T27 z1 z0).f0), (by first | rfl | (simp; done) | (simp [*]; done)), H', ⟨by have := HK1.out; first | omega | exact Nat.le_refl _⟩, ⟨bE z2⟩, ⟨bE zd⟩, ⟨hW HB⟩⟩
      ·replace c13 := Bool.eq_false_iff.mpr c13
       subst c13
       have H1 : (gatehouseref08_Allows.j1 k1 ze zf z0 false false z3 z4 z6 z7 z8 z9 za zb zc z1 z5 a1_0 a1_1 a1_2) = some r := by rw [if_neg (show ¬ (false = true) by decide)] at H; exact H
       clear H; have H := H1; clear H1; have H' := Aside0.mk H; clear H
       go_wp2
       go_meet
       case rel => exact ⟨_, (false), (by first | rfl | (simp; done) | (simp [*]; done)), H', ⟨by have := HK1.out; first | omega | exact Nat.le_refl _⟩, ⟨bE z2⟩, ⟨bE zd⟩, ⟨hW HB⟩⟩
     case rest =>
      clear HC8
      try clear c1
      try clear c2
      try clear p2
      try clear c3
      try clear p3
      try clear q3
      try clear hx3
      try clear c5
      try clear z1Z
      try clear c6
      try clear z2e
      try clear c9
      try clear c13
      try clear c14
      try clear z2f z2g z2h z2i z2j z2k z2l z2m z2n z2o z2p z2q z2r z2s z2t z2u z2v z2w z2x z2y z2z z2A z2B z2C z2D z2E z2F z2G z2H z2I z2J z2K z2L z2M z2N z2O z2P z2Q z2R z2S z2T z2U z2V z2W
      try clear z14
      try clear z15
      try clear z16
      try clear z17
      try clear z18
      try clear z19
      try clear z1Q
      try clear z1R
      try clear z1S
      try clear z1T
      try clear z1U
      try clear z1V
      try clear p2
      try clear p313
      try clear p315
      try clear q313
      try clear q315
      obtain ⟨kq, z1L, rfl, HA, HJ7, z2, zd, HB⟩ := hcut
      cases kq with
      | zero => exact absurd HA.out (by simp [gatehouseref08_Allows.j1])
      | succ kj7 =>
       have H := HA.out; clear HA
       simp only [gatehouseref08_Allows.j1] at H
       by_cases c16 : z1L = true
       ·subst c16
        have H1 : (if t314 = true then (if 0 ≤ z0 then (if z0 < (z1.length : Int) then (if ((rd_T27 z1 z0).f0 = true) then (gatehouseref08_Allows.l0 kj7 ze true (wrap64 (z0 + 1)) z3 z4 z6 z7 z8 z9 za zb zc z1 z5 a1_0 a1_1 a1_2) else (gatehouseref08_Allows.l0 kj7 true true (wrap64 (z0 + 1)) z3 z4 z6 z7 z8 z9 za zb zc z1 z5 a1_0 a1_1 a1_2)) else (none)) else (none)) else (gatehouseref08_Allows.l0 kj7 ze true (wrap64 (z0 + 1)) z3 z4 z6 z7 z8 z9 za zb zc z1 z5 a1_0 a1_1 a1_2)) = some r := by rw [if_pos rfl] at H; exact H
        clear H; have H := H1; clear H1
        by_cases c17 : t314 = true
        ·subst c17
         have H1 : (if 0 ≤ z0 then (if z0 < (z1.length : Int) then (if ((rd_T27 z1 z0).f0 = true) then (gatehouseref08_Allows.l0 kj7 ze true (wrap64 (z0 + 1)) z3 z4 z6 z7 z8 z9 za zb zc z1 z5 a1_0 a1_1 a1_2) else (gatehouseref08_Allows.l0 kj7 true true (wrap64 (z0 + 1)) z3 z4 z6 z7 z8 z9 za zb zc z1 z5 a1_0 a1_1 a1_2)) else (none)) else (none)) = some r := by rw [if_pos rfl] at H; exact H
         clear H; have H := H1; clear H1
         by_cases c18 : 0 ≤ z0
         ·rw [if_pos c18] at H
          have z34 : decide (0 ≤ z0) = true := decide_eq_true c18; clear c18
          by_cases c19 : z0 < (z1.length : Int)
          ·rw [if_pos c19] at H
           have z35 : decide (z0 < (z1.length : Int)) = true := decide_eq_true c19; clear c19; obtain ⟨bq20, hbq20⟩ : ∃ b_ : Bool, b_ = ((rd_T27 z1 z0).f0) := ⟨_, rfl⟩
           replace H : (if (bq20 = true) then (gatehouseref08_Allows.l0 kj7 ze true (wrap64 (z0 + 1)) z3 z4 z6 z7 z8 z9 za zb zc z1 z5 a1_0 a1_1 a1_2) else (gatehouseref08_Allows.l0 kj7 true true (wrap64 (z0 + 1)) z3 z4 z6 z7 z8 z9 za zb zc z1 z5 a1_0 a1_1 a1_2)) = some r := by rw [← hbq20] at H; exact H
           have zT := Aside0.mk hbq20; clear hbq20
           by_cases c21 : (bq20 = true)
           ·subst c21
            have H1 : (gatehouseref08_Allows.l0 kj7 ze true (wrap64 (z0 + 1)) z3 z4 z6 z7 z8 z9 za zb zc z1 z5 a1_0 a1_1 a1_2) = some r := by rw [if_pos rfl] at H; exact H
            clear H; have H := H1; clear H1; have H' := Aside0.mk H; clear H; have z5W := zR.out; have z65 := zS.out; obtain ⟨z39, z3a, z3c, z3d, z3e, z3f, z3g, z3h, z3i, z3j, z3b, z4x, z4y, z4A, z4B, z4C, z4D, z4E, z4F, z4G, z4H, z4z⟩ := bC11 z2; have p316 : 0 ≤ (z0 : Int) := of_decide_eq_true (by first | (with_reducible assumption) | assumption); have q316 : z0 < (z1.length : Int) := of_decide_eq_true (by first | (with_reducible assumption) | assumption); obtain ⟨z1O, z24, z2c, e316, zY, z1a, z1b, z1c, z1d, z1e, z12, z10⟩ := at_T27 zF.out z0 p316 q316
            (try rw [← zT.out] at zY); (try rw [← zT.out] at z2X)
            obtain rfl : zh = z1O := (by injection e316)
            replace zY := hC HB zY; replace z1a := hC HB z1a; replace z1b := hC HB z1b; replace z1c := hC HB z1c; replace z1d := hC HB z1d; replace z1e := hC HB z1e; have z29 := Aside0.mk z10; have z27 := Aside0.mk z12; clear z10 z12; replace p316 := eq_true p316; replace q316 := eq_true q316
            go_wp2
            go_roundg kj7
            case measure => have := HK1.out; have := HJ7.out; omega
            case rel => exact ⟨(ze), (true), (wrap64 (z0 + 1)), (by first | rfl | (simp; done) | (simp [*]; done)), (by first | rfl | (simp; done) | (simp [*]; done)), (by first | rfl | (simp; done) | (simp [*]; done)), H', ⟨by have := HK1.out; have := HJ7.out; omega⟩, ⟨bE z2⟩, ⟨bE zd⟩, ⟨hW HB⟩⟩
           ·replace c21 := Bool.eq_false_iff.mpr c21
            subst c21
            have H1 : (gatehouseref08_Allows.l0 kj7 true true (wrap64 (z0 + 1)) z3 z4 z6 z7 z8 z9 za zb zc z1 z5 a1_0 a1_1 a1_2) = some r := by rw [if_neg (show ¬ (false = true) by decide)] at H; exact H
            clear H; have H := H1; clear H1; have H' := Aside0.mk H; clear H; have z5X := zR.out; have z66 := zS.out; obtain ⟨z3k, z3l, z3n, z3o, z3p, z3q, z3r, z3s, z3t, z3u, z3m, z4I, z4J, z4L, z4M, z4N, z4O, z4P, z4Q, z4R, z4S, z4K⟩ := bC11 z2; have p316 : 0 ≤ (z0 : Int) := of_decide_eq_true (by first | (with_reducible assumption) | assumption); have q316 : z0 < (z1.length : Int) := of_decide_eq_true (by first | (with_reducible assumption) | assumption); obtain ⟨z1O, z24, z2c, e316, zY, z1a, z1b, z1c, z1d, z1e, z12, z10⟩ := at_T27 zF.out z0 p316 q316
            (try rw [← zT.out] at zY); (try rw [← zT.out] at z2X)
            obtain rfl : zh = z1O := (by injection e316)
            replace zY := hC HB zY; replace z1a := hC HB z1a; replace z1b := hC HB z1b; replace z1c := hC HB z1c; replace z1d := hC HB z1d; replace z1e := hC HB z1e; have z29 := Aside0.mk z10; have z27 := Aside0.mk z12; clear z10 z12; replace p316 := eq_true p316; replace q316 := eq_true q316
            go_wp2
            go_roundg kj7
            case measure => have := HK1.out; have := HJ7.out; omega
            case rel => exact ⟨(true), (true), (wrap64 (z0 + 1)), (by first | rfl | (simp; done) | (simp [*]; done)), (by first | rfl | (simp; done) | (simp [*]; done)), (by first | rfl | (simp; done) | (simp [*]; done)), H', ⟨by have := HK1.out; have := HJ7.out; omega⟩, ⟨bE z2⟩, ⟨bE zd⟩, ⟨hW HB⟩⟩
          ·rw [if_neg c19] at H
           exact absurd H (by simp)
         ·rw [if_neg c18] at H
          exact absurd H (by simp)
        ·replace c17 := Bool.eq_false_iff.mpr c17
         subst c17
         have H1 : (gatehouseref08_Allows.l0 kj7 ze true (wrap64 (z0 + 1)) z3 z4 z6 z7 z8 z9 za zb zc z1 z5 a1_0 a1_1 a1_2) = some r := by rw [if_neg (show ¬ (false = true) by decide)] at H; exact H
         clear H; have H := H1; clear H1; have H' := Aside0.mk H; clear H
         go_wp2
         go_roundg kj7
         case measure => have := HK1.out; have := HJ7.out; omega
         case rel => exact ⟨(ze), (true), (wrap64 (z0 + 1)), (by first | rfl | (simp; done) | (simp [*]; done)), (by first | rfl | (simp; done) | (simp [*]; done)), (by first | rfl | (simp; done) | (simp [*]; done)), H', ⟨by have := HK1.out; have := HJ7.out; omega⟩, ⟨bE z2⟩, ⟨bE zd⟩, ⟨hW HB⟩⟩
       ·replace c16 := Bool.eq_false_iff.mpr c16
        subst c16
        have H1 : (if t314 = true then (if 0 ≤ z0 then (if z0 < (z1.length : Int) then (if ((rd_T27 z1 z0).f0 = true) then (gatehouseref08_Allows.l0 kj7 ze zf (wrap64 (z0 + 1)) z3 z4 z6 z7 z8 z9 za zb zc z1 z5 a1_0 a1_1 a1_2) else (gatehouseref08_Allows.l0 kj7 true zf (wrap64 (z0 + 1)) z3 z4 z6 z7 z8 z9 za zb zc z1 z5 a1_0 a1_1 a1_2)) else (none)) else (none)) else (gatehouseref08_Allows.l0 kj7 ze zf (wrap64 (z0 + 1)) z3 z4 z6 z7 z8 z9 za zb zc z1 z5 a1_0 a1_1 a1_2)) = some r := by rw [if_neg (show ¬ (false = true) by decide)] at H; exact H
        clear H; have H := H1; clear H1
        by_cases c26 : t314 = true
        ·subst c26
         have H1 : (if 0 ≤ z0 then (if z0 < (z1.length : Int) then (if ((rd_T27 z1 z0).f0 = true) then (gatehouseref08_Allows.l0 kj7 ze zf (wrap64 (z0 + 1)) z3 z4 z6 z7 z8 z9 za zb zc z1 z5 a1_0 a1_1 a1_2) else (gatehouseref08_Allows.l0 kj7 true zf (wrap64 (z0 + 1)) z3 z4 z6 z7 z8 z9 za zb zc z1 z5 a1_0 a1_1 a1_2)) else (none)) else (none)) = some r := by rw [if_pos rfl] at H; exact H
         clear H; have H := H1; clear H1
         by_cases c27 : 0 ≤ z0
         ·rw [if_pos c27] at H
          have z36 : decide (0 ≤ z0) = true := decide_eq_true c27; clear c27
          by_cases c28 : z0 < (z1.length : Int)
          ·rw [if_pos c28] at H
           have z37 : decide (z0 < (z1.length : Int)) = true := decide_eq_true c28; clear c28; obtain ⟨bq29, hbq29⟩ : ∃ b_ : Bool, b_ = ((rd_T27 z1 z0).f0) := ⟨_, rfl⟩
           replace H : (if (bq29 = true) then (gatehouseref08_Allows.l0 kj7 ze zf (wrap64 (z0 + 1)) z3 z4 z6 z7 z8 z9 za zb zc z1 z5 a1_0 a1_1 a1_2) else (gatehouseref08_Allows.l0 kj7 true zf (wrap64 (z0 + 1)) z3 z4 z6 z7 z8 z9 za zb zc z1 z5 a1_0 a1_1 a1_2)) = some r := by rw [← hbq29] at H; exact H
           have zU := Aside0.mk hbq29; clear hbq29
           by_cases c30 : (bq29 = true)
           ·subst c30
            have H1 : (gatehouseref08_Allows.l0 kj7 ze zf (wrap64 (z0 + 1)) z3 z4 z6 z7 z8 z9 za zb zc z1 z5 a1_0 a1_1 a1_2) = some r := by rw [if_pos rfl] at H; exact H
            clear H; have H := H1; clear H1; have H' := Aside0.mk H; clear H; have z5Y := zR.out; have z67 := zS.out; obtain ⟨z3v, z3w, z3y, z3z, z3A, z3B, z3C, z3D, z3E, z3F, z3x, z4T, z4U, z4W, z4X, z4Y, z4Z, z50, z51, z52, z53, z4V⟩ := bC11 z2; have p317 : 0 ≤ (z0 : Int) := of_decide_eq_true (by first | (with_reducible assumption) | assumption); have q317 : z0 < (z1.length : Int) := of_decide_eq_true (by first | (with_reducible assumption) | assumption); obtain ⟨z1P, z25, z2d, e317, zZ, z1f, z1g, z1h, z1i, z1j, z13, z11⟩ := at_T27 zF.out z0 p317 q317
            (try rw [← zU.out] at zZ); (try rw [← zU.out] at z2Y)
            obtain rfl : zh = z1P := (by injection e317)
            replace zZ := hC HB zZ; replace z1f := hC HB z1f; replace z1g := hC HB z1g; replace z1h := hC HB z1h; replace z1i := hC HB z1i; replace z1j := hC HB z1j; have z2a := Aside0.mk z11; have z28 := Aside0.mk z13; clear z11 z13; replace p317 := eq_true p317; replace q317 := eq_true q317
            go_wp2
            go_roundg kj7
            case measure => have := HK1.out; have := HJ7.out; omega
            case rel => exact ⟨(ze), (zf), (wrap64 (z0 + 1)), (by first | rfl | (simp; done) | (simp [*]; done)), (by first | rfl | (simp; done) | (simp [*]; done)), (by first | rfl | (simp; done) | (simp [*]; done)), H', ⟨by have := HK1.out; have := HJ7.out; omega⟩, ⟨bE z2⟩, ⟨bE zd⟩, ⟨hW HB⟩⟩
           ·replace c30 := Bool.eq_false_iff.mpr c30
            subst c30
            have H1 : (gatehouseref08_Allows.l0 kj7 true zf (wrap64 (z0 + 1)) z3 z4 z6 z7 z8 z9 za zb zc z1 z5 a1_0 a1_1 a1_2) = some r := by rw [if_neg (show ¬ (false = true) by decide)] at H; exact H
            clear H; have H := H1; clear H1; have H' := Aside0.mk H; clear H; have z5Z := zR.out; have z68 := zS.out; obtain ⟨z3G, z3H, z3J, z3K, z3L, z3M, z3N, z3O, z3P, z3Q, z3I, z54, z55, z57, z58, z59, z5a, z5b, z5c, z5d, z5e, z56⟩ := bC11 z2; have p317 : 0 ≤ (z0 : Int) := of_decide_eq_true (by first | (with_reducible assumption) | assumption); have q317 : z0 < (z1.length : Int) := of_decide_eq_true (by first | (with_reducible assumption) | assumption); obtain ⟨z1P, z25, z2d, e317, zZ, z1f, z1g, z1h, z1i, z1j, z13, z11⟩ := at_T27 zF.out z0 p317 q317
            (try rw [← zU.out] at zZ); (try rw [← zU.out] at z2Y)
            obtain rfl : zh = z1P := (by injection e317)
            replace zZ := hC HB zZ; replace z1f := hC HB z1f; replace z1g := hC HB z1g; replace z1h := hC HB z1h; replace z1i := hC HB z1i; replace z1j := hC HB z1j; have z2a := Aside0.mk z11; have z28 := Aside0.mk z13; clear z11 z13; replace p317 := eq_true p317; replace q317 := eq_true q317
            go_wp2
            go_roundg kj7
            case measure => have := HK1.out; have := HJ7.out; omega
            case rel => exact ⟨(true), (zf), (wrap64 (z0 + 1)), (by first | rfl | (simp; done) | (simp [*]; done)), (by first | rfl | (simp; done) | (simp [*]; done)), (by first | rfl | (simp; done) | (simp [*]; done)), H', ⟨by have := HK1.out; have := HJ7.out; omega⟩, ⟨bE z2⟩, ⟨bE zd⟩, ⟨hW HB⟩⟩
          ·rw [if_neg c28] at H
           exact absurd H (by simp)
         ·rw [if_neg c27] at H
          exact absurd H (by simp)
        ·replace c26 := Bool.eq_false_iff.mpr c26
         subst c26
         have H1 : (gatehouseref08_Allows.l0 kj7 ze zf (wrap64 (z0 + 1)) z3 z4 z6 z7 z8 z9 za zb zc z1 z5 a1_0 a1_1 a1_2) = some r := by rw [if_neg (show ¬ (false = true) by decide)] at H; exact H
         clear H; have H := H1; clear H1; have H' := Aside0.mk H; clear H
         go_wp2
         go_roundg kj7
         case measure => have := HK1.out; have := HJ7.out; omega
         case rel => exact ⟨(ze), (zf), (wrap64 (z0 + 1)), (by first | rfl | (simp; done) | (simp [*]; done)), (by first | rfl | (simp; done) | (simp [*]; done)), (by first | rfl | (simp; done) | (simp [*]; done)), H', ⟨by have := HK1.out; have := HJ7.out; omega⟩, ⟨bE z2⟩, ⟨bE zd⟩, ⟨hW HB⟩⟩
    ·rw [if_neg c6] at H
     exact absurd H (by simp)
   ·rw [if_neg c5] at H
    have z1Z : decide (z0 < (z1.length : Int)) = false := decide_eq_false c5; clear c5; replace H := Option.bind_eq_some_iff.mp H; obtain ⟨t312, A350, H⟩ := H; replace H : (if ze = true then (if zf = true then (some false) else (some (!t312))) else (some false)) = some r := H; have A35 := Aside0.mk A350; clear A350
    by_cases c36 : ze = true
    ·subst c36
     have H1 : (if zf = true then (some false) else (some (!t312))) = some r := by rw [if_pos rfl] at H; exact H
     clear H; have H := H1; clear H1
     by_cases c37 : zf = true
     ·subst c37
      have H1 : (some false) = some r := by rw [if_pos rfl] at H; exact H
      clear H; have H := H1; clear H1
      obtain rfl := Option.some.inj H
      have z60 := zR.out; have z69 := zS.out; obtain ⟨z3R, z3S, z3U, z3V, z3W, z3X, z3Y, z3Z, z40, z41, z3T, z5f, z5g, z5i, z5j, z5k, z5l, z5m, z5n, z5o, z5p, z5h⟩ := bC11 z2; obtain ⟨z42, z43, z44, z5q, z5r, z5s⟩ := bC3 zd
      go_wp2_with (first | ((with_reducible refine gate_callee (f := 59) rfl ?_); refine goesL_ (some 46) rfl rfl Try.func59 (by kernel_rfl) rfl #[.agg #[.slice zv z3.length zG, .slice zw z4.length zH, .slice zy z6.length zJ, .slice zz z7.length zK, .slice zA z8.length zL, .slice zB z9.length zM, .slice zC za.length zN, .slice zD zb.length zO, .slice zE zc.length zP, .slice zV z1.length zQ, .slice zx z5.length zI], .agg #[.string a1_0, .string a1_1, .string a1_2]] rfl (by (try simp only [List.map_toArray, List.map_cons, List.map_nil]); first | done | rfl | (simp only [List.length_drop, List.length_take]; rfl)) ?_; (with_reducible refine (gatehouseref08_excepted.calls k1 _ _ z3 _ _ z4 _ _ z6 _ _ z7 _ _ z8 _ _ z9 _ _ za _ _ zb _ _ zc _ _ z1 _ _ z5 a1_0 a1_1 a1_2 t312 _ ?side1 ?side2 ?side3 ?side4 ?side5 ?side6 ?side7 ?side8 ?side9 ?side10 ?side11 ?side12 ?side13 ?side14 ?side15 ?side16 ?side17 ?side18 ?side19 ?side20 ?side21 ?side22 (by have h_ := A35.out; first | exact h_ | (rw [← zT.out] at h_; exact h_) | (rw [← zU.out] at h_; exact h_))).mono ?_); (case side1 => exact cE (Kd.C_below z1v.out HB.out)); (case side2 => exact z1k.out); (case side3 => exact cE (Kd.C_below z1w.out HB.out)); (case side4 => exact z1l.out); (case side5 => exact cE (Kd.C_below z1y.out HB.out)); (case side6 => exact z1n.out); (case side7 => exact cE (Kd.C_below z1z.out HB.out)); (case side8 => exact z1o.out); (case side9 => exact cE (Kd.C_below z1A.out HB.out)); (case side10 => exact z1p.out); (case side11 => exact cE (Kd.C_below z1B.out HB.out)); (case side12 => exact z1q.out); (case side13 => exact cE (Kd.C_below z1C.out HB.out)); (case side14 => exact z1r.out); (case side15 => exact cE (Kd.C_below z1D.out HB.out)); (case side16 => exact z1s.out); (case side17 => exact cE (Kd.C_below z1E.out HB.out)); (case side18 => exact z1t.out); (case side19 => exact cE (Kd.C_below zF.out HB.out)); (case side20 => exact z1u.out); (case side21 => exact cE (Kd.C_below z1x.out HB.out)); (case side22 => exact z1m.out); rintro e w41 ⟨rfl, hb⟩; refine ⟨_, rfl, ?_⟩; replace z2 := kF z2 hb; replace zd := kF zd hb; replace HB := hF HB hb; (try clear hb); (try clear hb2); (try clear hk); (try clear hi)))
      go_ret
      exact ⟨by first | rfl | (simp [errW_none, errW_some] <;> rfl) | (simp [*, errW_none, errW_some] <;> rfl), by repeat (first | (with_reducible first | exact HB.out | apply below_alloc | apply pw_below_drewN | apply below_drew1 | refine below_set ?_ z1M.out | refine below_set ?_ z1N.out) | exact HB.out)⟩
     ·replace c37 := Bool.eq_false_iff.mpr c37
      subst c37
      have H1 : (some (!t312)) = some r := by rw [if_neg (show ¬ (false = true) by decide)] at H; exact H
      clear H; have H := H1; clear H1
      obtain rfl := Option.some.inj H
      have z61 := zR.out; have z6a := zS.out; obtain ⟨z45, z46, z48, z49, z4a, z4b, z4c, z4d, z4e, z4f, z47, z5t, z5u, z5w, z5x, z5y, z5z, z5A, z5B, z5C, z5D, z5v⟩ := bC11 z2; obtain ⟨z4g, z4h, z4i, z5E, z5F, z5G⟩ := bC3 zd
      go_wp2_with (first | ((with_reducible refine gate_callee (f := 59) rfl ?_); refine goesL_ (some 46) rfl rfl Try.func59 (by kernel_rfl) rfl #[.agg #[.slice zv z3.length zG, .slice zw z4.length zH, .slice zy z6.length zJ, .slice zz z7.length zK, .slice zA z8.length zL, .slice zB z9.length zM, .slice zC za.length zN, .slice zD zb.length zO, .slice zE zc.length zP, .slice zV z1.length zQ, .slice zx z5.length zI], .agg #[.string a1_0, .string a1_1, .string a1_2]] rfl (by (try simp only [List.map_toArray, List.map_cons, List.map_nil]); first | done | rfl | (simp only [List.length_drop, List.length_take]; rfl)) ?_; (with_reducible refine (gatehouseref08_excepted.calls k1 _ _ z3 _ _ z4 _ _ z6 _ _ z7 _ _ z8 _ _ z9 _ _ za _ _ zb _ _ zc _ _ z1 _ _ z5 a1_0 a1_1 a1_2 t312 _ ?side1 ?side2 ?side3 ?side4 ?side5 ?side6 ?side7 ?side8 ?side9 ?side10 ?side11 ?side12 ?side13 ?side14 ?side15 ?side16 ?side17 ?side18 ?side19 ?side20 ?side21 ?side22 (by have h_ := A35.out; first | exact h_ | (rw [← zT.out] at h_; exact h_) | (rw [← zU.out] at h_; exact h_))).mono ?_); (case side1 => exact cE (Kd.C_below z1v.out HB.out)); (case side2 => exact z1k.out); (case side3 => exact cE (Kd.C_below z1w.out HB.out)); (case side4 => exact z1l.out); (case side5 => exact cE (Kd.C_below z1y.out HB.out)); (case side6 => exact z1n.out); (case side7 => exact cE (Kd.C_below z1z.out HB.out)); (case side8 => exact z1o.out); (case side9 => exact cE (Kd.C_below z1A.out HB.out)); (case side10 => exact z1p.out); (case side11 => exact cE (Kd.C_below z1B.out HB.out)); (case side12 => exact z1q.out); (case side13 => exact cE (Kd.C_below z1C.out HB.out)); (case side14 => exact z1r.out); (case side15 => exact cE (Kd.C_below z1D.out HB.out)); (case side16 => exact z1s.out); (case side17 => exact cE (Kd.C_below z1E.out HB.out)); (case side18 => exact z1t.out); (case side19 => exact cE (Kd.C_below zF.out HB.out)); (case side20 => exact z1u.out); (case side21 => exact cE (Kd.C_below z1x.out HB.out)); (case side22 => exact z1m.out); rintro e w45 ⟨rfl, hb⟩; refine ⟨_, rfl, ?_⟩; replace z2 := kF z2 hb; replace zd := kF zd hb; replace HB := hF HB hb; (try clear hb); (try clear hb2); (try clear hk); (try clear hi)))
      go_ret
      exact ⟨by first | rfl | (simp [errW_none, errW_some] <;> rfl) | (simp [*, errW_none, errW_some] <;> rfl), by repeat (first | (with_reducible first | exact HB.out | apply below_alloc | apply pw_below_drewN | apply below_drew1 | refine below_set ?_ z1M.out | refine below_set ?_ z1N.out) | exact HB.out)⟩
    ·replace c36 := Bool.eq_false_iff.mpr c36
     subst c36
     have H1 : (some false) = some r := by rw [if_neg (show ¬ (false = true) by decide)] at H; exact H
     clear H; have H := H1; clear H1
     obtain rfl := Option.some.inj H
     have z62 := zR.out; have z6b := zS.out; obtain ⟨z4j, z4k, z4m, z4n, z4o, z4p, z4q, z4r, z4s, z4t, z4l, z5H, z5I, z5K, z5L, z5M, z5N, z5O, z5P, z5Q, z5R, z5J⟩ := bC11 z2; obtain ⟨z4u, z4v, z4w, z5S, z5T, z5U⟩ := bC3 zd
     go_wp2_with (first | ((with_reducible refine gate_callee (f := 59) rfl ?_); refine goesL_ (some 46) rfl rfl Try.func59 (by kernel_rfl) rfl #[.agg #[.slice zv z3.length zG, .slice zw z4.length zH, .slice zy z6.length zJ, .slice zz z7.length zK, .slice zA z8.length zL, .slice zB z9.length zM, .slice zC za.length zN, .slice zD zb.length zO, .slice zE zc.length zP, .slice zV z1.length zQ, .slice zx z5.length zI], .agg #[.string a1_0, .string a1_1, .string a1_2]] rfl (by (try simp only [List.map_toArray, List.map_cons, List.map_nil]); first | done | rfl | (simp only [List.length_drop, List.length_take]; rfl)) ?_; (with_reducible refine (gatehouseref08_excepted.calls k1 _ _ z3 _ _ z4 _ _ z6 _ _ z7 _ _ z8 _ _ z9 _ _ za _ _ zb _ _ zc _ _ z1 _ _ z5 a1_0 a1_1 a1_2 t312 _ ?side1 ?side2 ?side3 ?side4 ?side5 ?side6 ?side7 ?side8 ?side9 ?side10 ?side11 ?side12 ?side13 ?side14 ?side15 ?side16 ?side17 ?side18 ?side19 ?side20 ?side21 ?side22 (by have h_ := A35.out; first | exact h_ | (rw [← zT.out] at h_; exact h_) | (rw [← zU.out] at h_; exact h_))).mono ?_); (case side1 => exact cE (Kd.C_below z1v.out HB.out)); (case side2 => exact z1k.out); (case side3 => exact cE (Kd.C_below z1w.out HB.out)); (case side4 => exact z1l.out); (case side5 => exact cE (Kd.C_below z1y.out HB.out)); (case side6 => exact z1n.out); (case side7 => exact cE (Kd.C_below z1z.out HB.out)); (case side8 => exact z1o.out); (case side9 => exact cE (Kd.C_below z1A.out HB.out)); (case side10 => exact z1p.out); (case side11 => exact cE (Kd.C_below z1B.out HB.out)); (case side12 => exact z1q.out); (case side13 => exact cE (Kd.C_below z1C.out HB.out)); (case side14 => exact z1r.out); (case side15 => exact cE (Kd.C_below z1D.out HB.out)); (case side16 => exact z1s.out); (case side17 => exact cE (Kd.C_below z1E.out HB.out)); (case side18 => exact z1t.out); (case side19 => exact cE (Kd.C_below zF.out HB.out)); (case side20 => exact z1u.out); (case side21 => exact cE (Kd.C_below z1x.out HB.out)); (case side22 => exact z1m.out); rintro e w49 ⟨rfl, hb⟩; refine ⟨_, rfl, ?_⟩; replace z2 := kF z2 hb; replace zd := kF zd hb; replace HB := hF HB hb; (try clear hb); (try clear hb2); (try clear hk); (try clear hi)))
     go_ret
     exact ⟨by first | rfl | (simp [errW_none, errW_some] <;> rfl) | (simp [*, errW_none, errW_some] <;> rfl), by repeat (first | (with_reducible first | exact HB.out | apply below_alloc | apply pw_below_drewN | apply below_drew1 | refine below_set ?_ z1M.out | refine below_set ?_ z1N.out) | exact HB.out)⟩

-- NOT PRINTED: function 6 (gatehouselaw08_MeanAllows)

/-! ### gatehouselaw08_vast: function 26 -/
-- NOT PRINTED: function 64 (api_Subject)

/-! ### mean_once: function 66 -/
-- by hand: function 28 (mean_Relation)

/-! ### gatehouselaw08_tri: function 40 -/
-- by hand: function 30 (gatehouselaw08_alive)

/-! ### gatehouselaw08_texts: function 67 -/
end Go.Proofs.Ytnkdcekddhmjnaa.F
