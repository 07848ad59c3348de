import Derived.Test.YtnkdcekddhmjnaaF0
import Derived.Test.YtnkdcekddhmjnaaF1
import Derived.Test.YtnkdcekddhmjnaaF6
import Derived.Test.YtnkdcekddhmjnaaF7
-- Written by a program of this session (mk.py over the kit's print, turned for floats and for contracts given by hand). Not trusted: Lean checks it.
namespace Go.Proofs.Ytnkdcekddhmjnaa.F
open Go.RowKit Go.Proofs.YtnkdcekddhmjnaaW.PrintWords Go.Proofs.YtnkdcekddhmjnaaW.PrintLast Go.Proofs.YtnkdcekddhmjnaaW.PrintMore
attribute [local go_sem] max2_int min2_int max_two min_two max_three min_three max_four min_four   -- for this text's walks alone
attribute [local go_sem] flt_eql flt_neq flt_lss flt_leq flt_gtr flt_geq run_store_float
set_option linter.unusedVariables false
set_option linter.unusedSimpArgs false

attribute [local go_sem high] eqA36
/-! ### gatehouseref08_Subjects: function 61 -/
def gatehouseref08_Subjects.l0 : Nat → List ByteArray → Int → List ByteArray → List (S57) → List ByteArray → List ByteArray → List ByteArray → List (S86) → List (S86) → List (S86) → List (S86) → List (S27) → List (S36) → Option (List ByteArray)
 | 0, _, _, _, _, _, _, _, _, _, _, _, _, _ => none
 | k + 1, x3, x4, zL, zC, zM, zN, zO, zP, zQ, zR, zS, zT, zU => if x4 < (zC.length : Int) then (if 0 ≤ x4 then (if x3.length < 8796093022208 then (gatehouseref08_Subjects.l0 k (x3 ++ [(rd_T57 zC x4).f0]) (wrap64 (x4 + 1)) zL zC zM zN zO zP zQ zR zS zT zU) else (none)) else (none)) else (some x3)
def gatehouseref08_Subjects.f (k : Nat) (z2 : List ByteArray) (z0 : List (S57)) (z4 : List ByteArray) (z5 : List ByteArray) (z6 : List ByteArray) (z7 : List (S86)) (z8 : List (S86)) (z9 : List (S86)) (za : List (S86)) (zb : List (S27)) (z3 : List (S36)) : Option (List ByteArray) := gatehouseref08_Subjects.l0 k ([] : List ByteArray) 0 z2 z0 z4 z5 z6 z7 z8 z9 za zb z3
set_option maxHeartbeats 8000000 in
set_option maxRecDepth 100000 in
theorem gatehouseref08_Subjects.calls (k : Nat) (ze : Option Addr) (zq : Nat) (z2 : List ByteArray) (zf : Option Addr) (zr : Nat) (z0 : List (S57)) (zh : Option Addr) (zt : Nat) (z4 : List ByteArray) (zi : Option Addr) (zu : Nat) (z5 : List ByteArray) (zj : Option Addr) (zv : Nat) (z6 : List ByteArray) (zk : Option Addr) (zw : Nat) (z7 : List (S86)) (zl : Option Addr) (zx : Nat) (z8 : List (S86)) (zm : Option Addr) (zy : Nat) (z9 : List (S86)) (zn : Option Addr) (zz : Nat) (za : List (S86)) (zo : Option Addr) (zA : Nat) (zb : List (S27)) (zg : Option Addr) (zs : Nat) (z3 : List (S36)) (r : List ByteArray) (w : World) (hr0_0 : Kd.C Kd.string w ze z2.length z2) (hc0_0 : z2.length ≤ zq) (hr0_1 : Kd.C k57 w zf z0.length z0) (hc0_1 : z0.length ≤ zr) (hr0_2 : Kd.C Kd.string w zh z4.length z4) (hc0_2 : z4.length ≤ zt) (hr0_3 : Kd.C Kd.string w zi z5.length z5) (hc0_3 : z5.length ≤ zu) (hr0_4 : Kd.C Kd.string w zj z6.length z6) (hc0_4 : z6.length ≤ zv) (hr0_5 : Kd.C k86 w zk z7.length z7) (hc0_5 : z7.length ≤ zw) (hr0_6 : Kd.C k86 w zl z8.length z8) (hc0_6 : z8.length ≤ zx) (hr0_7 : Kd.C k86 w zm z9.length z9) (hc0_7 : z9.length ≤ zy) (hr0_8 : Kd.C k86 w zn za.length za) (hc0_8 : za.length ≤ zz) (hr0_9 : Kd.C k27 w zo zb.length zb) (hc0_9 : zb.length ≤ zA) (hr0_10 : Kd.C k36 w zg z3.length z3) (hc0_10 : z3.length ≤ zs) (h : gatehouseref08_Subjects.f k z2 z0 z4 z5 z6 z7 z8 z9 za zb z3 = some r) :
  Calls Try.prog 61 #[.agg #[.slice ze z2.length zq, .slice zf z0.length zr, .slice zh z4.length zt, .slice zi z5.length zu, .slice zj z6.length zv, .slice zk z7.length zw, .slice zl z8.length zx, .slice zm z9.length zy, .slice zn za.length zz, .slice zo zb.length zA, .slice zg z3.length zs]] w fun e w' => ∃ v0_ : Value, e = .returned (v0_) ∧ Kd.R Kd.string 9 w' w.heap.size (fun _ => True) v0_ r ∧ Below w.heap.size w w' := by
 have hu34 := Try.underlying34; have z17 := Aside0.mk hr0_0; have zW := Aside0.mk hc0_0; clear hr0_0 hc0_0; have zH := Aside0.mk hr0_1; have zX := Aside0.mk hc0_1; clear hr0_1 hc0_1; have z19 := Aside0.mk hr0_2; have zZ := Aside0.mk hc0_2; clear hr0_2 hc0_2; have z1a := Aside0.mk hr0_3; have z10 := Aside0.mk hc0_3; clear hr0_3 hc0_3; have z1b := Aside0.mk hr0_4; have z11 := Aside0.mk hc0_4; clear hr0_4 hc0_4; have z1c := Aside0.mk hr0_5; have z12 := Aside0.mk hc0_5; clear hr0_5 hc0_5; have z1d := Aside0.mk hr0_6; have z13 := Aside0.mk hc0_6; clear hr0_6 hc0_6; have z1e := Aside0.mk hr0_7; have z14 := Aside0.mk hc0_7; clear hr0_7 hc0_7; have z1f := Aside0.mk hr0_8; have z15 := Aside0.mk hc0_8; clear hr0_8 hc0_8; have z1g := Aside0.mk hr0_9; have z16 := Aside0.mk hc0_9; clear hr0_9 hc0_9; have z18 := Aside0.mk hr0_10; have zY := Aside0.mk hc0_10; clear hr0_10 hc0_10; have HB := Aside0.mk (Below.refl w.heap.size w); have H : (gatehouseref08_Subjects.l0 k ([] : List ByteArray) 0 z2 z0 z4 z5 z6 z7 z8 z9 za zb z3) = some r := h; clear h; have H' := Aside0.mk H; clear H
 go_enter Try.func61, Try.ntmps61
 go_wp2_with (first | ((with_reducible refine gate_dst (N := 1) rfl ?_); refine box_event ?hg (N := 1) ?hd (cs := #[.slice ze z2.length zq, .slice zf z0.length zr, .slice zh z4.length zt, .slice zi z5.length zu, .slice zj z6.length zv, .slice zk z7.length zw, .slice zl z8.length zx, .slice zm z9.length zy, .slice zn za.length zz, .slice zo zb.length zA, .slice zg z3.length zs]) (t := 34) ?hr ?_; (case hd => rfl); (case hg => rfl); (case hr => first | (go_simp; done) | (go_simp; rfl)); intro zB hg w2 hbox hb; have zc := Aside0.mk (hbox); have zV := Aside0.mk ((by rw [hg]; exact (below_size (hW HB)) : w.heap.size ≤ zB)); have zF := Aside0.mk ((by rw [hg]; exact (below_size (hW HB)) : w.heap.size ≤ zB)); replace HB := hF HB hb; clear hb hbox hg))
 go_loopg [3, 4] k (fun kq v3 v4 w' => ∃ (zd : List ByteArray) (z1 : Int), v4 = .int .i64 z1 ∧ Aside0 (gatehouseref08_Subjects.l0 kq zd z1 z2 z0 z4 z5 z6 z7 z8 z9 za zb z3 = some r) ∧ Aside0 (kq ≤ k) ∧ Aside0 (Kd.R Kd.string 9 w' w.heap.size (fun _ => True) v3 zd) ∧ Aside0 (w'.heap[zB]? = some (.cells #[(.slice ze z2.length zq), (.slice zf z0.length zr), (.slice zh z4.length zt), (.slice zi z5.length zu), (.slice zj z6.length zv), (.slice zk z7.length zw), (.slice zl z8.length zx), (.slice zm z9.length zy), (.slice zn za.length zz), (.slice zo zb.length zA), (.slice zg z3.length zs)] 34 (0, 0))) ∧ Aside0 (Below w.heap.size w w'))
 case atStart => exact ⟨(([] : List ByteArray)), (0), (by first | rfl | (simp; done) | (simp [*]; done)), H', ⟨Nat.le_refl _⟩, ⟨by first | exact Kd.R_nil _ _ _ _ _ | exact Kd.N_nil _ _ _ _ _ | exact Kd.V_nil _ _ _ _ _ | exact Kd.Q_nil _ _ _ _ _ | exact Kd.S_nil _ _ _ _ _⟩, ⟨bE zc⟩, ⟨hW HB⟩⟩
 case round =>
  clear H'
  try clear p2
  obtain ⟨zd, z1, rfl, HA, HK1, zp, zc, HB⟩ := hrel
  cases gk with
  | zero => exact absurd HA.out (by simp [gatehouseref08_Subjects.l0])
  | succ k1 =>
   have H := HA.out; clear HA
   simp only [gatehouseref08_Subjects.l0] at H
   by_cases c3 : z1 < (z0.length : Int)
   ·rw [if_pos c3] at H
    have zK : decide (z1 < (z0.length : Int)) = true := decide_eq_true c3; clear c3
    by_cases c4 : 0 ≤ z1
    ·rw [if_pos c4] at H
     have z1i : decide (0 ≤ z1) = true := decide_eq_true c4; clear c4
     by_cases c5 : zd.length < 8796093022208
     ·rw [if_pos c5] at H
      have zI := Aside0.mk c5; clear c5; obtain ⟨y816, hy816⟩ : ∃ y_ : List ByteArray, y_ = (zd ++ [(rd_T57 z0 z1).f0]) := ⟨_, rfl⟩
      replace H : (gatehouseref08_Subjects.l0 k1 y816 (wrap64 (z1 + 1)) z2 z0 z4 z5 z6 z7 z8 z9 za zb z3) = some r := by first | (rw [hy816]; with_reducible exact H) | (have H2_ := (Option.bind_some _ _).symm.trans H; rw [hy816]; with_reducible exact H2_) | (have H2_ := (Option.bind_some _ _).symm.trans H; with_reducible exact H2_) | with_reducible exact H | (rw [hy816]; exact H) | exact H
      have zJ := Aside0.mk hy816; clear hy816; have H' := Aside0.mk H; clear H; obtain ⟨z1j, z1k, z1m, z1n, z1o, z1p, z1q, z1r, z1s, z1t, z1l, z1F, z1G, z1I, z1J, z1K, z1L, z1M, z1N, z1O, z1P, z1H⟩ := bC11 zc; have p815 : 0 ≤ (z1 : Int) := of_decide_eq_true (by first | (with_reducible assumption) | assumption); have q815 : z1 < (z0.length : Int) := of_decide_eq_true (by first | (with_reducible assumption) | assumption); obtain ⟨z1h, e815, zD, zE⟩ := at_T57 zH.out z1 p815 q815
      cases e815
      replace zD := hC HB zD; replace zE := hC HB zE; replace p815 := eq_true p815; replace q815 := eq_true q815
      go_wp2_with (first | ((with_reducible refine gate_builtin (b := .append) (xs := #[.tmp 12, .tmp 19]) rfl ?_); at_builtin; refine Kd.R_append Kd.string (w0 := w) w.heap.size rfl (.tmp 12) (.tmp 19) 25 9 (.string ⟨#[]⟩) 16 rfl Try.underlying25 info9 rfl (by decide) (by omega) u3 zd ((rd_T57 z0 z1).f0) [.string ((rd_T57 z0 z1).f0)] (fun _ => True) (fun _ => False) rfl rfl ?aP (fun _ hk => hk.elim) ?aF ?aO ?aB ?aS ?aL ?_; (case aP => exact rfl); (case aB => exact (hW HB)); (case aF => exact (fun _ _ => trivial)); (case aO => exact (rE zp.out)); (case aS => exact (below_size (hW HB))); (case aL => have := zI.out; omega); intro v817 w7 ho hb hg hat; rw [← zJ.out] at ho; replace zc := Aside0.mk (bG zc hg (Kd.R_ne zp.out zc.out (by decide))); replace HB := Aside0.mk (hb); have zG := Aside0.mk (ho); clear zp; clear ho hb hg hat))
      go_roundg k1
      case measure => have := HK1.out; omega
      case rel => exact ⟨(y816), (wrap64 (z1 + 1)), (by first | rfl | (simp; done) | (simp [*]; done)), H', ⟨by have := HK1.out; omega⟩, ⟨rE zG.out⟩, ⟨bE zc⟩, ⟨hW HB⟩⟩
     ·rw [if_neg c5] at H
      exact absurd H (by simp)
    ·rw [if_neg c4] at H
     exact absurd H (by simp)
   ·rw [if_neg c3] at H
    have zK : decide (z1 < (z0.length : Int)) = false := decide_eq_false c3; clear c3
    obtain rfl := Option.some.inj H
    obtain ⟨z1u, z1v, z1x, z1y, z1z, z1A, z1B, z1C, z1D, z1E, z1w, z1Q, z1R, z1T, z1U, z1V, z1W, z1X, z1Y, z1Z, z20, z1S⟩ := bC11 zc
    go_wp2
    go_ret
    exact ⟨_, by first | rfl | (simp [errW_none, errW_some] <;> rfl) | (simp [*, errW_none, errW_some] <;> rfl), by (with_reducible repeat (first | apply Kd.R_alloc | apply Kd.R_drewN | apply Kd.R_drew)); exact zp.out, by repeat (first | (with_reducible first | exact HB.out | apply below_alloc | apply pw_below_drewN | apply below_drew1 | refine below_set ?_ zF.out) | exact HB.out)⟩

/-! ### gatehouseref08_one: function 62 -/
def gatehouseref08_one.l0 : Nat → List ByteArray → Nat → List ByteArray → List (S27) → Int → List ByteArray → List (S57) → List ByteArray → List ByteArray → List ByteArray → List (S86) → List (S86) → List (S86) → List (S86) → List (S27) → List (S36) → Option ((List (S27)))
 | 0, _, _, _, _, _, _, _, _, _, _, _, _, _, _, _, _ => none
 | k + 1, x1, x2, x3, x9, x10, zO, zP, zQ, zR, zS, zT, zU, zV, zW, ze, zX => if x10 < (ze.length : Int) then (if 0 ≤ x10 then ((gatehouseref08_about.f k ((rd_T27 ze x10).f0) ((rd_T27 ze x10).f1) ((rd_T27 ze x10).f2) ((rd_T27 ze x10).f3) ((rd_T27 ze x10).f4) ((rd_T27 ze x10).f5) x1 x2 x3).bind fun t821 => (if t821 = true then (if x9.length < 1759218604441 then (gatehouseref08_one.l0 k x1 x2 x3 (x9 ++ [(⟨(rd_T27 ze x10).f0, (rd_T27 ze x10).f1, (rd_T27 ze x10).f2, (rd_T27 ze x10).f3, (rd_T27 ze x10).f4, (rd_T27 ze x10).f5⟩ : S27)]) (wrap64 (x10 + 1)) zO zP zQ zR zS zT zU zV zW ze zX) else (none)) else (gatehouseref08_one.l0 k x1 x2 x3 x9 (wrap64 (x10 + 1)) zO zP zQ zR zS zT zU zV zW ze zX))) else (none)) else (some x9)
def gatehouseref08_one.f (k : Nat) (z3 : List ByteArray) (z4 : List (S57)) (z6 : List ByteArray) (z7 : List ByteArray) (z8 : List ByteArray) (z9 : List (S86)) (za : List (S86)) (zb : List (S86)) (zc : List (S86)) (z1 : List (S27)) (z5 : List (S36)) (l1 : List ByteArray) (a2 : Nat) (l3 : List ByteArray) : Option ((List (S27))) := gatehouseref08_one.l0 k l1 a2 l3 ([] : List (S27)) 0 z3 z4 z6 z7 z8 z9 za zb zc z1 z5
set_option maxHeartbeats 8000000 in
set_option maxRecDepth 100000 in
theorem gatehouseref08_one.calls (k : Nat) (zl : Option Addr) (zv : Nat) (z3 : List ByteArray) (zm : Option Addr) (zw : Nat) (z4 : List (S57)) (zo : Option Addr) (zy : Nat) (z6 : List ByteArray) (zp : Option Addr) (zz : Nat) (z7 : List ByteArray) (zq : Option Addr) (zA : Nat) (z8 : List ByteArray) (zr : Option Addr) (zB : Nat) (z9 : List (S86)) (zs : Option Addr) (zC : Nat) (za : List (S86)) (zt : Option Addr) (zD : Nat) (zb : List (S86)) (zu : Option Addr) (zE : Nat) (zc : List (S86)) (P0_9_ : Nat → Prop) (zk : Option Addr) (zj : Nat) (z1 : List (S27)) (zn : Option Addr) (zx : Nat) (z5 : List (S36)) (A1 : Option Addr) (c1 : Nat) (l1 : List ByteArray) (a2 : Nat) (A3 : Option Addr) (c3 : Nat) (l3 : List ByteArray) (r : List (S27)) (w : World) (hr0_0 : Kd.C Kd.string w zl z3.length z3) (hc0_0 : z3.length ≤ zv) (hr0_1 : Kd.C k57 w zm z4.length z4) (hc0_1 : z4.length ≤ zw) (hr0_2 : Kd.C Kd.string w zo z6.length z6) (hc0_2 : z6.length ≤ zy) (hr0_3 : Kd.C Kd.string w zp z7.length z7) (hc0_3 : z7.length ≤ zz) (hr0_4 : Kd.C Kd.string w zq z8.length z8) (hc0_4 : z8.length ≤ zA) (hr0_5 : Kd.C k86 w zr z9.length z9) (hc0_5 : z9.length ≤ zB) (hr0_6 : Kd.C k86 w zs za.length za) (hc0_6 : za.length ≤ zC) (hr0_7 : Kd.C k86 w zt zb.length zb) (hc0_7 : zb.length ≤ zD) (hr0_8 : Kd.C k86 w zu zc.length zc) (hc0_8 : zc.length ≤ zE) (hs0_9 : Kd.V k27 27 w w.heap.size (fun k_ => P0_9_ k_) (.slice zk z1.length zj) z1) (hr0_10 : Kd.C k36 w zn z5.length z5) (hc0_10 : z5.length ≤ zx) (hr1 : Kd.C Kd.string w A1 l1.length l1) (hc1 : l1.length ≤ c1) (hr3 : Kd.C Kd.string w A3 l3.length l3) (hc3 : l3.length ≤ c3) (h : gatehouseref08_one.f k z3 z4 z6 z7 z8 z9 za zb zc z1 z5 l1 a2 l3 = some r) :
  Calls Try.prog 62 #[.agg #[.slice zl z3.length zv, .slice zm z4.length zw, .slice zo z6.length zy, .slice zp z7.length zz, .slice zq z8.length zA, .slice zr z9.length zB, .slice zs za.length zC, .slice zt zb.length zD, .slice zu zc.length zE, .slice zk z1.length zj, .slice zn z5.length zx], .slice A1 l1.length c1, .float .f64 a2, .slice A3 l3.length c3] w fun e w' => ∃ v0_ : Value, e = .returned (v0_) ∧ Kd.N k27 27 w' w.heap.size (fun k_ => (P0_9_ k_ ∨ w.heap.size ≤ k_)) v0_ r ∧ Below w.heap.size w w' := by
 have hu34 := Try.underlying34; have hu27 := Try.underlying27; have z1o := Aside0.mk hr0_0; have z1d := Aside0.mk hc0_0; clear hr0_0 hc0_0; have z1p := Aside0.mk hr0_1; have z1e := Aside0.mk hc0_1; clear hr0_1 hc0_1; have z1r := Aside0.mk hr0_2; have z1g := Aside0.mk hc0_2; clear hr0_2 hc0_2; have z1s := Aside0.mk hr0_3; have z1h := Aside0.mk hc0_3; clear hr0_3 hc0_3; have z1t := Aside0.mk hr0_4; have z1i := Aside0.mk hc0_4; clear hr0_4 hc0_4; have z1u := Aside0.mk hr0_5; have z1j := Aside0.mk hc0_5; clear hr0_5 hc0_5; have z1v := Aside0.mk hr0_6; have z1k := Aside0.mk hc0_6; clear hr0_6 hc0_6; have z1w := Aside0.mk hr0_7; have z1l := Aside0.mk hc0_7; clear hr0_7 hc0_7; have z1x := Aside0.mk hr0_8; have z1m := Aside0.mk hc0_8; clear hr0_8 hc0_8; have HO0_9 := Aside0.mk (show Kd.V k27 27 w w.heap.size (fun k_ => (P0_9_ k_ ∨ w.heap.size ≤ k_)) (.slice zk z1.length zj) z1 from Kd.V_mono hs0_9 (fun k_ hk => .inl hk)); have z1q := Aside0.mk hr0_10; have z1f := Aside0.mk hc0_10; clear hr0_10 hc0_10; have HR1 := Aside0.mk hr1; have HC1 := Aside0.mk hc1; clear hr1 hc1; have HR3 := Aside0.mk hr3; have HC3 := Aside0.mk hc3; clear hr3 hc3; have HB := Aside0.mk (Below.refl w.heap.size w); have H : (gatehouseref08_one.l0 k l1 a2 l3 ([] : List (S27)) 0 z3 z4 z6 z7 z8 z9 za zb zc z1 z5) = some r := h; clear h; have H' := Aside0.mk H; clear H
 go_enter Try.func62, Try.ntmps62
 go_wp2_with (first | ((with_reducible refine gate_dst (N := 4) rfl ?_); refine box_event ?hg (N := 4) ?hd (cs := #[.slice zl z3.length zv, .slice zm z4.length zw, .slice zo z6.length zy, .slice zp z7.length zz, .slice zq z8.length zA, .slice zr z9.length zB, .slice zs za.length zC, .slice zt zb.length zD, .slice zu zc.length zE, .slice zk z1.length zj, .slice zn z5.length zx]) (t := 34) ?hr ?_; (case hd => rfl); (case hg => rfl); (case hr => first | (go_simp; done) | (go_simp; rfl)); intro zf hg w5 hbox hb; replace HO0_9 := Aside0.mk (Kd.V_below (Kd.V_elderB (vE HO0_9.out) zf (Nat.le_of_eq hg.symm)) hb); have zd := Aside0.mk (hbox); have z1c := Aside0.mk ((by rw [hg]; exact (below_size (hW HB)) : w.heap.size ≤ zf)); have zZ := Aside0.mk ((by rw [hg]; exact (below_size (hW HB)) : w.heap.size ≤ zf)); replace HB := hF HB hb; clear hb hbox hg))
 go_loopg [9, 10] k (fun kq v9 v10 w' => ∃ (zg : List (S27)) (z0 : Int), v10 = .int .i64 z0 ∧ Aside0 (gatehouseref08_one.l0 kq l1 a2 l3 zg z0 z3 z4 z6 z7 z8 z9 za zb zc z1 z5 = some r) ∧ Aside0 (kq ≤ k) ∧ Aside0 (Kd.N k27 27 w' w.heap.size (fun k_ => (P0_9_ k_ ∨ w.heap.size ≤ k_) ∧ k_ ≠ zf) v9 zg) ∧ Aside0 (Kd.V k27 27 w' w.heap.size (fun k_ => (P0_9_ k_ ∨ w.heap.size ≤ k_) ∧ oN k_ v9 ∧ k_ ≠ zf) (.slice zk z1.length zj) z1) ∧ Aside0 (w'.heap[zf]? = some (.cells #[(.slice zl z3.length zv), (.slice zm z4.length zw), (.slice zo z6.length zy), (.slice zp z7.length zz), (.slice zq z8.length zA), (.slice zr z9.length zB), (.slice zs za.length zC), (.slice zt zb.length zD), (.slice zu zc.length zE), (.slice zk z1.length zj), (.slice zn z5.length zx)] 34 (0, 0))) ∧ Aside0 (Below w.heap.size w w'))
 case atStart => exact ⟨(([] : List (S27))), (0), (by first | rfl | (simp; done) | (simp [*]; done)), H', ⟨Nat.le_refl _⟩, ⟨by first | exact Kd.S_nil _ _ _ _ _ | exact Kd.N_nil _ _ _ _ _ | exact Kd.V_nil _ _ _ _ _ | exact Kd.Q_nil _ _ _ _ _ | exact Kd.R_nil _ _ _ _ _⟩, ⟨by (with_reducible repeat (first | apply Kd.V_alloc | apply Kd.V_drewN | apply Kd.V_drew)); exact Kd.V_mono HO0_9.out (fun _ hk => ⟨hk.1, ⟨(by simp [Value.ownBlock]), hk.2⟩⟩)⟩, ⟨bE zd⟩, ⟨hW HB⟩⟩
 case round =>
  clear H'
  try clear c1
  try clear p2
  try clear c3
  obtain ⟨zg, z0, rfl, HA, HK1, zi, z2, zd, HB⟩ := hrel
  cases gk with
  | zero => exact absurd HA.out (by simp [gatehouseref08_one.l0])
  | succ k1 =>
   have H := HA.out; clear HA
   simp only [gatehouseref08_one.l0] at H
   by_cases c6 : z0 < (z1.length : Int)
   ·rw [if_pos c6] at H
    have z14 : decide (z0 < (z1.length : Int)) = true := decide_eq_true c6; clear c6
    by_cases c7 : 0 ≤ z0
    ·rw [if_pos c7] at H
     have z1z : decide (0 ≤ z0) = true := decide_eq_true c7; clear c7; replace H := Option.bind_eq_some_iff.mp H; obtain ⟨t821, A80, H⟩ := H; replace H : (if t821 = true then (if zg.length < 1759218604441 then (gatehouseref08_one.l0 k1 l1 a2 l3 (zg ++ [(⟨(rd_T27 z1 z0).f0, (rd_T27 z1 z0).f1, (rd_T27 z1 z0).f2, (rd_T27 z1 z0).f3, (rd_T27 z1 z0).f4, (rd_T27 z1 z0).f5⟩ : S27)]) (wrap64 (z0 + 1)) z3 z4 z6 z7 z8 z9 za zb zc z1 z5) else (none)) else (gatehouseref08_one.l0 k1 l1 a2 l3 zg (wrap64 (z0 + 1)) z3 z4 z6 z7 z8 z9 za zb zc z1 z5)) = some r := H; have A8 := Aside0.mk A80; clear A80
     by_cases c9 : t821 = true
     ·subst c9
      have H1 : (if zg.length < 1759218604441 then (gatehouseref08_one.l0 k1 l1 a2 l3 (zg ++ [(⟨(rd_T27 z1 z0).f0, (rd_T27 z1 z0).f1, (rd_T27 z1 z0).f2, (rd_T27 z1 z0).f3, (rd_T27 z1 z0).f4, (rd_T27 z1 z0).f5⟩ : S27)]) (wrap64 (z0 + 1)) z3 z4 z6 z7 z8 z9 za zb zc z1 z5) else (none)) = some r := by rw [if_pos rfl] at H; exact H
      clear H; have H := H1; clear H1
      by_cases c10 : zg.length < 1759218604441
      ·rw [if_pos c10] at H
       have z11 := Aside0.mk c10; clear c10; obtain ⟨y823, hy823⟩ : ∃ y_ : List (S27), y_ = (zg ++ [(⟨(rd_T27 z1 z0).f0, (rd_T27 z1 z0).f1, (rd_T27 z1 z0).f2, (rd_T27 z1 z0).f3, (rd_T27 z1 z0).f4, (rd_T27 z1 z0).f5⟩ : S27)]) := ⟨_, rfl⟩
       replace H : (gatehouseref08_one.l0 k1 l1 a2 l3 y823 (wrap64 (z0 + 1)) z3 z4 z6 z7 z8 z9 za zb zc z1 z5) = some r := by first | (rw [hy823]; with_reducible exact H) | (have H2_ := (Option.bind_some _ _).symm.trans H; rw [hy823]; with_reducible exact H2_) | (have H2_ := (Option.bind_some _ _).symm.trans H; with_reducible exact H2_) | with_reducible exact H | (rw [hy823]; exact H) | exact H
       have z12 := Aside0.mk hy823; clear hy823; have H' := Aside0.mk H; clear H; obtain ⟨z1A, z1B, z1D, z1E, z1F, z1G, z1H, z1I, z1J, z1K, z1C, z2j, z2k, z2m, z2n, z2o, z2p, z2q, z2r, z2s, z2t, z2l⟩ := bC11 zd; have p820 : 0 ≤ (z0 : Int) := of_decide_eq_true (by first | (with_reducible assumption) | assumption); have q820 : z0 < (z1.length : Int) := of_decide_eq_true (by first | (with_reducible assumption) | assumption); obtain ⟨zJ, zH, zK, e820, z16, z17, z18, zL, z19, z1a, zG, zF⟩ := at_T27 (Kd.V_reads' z2.out).2.2 z0 p820 q820
       cases e820
       obtain ⟨ce820, hce820, hMe820, hcc820⟩ := Kd.V_get z2.out z27 z0 p820 (by first | exact q820 | exact of_decide_eq_true (by first | (with_reducible assumption) | assumption) | (have e_ := (Kd.V_reads' z2.out).1; omega)); obtain ⟨ua820_3, uc820_3, rfl, ul820_3, ge820_3⟩ := k27_openF hMe820; have hv820_3 := hcc820 3 _ rfl
       rw [add_field _ _ 3 (by omega)] at hv820_3
       replace hv820_3 := Option.some.inj (hv820_3.symm.trans zL)
       injection hv820_3 with hva_ hvn_ hvc_
       rw [hva_] at ge820_3
       rw [hvc_] at ul820_3
       have HL820_3 := Aside0.mk (show Kd.V Kd.string 9 _ w.heap.size _ _ ((rd_T27 z1 z0).f3) from Kd.V_mk ul820_3 ge820_3); clear hva_ hvn_ hvc_ ge820_3 ul820_3 hcc820 hce820; have zh := Aside0.mk zF; have zI := Aside0.mk zG; clear zF zG; replace p820 := eq_true p820; replace q820 := eq_true q820
       go_wp2_with (first | ((with_reducible refine gate_callee (f := 52) rfl ?_); refine goesL_ (some 27) rfl rfl Try.func52 (by kernel_rfl) rfl #[.agg #[.bool ((rd_T27 z1 z0).f0), .string ((rd_T27 z1 z0).f1), .string ((rd_T27 z1 z0).f2), .slice zH ((rd_T27 z1 z0).f3).length zK, .int .i8 ((rd_T27 z1 z0).f4), .float .f64 ((rd_T27 z1 z0).f5)], .slice A1 l1.length c1, .float .f64 a2, .slice A3 l3.length c3] rfl (by (try simp only [List.map_toArray, List.map_cons, List.map_nil]); first | done | rfl | (simp only [List.length_drop, List.length_take]; rfl)) ?_; (with_reducible refine (gatehouseref08_about.calls k1 ((rd_T27 z1 z0).f0) ((rd_T27 z1 z0).f1) ((rd_T27 z1 z0).f2) _ _ ((rd_T27 z1 z0).f3) ((rd_T27 z1 z0).f4) ((rd_T27 z1 z0).f5) _ _ l1 a2 _ _ l3 true _ ?side1 ?side2 ?side3 ?side4 ?side5 ?side6 A8.out).mono ?_); (case side1 => repeat (first | exact (by repeat (first | (with_reducible exact zh.out) | (with_reducible refine Kd.C_alloc ?_ _) | (with_reducible refine Kd.C_drewN ?_ _) | (with_reducible refine Kd.C_drew ?_) | exact zh.out)) | (with_reducible refine Kd.C_alloc ?_ _) | (with_reducible refine Kd.C_drewN ?_ _) | (with_reducible refine Kd.C_drew ?_))); (case side2 => exact zI.out); (case side3 => exact cE (Kd.C_below HR1.out HB.out)); (case side4 => exact HC1.out); (case side5 => exact cE (Kd.C_below HR3.out HB.out)); (case side6 => exact HC3.out); rintro e w12 ⟨rfl, hb⟩; refine ⟨_, rfl, ?_⟩; replace zi := nF zi hb; replace z2 := vF z2 hb; replace HL820_3 := vF HL820_3 hb; replace zd := kF zd hb; replace zh := Aside0.mk (Kd.C_below (by repeat (first | (with_reducible exact zh.out) | (with_reducible refine Kd.C_alloc ?_ _) | (with_reducible refine Kd.C_drewN ?_ _) | (with_reducible refine Kd.C_drew ?_) | exact zh.out)) hb); replace HB := hF HB hb; (try clear hb); (try clear hb2); (try clear hk); (try clear hi); obtain ⟨z1L, z1M, z1O, z1P, z1Q, z1R, z1S, z1T, z1U, z1V, z1N, z2u, z2v, z2x, z2y, z2z, z2A, z2B, z2C, z2D, z2E, z2w⟩ := bC11 zd; have p822 : 0 ≤ (z0 : Int) := of_decide_eq_true (by first | (with_reducible assumption) | assumption); have q822 : z0 < (z1.length : Int) := of_decide_eq_true (by first | (with_reducible assumption) | assumption); obtain ⟨z13, zY, z15, e822, z31, z32, z33, z1b, z34, z35, zN, zM⟩ := at_T27 (Kd.V_reads' z2.out).2.2 z0 p822 q822; obtain rfl : zJ = z13 := (by injection e822); obtain ⟨ce822, hce822, hMe822, hcc822⟩ := Kd.V_get z2.out z27 z0 p822 (by first | exact q822 | exact of_decide_eq_true (by first | (with_reducible assumption) | assumption) | (have e_ := (Kd.V_reads' z2.out).1; omega)); obtain ⟨ua822_3, uc822_3, rfl, ul822_3, ge822_3⟩ := k27_openF hMe822; have hv822_3 := hcc822 3 _ rfl; rw [add_field _ _ 3 (by omega)] at hv822_3; replace hv822_3 := Option.some.inj (hv822_3.symm.trans z1b); injection hv822_3 with hva_ hvn_ hvc_; rw [hva_] at ge822_3; rw [hvc_] at ul822_3; have HL822_3 := Aside0.mk (show Kd.V Kd.string 9 _ w.heap.size _ _ ((rd_T27 z1 z0).f3) from Kd.V_mk ul822_3 ge822_3); clear hva_ hvn_ hvc_ ge822_3 ul822_3; clear hcc822 hce822; have z1y := Aside0.mk zM; have z1n := Aside0.mk zN; clear zM zN; replace p822 := eq_true p822; replace q822 := eq_true q822) | ((with_reducible refine gate_builtin (b := .append) (xs := #[.tmp 29, .tmp 35]) rfl ?_); at_builtin; refine Kd.N_append k27 (w0 := w) w.heap.size rfl (.tmp 29) (.tmp 35) 31 27 (.agg #[(.bool false), (.string ⟨#[]⟩), (.string ⟨#[]⟩), (.slice none 0 0), (.int .i8 0), (.float .f64 0)]) 80 rfl Try.underlying31 info27 rfl (by decide) (by omega) u9 zg (⟨(rd_T27 z1 z0).f0, (rd_T27 z1 z0).f1, (rd_T27 z1 z0).f2, (rd_T27 z1 z0).f3, (rd_T27 z1 z0).f4, (rd_T27 z1 z0).f5⟩ : S27) [.bool ((rd_T27 z1 z0).f0), .string ((rd_T27 z1 z0).f1), .string ((rd_T27 z1 z0).f2), .slice zY ((rd_T27 z1 z0).f3).length z15, .int .i8 ((rd_T27 z1 z0).f4), .float .f64 ((rd_T27 z1 z0).f5)] (fun k_ => (P0_9_ k_ ∨ w.heap.size ≤ k_) ∧ k_ ≠ zf) (fun k_ => ((fun k_ => (P0_9_ k_ ∨ w.heap.size ≤ k_) ∧ k_ ≠ zf)) k_ ∧ oN k_ u9) rfl rfl ?aP (fun _ hk => hk) ?aF ?aO ?aB ?aS ?aL ?_; (case aP => exact (k27_mkF _ _ (⟨(rd_T27 z1 z0).f0, (rd_T27 z1 z0).f1, (rd_T27 z1 z0).f2, (rd_T27 z1 z0).f3, (rd_T27 z1 z0).f4, (rd_T27 z1 z0).f5⟩ : S27) (Kd.V_reads' (Kd.V_mono (ok' := (fun k_ => ((fun k_ => (P0_9_ k_ ∨ w.heap.size ≤ k_) ∧ k_ ≠ zf)) k_ ∧ oN k_ u9)) (HL822_3.out) (fun k_ hk => ⟨⟨hk.1, hk.2.2⟩, hk.2.1⟩))).2.1 (Kd.V_F (Kd.V_mono (ok' := (fun k_ => ((fun k_ => (P0_9_ k_ ∨ w.heap.size ≤ k_) ∧ k_ ≠ zf)) k_ ∧ oN k_ u9)) (HL822_3.out) (fun k_ hk => ⟨⟨hk.1, hk.2.2⟩, hk.2.1⟩))))); (case aB => exact (hW HB)); (case aF => exact (fun k_ hk => ⟨(.inr (Nat.le_trans (below_size (hW HB)) hk)), Kd.freshB (g := zf) (o := .cells #[.slice zl z3.length zv, .slice zm z4.length zw, .slice zo z6.length zy, .slice zp z7.length zz, .slice zq z8.length zA, .slice zr z9.length zB, .slice zs za.length zC, .slice zt zb.length zD, .slice zu zc.length zE, .slice (some zJ) z1.length zj, .slice zn z5.length zx] 34 (0, 0)) (bE zd) k_ hk⟩)); (case aO => exact (nE zi.out)); (case aS => exact (below_size (hW HB))); (case aL => have := z11.out; omega); intro v824 w14 ho hb hg hat; rw [← z12.out] at ho; replace z2 := Aside0.mk (Kd.V_afterv (ok := (fun k_ => (P0_9_ k_ ∨ w.heap.size ≤ k_) ∧ k_ ≠ zf)) (by (with_reducible repeat (first | apply Kd.V_alloc | apply Kd.V_drewN | apply Kd.V_drew)); exact Kd.V_mono z2.out (fun _ hk => ⟨⟨hk.1, hk.2.2⟩, hk.2.1⟩)) hg hat); replace zd := Aside0.mk (bG zd hg (Kd.N_ne zi.out zd.out (by decide))); replace HL820_3 := Aside0.mk (Kd.V_afterv (ok := (fun k_ => (P0_9_ k_ ∨ w.heap.size ≤ k_) ∧ k_ ≠ zf)) (by (with_reducible repeat (first | apply Kd.V_alloc | apply Kd.V_drewN | apply Kd.V_drew)); exact Kd.V_mono HL820_3.out (fun _ hk => ⟨⟨hk.1, hk.2.2⟩, hk.2.1⟩)) hg hat); replace HL822_3 := Aside0.mk (Kd.V_afterv (ok := (fun k_ => (P0_9_ k_ ∨ w.heap.size ≤ k_) ∧ k_ ≠ zf)) (by (with_reducible repeat (first | apply Kd.V_alloc | apply Kd.V_drewN | apply Kd.V_drew)); exact Kd.V_mono HL822_3.out (fun _ hk => ⟨⟨hk.1, hk.2.2⟩, hk.2.1⟩)) hg hat); replace HB := Aside0.mk (hb); have z10 := Aside0.mk (ho); clear zi; clear ho hb hg hat))
       go_roundg k1
       case measure => have := HK1.out; omega
       case rel => exact ⟨(y823), (wrap64 (z0 + 1)), (by first | rfl | (simp; done) | (simp [*]; done)), H', ⟨by have := HK1.out; omega⟩, ⟨nE z10.out⟩, ⟨by (with_reducible repeat (first | apply Kd.V_alloc | apply Kd.V_drewN | apply Kd.V_drew)); exact Kd.V_mono z2.out (fun _ hk => ⟨hk.1.1, ⟨hk.2, hk.1.2⟩⟩)⟩, ⟨bE zd⟩, ⟨hW HB⟩⟩
      ·rw [if_neg c10] at H
       exact absurd H (by simp)
     ·replace c9 := Bool.eq_false_iff.mpr c9
      subst c9
      have H1 : (gatehouseref08_one.l0 k1 l1 a2 l3 zg (wrap64 (z0 + 1)) z3 z4 z6 z7 z8 z9 za zb zc z1 z5) = some r := by rw [if_neg (show ¬ (false = true) by decide)] at H; exact H
      clear H; have H := H1; clear H1; have H' := Aside0.mk H; clear H; obtain ⟨z1W, z1X, z1Z, z20, z21, z22, z23, z24, z25, z26, z1Y, z2F, z2G, z2I, z2J, z2K, z2L, z2M, z2N, z2O, z2P, z2H⟩ := bC11 zd; have p820 : 0 ≤ (z0 : Int) := of_decide_eq_true (by first | (with_reducible assumption) | assumption); have q820 : z0 < (z1.length : Int) := of_decide_eq_true (by first | (with_reducible assumption) | assumption); obtain ⟨zJ, zH, zK, e820, z16, z17, z18, zL, z19, z1a, zG, zF⟩ := at_T27 (Kd.V_reads' z2.out).2.2 z0 p820 q820
      cases e820
      obtain ⟨ce820, hce820, hMe820, hcc820⟩ := Kd.V_get z2.out z27 z0 p820 (by first | exact q820 | exact of_decide_eq_true (by first | (with_reducible assumption) | assumption) | (have e_ := (Kd.V_reads' z2.out).1; omega)); obtain ⟨ua820_3, uc820_3, rfl, ul820_3, ge820_3⟩ := k27_openF hMe820; have hv820_3 := hcc820 3 _ rfl
      rw [add_field _ _ 3 (by omega)] at hv820_3
      replace hv820_3 := Option.some.inj (hv820_3.symm.trans zL)
      injection hv820_3 with hva_ hvn_ hvc_
      rw [hva_] at ge820_3
      rw [hvc_] at ul820_3
      have HL820_3 := Aside0.mk (show Kd.V Kd.string 9 _ w.heap.size _ _ ((rd_T27 z1 z0).f3) from Kd.V_mk ul820_3 ge820_3); clear hva_ hvn_ hvc_ ge820_3 ul820_3 hcc820 hce820; have zh := Aside0.mk zF; have zI := Aside0.mk zG; clear zF zG; replace p820 := eq_true p820; replace q820 := eq_true q820
      go_wp2_with (first | ((with_reducible refine gate_callee (f := 52) rfl ?_); refine goesL_ (some 27) rfl rfl Try.func52 (by kernel_rfl) rfl #[.agg #[.bool ((rd_T27 z1 z0).f0), .string ((rd_T27 z1 z0).f1), .string ((rd_T27 z1 z0).f2), .slice zH ((rd_T27 z1 z0).f3).length zK, .int .i8 ((rd_T27 z1 z0).f4), .float .f64 ((rd_T27 z1 z0).f5)], .slice A1 l1.length c1, .float .f64 a2, .slice A3 l3.length c3] rfl (by (try simp only [List.map_toArray, List.map_cons, List.map_nil]); first | done | rfl | (simp only [List.length_drop, List.length_take]; rfl)) ?_; (with_reducible refine (gatehouseref08_about.calls k1 ((rd_T27 z1 z0).f0) ((rd_T27 z1 z0).f1) ((rd_T27 z1 z0).f2) _ _ ((rd_T27 z1 z0).f3) ((rd_T27 z1 z0).f4) ((rd_T27 z1 z0).f5) _ _ l1 a2 _ _ l3 false _ ?side1 ?side2 ?side3 ?side4 ?side5 ?side6 A8.out).mono ?_); (case side1 => repeat (first | exact (by repeat (first | (with_reducible exact zh.out) | (with_reducible refine Kd.C_alloc ?_ _) | (with_reducible refine Kd.C_drewN ?_ _) | (with_reducible refine Kd.C_drew ?_) | exact zh.out)) | (with_reducible refine Kd.C_alloc ?_ _) | (with_reducible refine Kd.C_drewN ?_ _) | (with_reducible refine Kd.C_drew ?_))); (case side2 => exact zI.out); (case side3 => exact cE (Kd.C_below HR1.out HB.out)); (case side4 => exact HC1.out); (case side5 => exact cE (Kd.C_below HR3.out HB.out)); (case side6 => exact HC3.out); rintro e w16 ⟨rfl, hb⟩; refine ⟨_, rfl, ?_⟩; replace zi := nF zi hb; replace z2 := vF z2 hb; replace HL820_3 := vF HL820_3 hb; replace zd := kF zd hb; replace zh := Aside0.mk (Kd.C_below (by repeat (first | (with_reducible exact zh.out) | (with_reducible refine Kd.C_alloc ?_ _) | (with_reducible refine Kd.C_drewN ?_ _) | (with_reducible refine Kd.C_drew ?_) | exact zh.out)) hb); replace HB := hF HB hb; (try clear hb); (try clear hb2); (try clear hk); (try clear hi)))
      go_roundg k1
      case measure => have := HK1.out; omega
      case rel => exact ⟨(zg), (wrap64 (z0 + 1)), (by first | rfl | (simp; done) | (simp [*]; done)), H', ⟨by have := HK1.out; omega⟩, ⟨nE zi.out⟩, ⟨vE z2.out⟩, ⟨bE zd⟩, ⟨hW HB⟩⟩
    ·rw [if_neg c7] at H
     exact absurd H (by simp)
   ·rw [if_neg c6] at H
    have z14 : decide (z0 < (z1.length : Int)) = false := decide_eq_false c6; clear c6
    obtain rfl := Option.some.inj H
    obtain ⟨z28, z29, z2b, z2c, z2d, z2e, z2f, z2g, z2h, z2i, z2a, z2Q, z2R, z2T, z2U, z2V, z2W, z2X, z2Y, z2Z, z30, z2S⟩ := bC11 zd
    go_wp2
    go_ret
    exact ⟨_, by first | rfl | (simp [errW_none, errW_some] <;> rfl) | (simp [*, errW_none, errW_some] <;> rfl), by (with_reducible repeat (first | apply Kd.N_alloc | apply Kd.N_drewN | apply Kd.N_drew)); exact Kd.N_mono zi.out (fun _ hk => hk.1), by repeat (first | (with_reducible first | exact HB.out | apply below_alloc | apply pw_below_drewN | apply below_drew1 | refine below_set ?_ zZ.out) | exact HB.out)⟩

/-! ### gatehouseref08_may: function 63 -/
mutual
def gatehouseref08_may.l0 : Nat → List (S27) → Bool → Int → List ByteArray → List (S57) → List ByteArray → List ByteArray → List ByteArray → List (S86) → List (S86) → List (S86) → List (S86) → List (S27) → List (S36) → ByteArray → ByteArray → ByteArray → Option (Bool)
 | 0, _, _, _, _, _, _, _, _, _, _, _, _, _, _, _, _, _ => none
 | k + 1, x1, x7, x8, z12, z13, z14, z15, z16, z17, z18, z19, z1a, z1b, z1c, z1d, z1e, zF => if x8 < (x1.length : Int) then (if 0 ≤ x8 then ((gatehouseref08_in.f k ((rd_T27 x1 x8).f3) zF).bind fun t830 => (if t830 = true then (gatehouseref08_may.j1 k x1 x7 x8 true z12 z13 z14 z15 z16 z17 z18 z19 z1a z1b z1c z1d z1e zF) else (gatehouseref08_may.j1 k x1 x7 x8 ((((rd_T27 x1 x8).f3).length : Int) == 0) z12 z13 z14 z15 z16 z17 z18 z19 z1a z1b z1c z1d z1e zF))) else (none)) else ((gatehouseref08_excepted.f k z12 z13 z14 z15 z16 z17 z18 z19 z1a z1b z1c z1d z1e zF).bind fun t828 => (if x7 = true then (some (!t828)) else (some false)))
def gatehouseref08_may.j1 : Nat → List (S27) → Bool → Int → Bool → List ByteArray → List (S57) → List ByteArray → List ByteArray → List ByteArray → List (S86) → List (S86) → List (S86) → List (S86) → List (S27) → List (S36) → ByteArray → ByteArray → ByteArray → Option (Bool)
 | 0, _, _, _, _, _, _, _, _, _, _, _, _, _, _, _, _, _, _ => none
 | k + 1, x1, x7, x8, x34, z12, z13, z14, z15, z16, z17, z18, z19, z1a, z1b, z1c, z1d, z1e, zF => if x34 = true then (if 0 ≤ x8 then (if x8 < (x1.length : Int) then (if (rd_T27 x1 x8).f0 = true then (some false) else (gatehouseref08_may.l0 k x1 true (wrap64 (x8 + 1)) z12 z13 z14 z15 z16 z17 z18 z19 z1a z1b z1c z1d z1e zF)) else (none)) else (none)) else (gatehouseref08_may.l0 k x1 x7 (wrap64 (x8 + 1)) z12 z13 z14 z15 z16 z17 z18 z19 z1a z1b z1c z1d z1e zF)
end
def gatehouseref08_may.f (k : Nat) (z2 : List ByteArray) (z3 : List (S57)) (z5 : List ByteArray) (z6 : List ByteArray) (z7 : List ByteArray) (z8 : List (S86)) (z9 : List (S86)) (za : List (S86)) (zb : List (S86)) (zc : List (S27)) (z4 : List (S36)) (l1 : List (S27)) (a2_0 : ByteArray) (a2_1 : ByteArray) (a2_2 : ByteArray) : Option (Bool) := gatehouseref08_may.l0 k l1 false 0 z2 z3 z5 z6 z7 z8 z9 za zb zc z4 a2_0 a2_1 a2_2
set_option maxHeartbeats 8000000 in
set_option maxRecDepth 100000 in
theorem gatehouseref08_may.calls (k : Nat) (zi : Option Addr) (zt : Nat) (z2 : List ByteArray) (zj : Option Addr) (zu : Nat) (z3 : List (S57)) (zl : Option Addr) (zw : Nat) (z5 : List ByteArray) (zm : Option Addr) (zx : Nat) (z6 : List ByteArray) (zn : Option Addr) (zy : Nat) (z7 : List ByteArray) (zo : Option Addr) (zz : Nat) (z8 : List (S86)) (zp : Option Addr) (zA : Nat) (z9 : List (S86)) (zq : Option Addr) (zB : Nat) (za : List (S86)) (zr : Option Addr) (zC : Nat) (zb : List (S86)) (zs : Option Addr) (zD : Nat) (zc : List (S27)) (zk : Option Addr) (zv : Nat) (z4 : List (S36)) (A1 : Option Addr) (c1 : Nat) (l1 : List (S27)) (a2_0 : ByteArray) (a2_1 : ByteArray) (a2_2 : ByteArray) (r : Bool) (w : World) (hr0_0 : Kd.C Kd.string w zi z2.length z2) (hc0_0 : z2.length ≤ zt) (hr0_1 : Kd.C k57 w zj z3.length z3) (hc0_1 : z3.length ≤ zu) (hr0_2 : Kd.C Kd.string w zl z5.length z5) (hc0_2 : z5.length ≤ zw) (hr0_3 : Kd.C Kd.string w zm z6.length z6) (hc0_3 : z6.length ≤ zx) (hr0_4 : Kd.C Kd.string w zn z7.length z7) (hc0_4 : z7.length ≤ zy) (hr0_5 : Kd.C k86 w zo z8.length z8) (hc0_5 : z8.length ≤ zz) (hr0_6 : Kd.C k86 w zp z9.length z9) (hc0_6 : z9.length ≤ zA) (hr0_7 : Kd.C k86 w zq za.length za) (hc0_7 : za.length ≤ zB) (hr0_8 : Kd.C k86 w zr zb.length zb) (hc0_8 : zb.length ≤ zC) (hr0_9 : Kd.C k27 w zs zc.length zc) (hc0_9 : zc.length ≤ zD) (hr0_10 : Kd.C k36 w zk z4.length z4) (hc0_10 : z4.length ≤ zv) (hr1 : Kd.C k27 w A1 l1.length l1) (hc1 : l1.length ≤ c1) (h : gatehouseref08_may.f k z2 z3 z5 z6 z7 z8 z9 za zb zc z4 l1 a2_0 a2_1 a2_2 = some r) :
  Calls Try.prog 63 #[.agg #[.slice zi z2.length zt, .slice zj z3.length zu, .slice zl z5.length zw, .slice zm z6.length zx, .slice zn z7.length zy, .slice zo z8.length zz, .slice zp z9.length zA, .slice zq za.length zB, .slice zr zb.length zC, .slice zs zc.length zD, .slice zk z4.length zv], .slice A1 l1.length c1, .agg #[.string a2_0, .string a2_1, .string a2_2]] w fun e w' => e = .returned (.bool r) ∧ Below w.heap.size w w' := by
 have hu34 := Try.underlying34; have hu36 := Try.underlying36; have zR := Aside0.mk hr0_0; have zG := Aside0.mk hc0_0; clear hr0_0 hc0_0; have zS := Aside0.mk hr0_1; have zH := Aside0.mk hc0_1; clear hr0_1 hc0_1; have zU := Aside0.mk hr0_2; have zJ := Aside0.mk hc0_2; clear hr0_2 hc0_2; have zV := Aside0.mk hr0_3; have zK := Aside0.mk hc0_3; clear hr0_3 hc0_3; have zW := Aside0.mk hr0_4; have zL := Aside0.mk hc0_4; clear hr0_4 hc0_4; have zX := Aside0.mk hr0_5; have zM := Aside0.mk hc0_5; clear hr0_5 hc0_5; have zY := Aside0.mk hr0_6; have zN := Aside0.mk hc0_6; clear hr0_6 hc0_6; have zZ := Aside0.mk hr0_7; have zO := Aside0.mk hc0_7; clear hr0_7 hc0_7; have z10 := Aside0.mk hr0_8; have zP := Aside0.mk hc0_8; clear hr0_8 hc0_8; have z11 := Aside0.mk hr0_9; have zQ := Aside0.mk hc0_9; clear hr0_9 hc0_9; have zT := Aside0.mk hr0_10; have zI := Aside0.mk hc0_10; clear hr0_10 hc0_10; have HR1 := Aside0.mk hr1; have HC1 := Aside0.mk hc1; clear hr1 hc1; have HB := Aside0.mk (Below.refl w.heap.size w); have H : (gatehouseref08_may.l0 k l1 false 0 z2 z3 z5 z6 z7 z8 z9 za zb zc z4 a2_0 a2_1 a2_2) = some r := h; clear h; have H' := Aside0.mk H; clear H
 go_enter Try.func63, Try.ntmps63
 go_wp2_with (first | ((with_reducible refine gate_dst (N := 3) rfl ?_); (try (refine gate_guard (by rfl) ?_; dsimp only)); refine box_event ?hg (N := 3) ?hd (cs := #[.slice zi z2.length zt, .slice zj z3.length zu, .slice zl z5.length zw, .slice zm z6.length zx, .slice zn z7.length zy, .slice zo z8.length zz, .slice zp z9.length zA, .slice zq za.length zB, .slice zr zb.length zC, .slice zs zc.length zD, .slice zk z4.length zv]) (t := 34) ?hr ?_; (case hd => rfl); (case hg => rfl); (case hr => first | (go_simp; done) | (go_simp; rfl)); intro ze hg w4 hbox hb; have z1 := Aside0.mk (hbox); have z1H := Aside0.mk ((by rw [hg]; exact (below_size (hW HB)) : w.heap.size ≤ ze)); have z1f := Aside0.mk ((by rw [hg]; exact (below_size (hW HB)) : w.heap.size ≤ ze)); replace HB := hF HB hb; clear hb hbox hg) | ((with_reducible refine gate_dst (N := 5) rfl ?_); (try (refine gate_guard (by rfl) ?_; dsimp only)); refine box_event ?hg (N := 5) ?hd (cs := #[.string a2_0, .string a2_1, .string a2_2]) (t := 36) ?hr ?_; (case hd => rfl); (case hg => rfl); (case hr => first | (go_simp; done) | (go_simp; rfl)); intro zf hg w5 hbox hb; have zd := Aside0.mk (hbox); have z1I := Aside0.mk ((by rw [hg]; exact (below_size (hW HB)) : w.heap.size ≤ zf)); have z1g := Aside0.mk ((by rw [hg]; exact (below_size (hW HB)) : w.heap.size ≤ zf)); replace HB := hF HB hb; have z1h := Aside0.mk ((by rw [hg]; exact Nat.ne_of_lt (bL z1) : ze ≠ zf)); have z1i := Aside0.mk ((by rw [hg]; exact Nat.ne_of_gt (bL z1) : zf ≠ ze)); replace z1 := kF z1 hb; clear hb hbox hg))
 repeat (go_quiet (first | ((with_reducible refine gate_dst (N := 3) rfl ?_); (try (refine gate_guard (by rfl) ?_; dsimp only)); refine box_event ?hg (N := 3) ?hd (cs := #[.slice zi z2.length zt, .slice zj z3.length zu, .slice zl z5.length zw, .slice zm z6.length zx, .slice zn z7.length zy, .slice zo z8.length zz, .slice zp z9.length zA, .slice zq za.length zB, .slice zr zb.length zC, .slice zs zc.length zD, .slice zk z4.length zv]) (t := 34) ?hr ?_; (case hd => rfl); (case hg => rfl); (case hr => first | (go_simp; done) | (go_simp; rfl)); intro ze hg w4 hbox hb; have z1 := Aside0.mk (hbox); have z1H := Aside0.mk ((by rw [hg]; exact (below_size (hW HB)) : w.heap.size ≤ ze)); have z1f := Aside0.mk ((by rw [hg]; exact (below_size (hW HB)) : w.heap.size ≤ ze)); replace HB := hF HB hb; clear hb hbox hg) | ((with_reducible refine gate_dst (N := 5) rfl ?_); (try (refine gate_guard (by rfl) ?_; dsimp only)); refine box_event ?hg (N := 5) ?hd (cs := #[.string a2_0, .string a2_1, .string a2_2]) (t := 36) ?hr ?_; (case hd => rfl); (case hg => rfl); (case hr => first | (go_simp; done) | (go_simp; rfl)); intro zf hg w5 hbox hb; have zd := Aside0.mk (hbox); have z1I := Aside0.mk ((by rw [hg]; exact (below_size (hW HB)) : w.heap.size ≤ zf)); have z1g := Aside0.mk ((by rw [hg]; exact (below_size (hW HB)) : w.heap.size ≤ zf)); replace HB := hF HB hb; have z1h := Aside0.mk ((by rw [hg]; exact Nat.ne_of_lt (bL z1) : ze ≠ zf)); have z1i := Aside0.mk ((by rw [hg]; exact Nat.ne_of_gt (bL z1) : zf ≠ ze)); replace z1 := kF z1 hb; clear hb hbox hg)); try go_wp2_with (first | ((with_reducible refine gate_dst (N := 3) rfl ?_); (try (refine gate_guard (by rfl) ?_; dsimp only)); refine box_event ?hg (N := 3) ?hd (cs := #[.slice zi z2.length zt, .slice zj z3.length zu, .slice zl z5.length zw, .slice zm z6.length zx, .slice zn z7.length zy, .slice zo z8.length zz, .slice zp z9.length zA, .slice zq za.length zB, .slice zr zb.length zC, .slice zs zc.length zD, .slice zk z4.length zv]) (t := 34) ?hr ?_; (case hd => rfl); (case hg => rfl); (case hr => first | (go_simp; done) | (go_simp; rfl)); intro ze hg w4 hbox hb; have z1 := Aside0.mk (hbox); have z1H := Aside0.mk ((by rw [hg]; exact (below_size (hW HB)) : w.heap.size ≤ ze)); have z1f := Aside0.mk ((by rw [hg]; exact (below_size (hW HB)) : w.heap.size ≤ ze)); replace HB := hF HB hb; clear hb hbox hg) | ((with_reducible refine gate_dst (N := 5) rfl ?_); (try (refine gate_guard (by rfl) ?_; dsimp only)); refine box_event ?hg (N := 5) ?hd (cs := #[.string a2_0, .string a2_1, .string a2_2]) (t := 36) ?hr ?_; (case hd => rfl); (case hg => rfl); (case hr => first | (go_simp; done) | (go_simp; rfl)); intro zf hg w5 hbox hb; have zd := Aside0.mk (hbox); have z1I := Aside0.mk ((by rw [hg]; exact (below_size (hW HB)) : w.heap.size ≤ zf)); have z1g := Aside0.mk ((by rw [hg]; exact (below_size (hW HB)) : w.heap.size ≤ zf)); replace HB := hF HB hb; have z1h := Aside0.mk ((by rw [hg]; exact Nat.ne_of_lt (bL z1) : ze ≠ zf)); have z1i := Aside0.mk ((by rw [hg]; exact Nat.ne_of_gt (bL z1) : zf ≠ ze)); replace z1 := kF z1 hb; clear hb hbox hg)))
 go_loopg [7, 8] k (fun kq v7 v8 w' => ∃ (zh : Bool) (z0 : Int), v7 = .bool zh ∧ v8 = .int .i64 z0 ∧ Aside0 (gatehouseref08_may.l0 kq l1 zh z0 z2 z3 z5 z6 z7 z8 z9 za zb zc z4 a2_0 a2_1 a2_2 = some r) ∧ Aside0 (kq ≤ k) ∧ Aside0 (w'.heap[ze]? = some (.cells #[(.slice zi z2.length zt), (.slice zj z3.length zu), (.slice zl z5.length zw), (.slice zm z6.length zx), (.slice zn z7.length zy), (.slice zo z8.length zz), (.slice zp z9.length zA), (.slice zq za.length zB), (.slice zr zb.length zC), (.slice zs zc.length zD), (.slice zk z4.length zv)] 34 (0, 0))) ∧ Aside0 (w'.heap[zf]? = some (.cells #[.string a2_0, .string a2_1, .string a2_2] 36 (0, 0))) ∧ Aside0 (Below w.heap.size w w'))
 case atStart => exact ⟨(false), (0), (by first | rfl | (simp; done) | (simp [*]; done)), (by first | rfl | (simp; done) | (simp [*]; done)), H', ⟨Nat.le_refl _⟩, ⟨bE z1⟩, ⟨bE zd⟩, ⟨hW HB⟩⟩
 case round =>
  clear H'
  try clear c1
  try clear p2
  obtain ⟨zh, z0, rfl, rfl, HA, HK1, z1, zd, HB⟩ := hrel
  cases gk with
  | zero => exact absurd HA.out (by simp [gatehouseref08_may.l0])
  | succ k1 =>
   have H := HA.out; clear HA
   simp only [gatehouseref08_may.l0] at H
   by_cases c6 : z0 < (l1.length : Int)
   ·rw [if_pos c6] at H
    have z1J : decide (z0 < (l1.length : Int)) = true := decide_eq_true c6; clear c6
    by_cases c7 : 0 ≤ z0
    ·rw [if_pos c7] at H
     have z1S : decide (0 ≤ z0) = true := decide_eq_true c7; clear c7; replace H := Option.bind_eq_some_iff.mp H; obtain ⟨t830, A80, H⟩ := H; replace H : (if t830 = true then (gatehouseref08_may.j1 k1 l1 zh z0 true z2 z3 z5 z6 z7 z8 z9 za zb zc z4 a2_0 a2_1 a2_2) else (gatehouseref08_may.j1 k1 l1 zh z0 ((((rd_T27 l1 z0).f3).length : Int) == 0) z2 z3 z5 z6 z7 z8 z9 za zb zc z4 a2_0 a2_1 a2_2)) = some r := H; have A8 := Aside0.mk A80; clear A80; have HC9 := Aside0.mk H; clear H; have p829 : 0 ≤ (z0 : Int) := of_decide_eq_true (by first | (with_reducible assumption) | assumption); have q829 : z0 < (l1.length : Int) := of_decide_eq_true (by first | (with_reducible assumption) | assumption); obtain ⟨z1t, z21, z27, e829, z1v, z1w, z1x, z1y, z1z, z1A, z1M, z1K⟩ := at_T27 HR1.out z0 p829 q829
     cases e829
     replace z1v := hC HB z1v; replace z1w := hC HB z1w; replace z1x := hC HB z1x; replace z1y := hC HB z1y; replace z1z := hC HB z1z; replace z1A := hC HB z1A; have z1s := Aside0.mk z1K; have z1r := Aside0.mk z1M; clear z1K z1M; replace p829 := eq_true p829; replace q829 := eq_true q829; have z33 := z1i.out; have z36 := z1h.out; obtain ⟨z1U, z1V, z1W, z1X, z1Y, z1Z⟩ := bC3 zd
     go_upto_region 6 with (first | (go_at_call 51; (with_reducible refine (gatehouseref08_in.calls k1 _ _ ((rd_T27 l1 z0).f3) a2_2 t830 _ ?side1 ?side2 (by have h_ := A8.out; first | exact h_ | (rw [← zg.out] at h_; exact h_))).mono ?_); (case side1 => exact cE (Kd.C_below z1s.out HB.out)); (case side2 => exact z1r.out); rintro e w' ⟨rfl, ⟨nd, rfl⟩⟩; (try first | exact ⟨rfl, _, World.drewN_drewN _ _ _⟩ | exact ⟨rfl, _, Eq.trans (World.drewN_drewN _ _ _) (congrArg (World.drewN _) (Nat.add_assoc _ _ _))⟩)))
     repeat (go_quiet (first | (go_at_call 51; (with_reducible refine (gatehouseref08_in.calls k1 _ _ ((rd_T27 l1 z0).f3) a2_2 t830 _ ?side1 ?side2 (by have h_ := A8.out; first | exact h_ | (rw [← zg.out] at h_; exact h_))).mono ?_); (case side1 => exact cE (Kd.C_below z1s.out HB.out)); (case side2 => exact z1r.out); rintro e w' ⟨rfl, ⟨nd, rfl⟩⟩; (try first | exact ⟨rfl, _, World.drewN_drewN _ _ _⟩ | exact ⟨rfl, _, Eq.trans (World.drewN_drewN _ _ _) (congrArg (World.drewN _) (Nat.add_assoc _ _ _))⟩))); go_upto_region 6 with (first | (go_at_call 51; (with_reducible refine (gatehouseref08_in.calls k1 _ _ ((rd_T27 l1 z0).f3) a2_2 t830 _ ?side1 ?side2 (by have h_ := A8.out; first | exact h_ | (rw [← zg.out] at h_; exact h_))).mono ?_); (case side1 => exact cE (Kd.C_below z1s.out HB.out)); (case side2 => exact z1r.out); rintro e w' ⟨rfl, ⟨nd, rfl⟩⟩; (try first | exact ⟨rfl, _, World.drewN_drewN _ _ _⟩ | exact ⟨rfl, _, Eq.trans (World.drewN_drewN _ _ _) (congrArg (World.drewN _) (Nat.add_assoc _ _ _))⟩))))
     (try simp only [Act.put, List.setIfInBounds_toArray, List.set_cons_zero, List.set_cons_succ])
     go_cut [34] (fun v34 wc => ∃ (kq : Nat) (z1q : Bool), v34 = .bool z1q ∧ Aside0 (gatehouseref08_may.j1 kq l1 zh z0 z1q z2 z3 z5 z6 z7 z8 z9 za zb zc z4 a2_0 a2_1 a2_2 = some r) ∧ Aside0 (kq ≤ k1) ∧ Aside0 (wc.heap[ze]? = some (.cells #[(.slice zi z2.length zt), (.slice zj z3.length zu), (.slice zl z5.length zw), (.slice zm z6.length zx), (.slice zn z7.length zy), (.slice zo z8.length zz), (.slice zp z9.length zA), (.slice zq za.length zB), (.slice zr zb.length zC), (.slice zs zc.length zD), (.slice zk z4.length zv)] 34 (0, 0))) ∧ Aside0 (wc.heap[zf]? = some (.cells #[.string a2_0, .string a2_1, .string a2_2] 36 (0, 0))) ∧ Aside0 (Below w.heap.size w wc))
     case first =>
      have H := HC9.out; clear HC9
      by_cases c12 : t830 = true
      ·subst c12
       have H1 : (gatehouseref08_may.j1 k1 l1 zh z0 true z2 z3 z5 z6 z7 z8 z9 za zb zc z4 a2_0 a2_1 a2_2) = some r := by rw [if_pos rfl] at H; exact H
       clear H; have H := H1; clear H1; have H' := Aside0.mk H; clear H
       go_wp2
       repeat (go_quiet (fail); try go_wp2)
       go_meet
       case rel => exact ⟨_, (true), (by first | rfl | (simp; done) | (simp [*]; done)), H', ⟨by have := HK1.out; first | omega | exact Nat.le_refl _⟩, ⟨bE z1⟩, ⟨bE zd⟩, ⟨hW HB⟩⟩
      ·replace c12 := Bool.eq_false_iff.mpr c12
       subst c12
       have H1 : (gatehouseref08_may.j1 k1 l1 zh z0 ((((rd_T27 l1 z0).f3).length : Int) == 0) z2 z3 z5 z6 z7 z8 z9 za zb zc z4 a2_0 a2_1 a2_2) = some r := by rw [if_neg (show ¬ (false = true) by decide)] at H; exact H
       clear H; have H := H1; clear H1; have H' := Aside0.mk H; clear H; have p831 : 0 ≤ (z0 : Int) := of_decide_eq_true (by first | (with_reducible assumption) | assumption); have q831 : z0 < (l1.length : Int) := of_decide_eq_true (by first | (with_reducible assumption) | assumption); obtain ⟨z1R, z22, z28, e831, z1B, z1C, z1D, z1E, z1F, z1G, z1N, z1L⟩ := at_T27 HR1.out z0 p831 q831
       obtain rfl : z1t = z1R := (by injection e831)
       replace z1B := hC HB z1B; replace z1C := hC HB z1C; replace z1D := hC HB z1D; replace z1E := hC HB z1E; replace z1F := hC HB z1F; replace z1G := hC HB z1G; have z24 := Aside0.mk z1L; have z23 := Aside0.mk z1N; clear z1L z1N; replace p831 := eq_true p831; replace q831 := eq_true q831
       go_wp2
       repeat (go_quiet (fail); try go_wp2)
       go_meet
       case rel => exact ⟨_, (((((rd_T27 l1 z0).f3).length : Int) == 0)), (by first | rfl | (simp; done) | (simp [*]; done)), H', ⟨by have := HK1.out; first | omega | exact Nat.le_refl _⟩, ⟨bE z1⟩, ⟨bE zd⟩, ⟨hW HB⟩⟩
     case rest =>
      clear HC9
      try clear c1
      try clear p2
      try clear c6
      try clear z1J
      try clear c7
      try clear z1S
      try clear c8
      try clear p8
      try clear q8
      try clear hx8
      try clear c10
      try clear c12
      try clear z1U z1V z1W z1X z1Y z1Z
      try clear z1v
      try clear z1w
      try clear z1x
      try clear z1y
      try clear z1z
      try clear z1A
      try clear z1B
      try clear z1C
      try clear z1D
      try clear z1E
      try clear z1F
      try clear z1G
      try clear p2
      try clear p829
      try clear p831
      try clear q829
      try clear q831
      obtain ⟨kq, z1q, rfl, HA, HJ8, z1, zd, HB⟩ := hcut
      cases kq with
      | zero => exact absurd HA.out (by simp [gatehouseref08_may.j1])
      | succ kj8 =>
       have H := HA.out; clear HA
       simp only [gatehouseref08_may.j1] at H
       by_cases c13 : z1q = true
       ·subst c13
        have H1 : (if 0 ≤ z0 then (if z0 < (l1.length : Int) then (if (rd_T27 l1 z0).f0 = true then (some false) else (gatehouseref08_may.l0 kj8 l1 true (wrap64 (z0 + 1)) z2 z3 z5 z6 z7 z8 z9 za zb zc z4 a2_0 a2_1 a2_2)) else (none)) else (none)) = some r := by rw [if_pos rfl] at H; exact H
        clear H; have H := H1; clear H1
        by_cases c14 : 0 ≤ z0
        ·rw [if_pos c14] at H
         have z25 : decide (0 ≤ z0) = true := decide_eq_true c14; clear c14
         by_cases c15 : z0 < (l1.length : Int)
         ·rw [if_pos c15] at H
          have z26 : decide (z0 < (l1.length : Int)) = true := decide_eq_true c15; clear c15; obtain ⟨bq16, hbq16⟩ : ∃ b_ : Bool, b_ = ((rd_T27 l1 z0).f0) := ⟨_, rfl⟩
          replace H : (if bq16 = true then (some false) else (gatehouseref08_may.l0 kj8 l1 true (wrap64 (z0 + 1)) z2 z3 z5 z6 z7 z8 z9 za zb zc z4 a2_0 a2_1 a2_2)) = some r := by rw [← hbq16] at H; exact H
          have zg := Aside0.mk hbq16; clear hbq16
          by_cases c17 : bq16 = true
          ·subst c17
           have H1 : (some false) = some r := by rw [if_pos rfl] at H; exact H
           clear H; have H := H1; clear H1
           obtain rfl := Option.some.inj H
           have p832 : 0 ≤ (z0 : Int) := of_decide_eq_true (by first | (with_reducible assumption) | assumption); have q832 : z0 < (l1.length : Int) := of_decide_eq_true (by first | (with_reducible assumption) | assumption); obtain ⟨z1u, z1O, z1T, e832, zE, z1l, z1m, z1n, z1o, z1p, z1k, z1j⟩ := at_T27 HR1.out z0 p832 q832
           (try rw [← zg.out] at zE); (try rw [← zg.out] at z20)
           obtain rfl : z1t = z1u := (by injection e832)
           replace zE := hC HB zE; replace z1l := hC HB z1l; replace z1m := hC HB z1m; replace z1n := hC HB z1n; replace z1o := hC HB z1o; replace z1p := hC HB z1p; have z1Q := Aside0.mk z1j; have z1P := Aside0.mk z1k; clear z1j z1k; replace p832 := eq_true p832; replace q832 := eq_true q832
           go_wp2
           repeat (go_quiet (fail); try go_wp2)
           go_ret
           exact ⟨by first | rfl | (simp [errW_none, errW_some] <;> rfl) | (simp [*, errW_none, errW_some] <;> rfl), by repeat (first | (with_reducible first | exact HB.out | apply below_alloc | apply pw_below_drewN | apply below_drew1 | refine below_set ?_ z1f.out | refine below_set ?_ z1g.out) | exact HB.out)⟩
          ·replace c17 := Bool.eq_false_iff.mpr c17
           subst c17
           have H1 : (gatehouseref08_may.l0 kj8 l1 true (wrap64 (z0 + 1)) z2 z3 z5 z6 z7 z8 z9 za zb zc z4 a2_0 a2_1 a2_2) = some r := by rw [if_neg (show ¬ (false = true) by decide)] at H; exact H
           clear H; have H := H1; clear H1; have H' := Aside0.mk H; clear H; have p832 : 0 ≤ (z0 : Int) := of_decide_eq_true (by first | (with_reducible assumption) | assumption); have q832 : z0 < (l1.length : Int) := of_decide_eq_true (by first | (with_reducible assumption) | assumption); obtain ⟨z1u, z1O, z1T, e832, zE, z1l, z1m, z1n, z1o, z1p, z1k, z1j⟩ := at_T27 HR1.out z0 p832 q832
           (try rw [← zg.out] at zE); (try rw [← zg.out] at z20)
           obtain rfl : z1t = z1u := (by injection e832)
           replace zE := hC HB zE; replace z1l := hC HB z1l; replace z1m := hC HB z1m; replace z1n := hC HB z1n; replace z1o := hC HB z1o; replace z1p := hC HB z1p; have z1Q := Aside0.mk z1j; have z1P := Aside0.mk z1k; clear z1j z1k; replace p832 := eq_true p832; replace q832 := eq_true q832
           go_wp2
           repeat (go_quiet (fail); try go_wp2)
           go_roundg kj8
           case measure => have := HK1.out; have := HJ8.out; omega
           case rel => exact ⟨(true), (wrap64 (z0 + 1)), (by first | rfl | (simp; done) | (simp [*]; done)), (by first | rfl | (simp; done) | (simp [*]; done)), H', ⟨by have := HK1.out; have := HJ8.out; omega⟩, ⟨bE z1⟩, ⟨bE zd⟩, ⟨hW HB⟩⟩
         ·rw [if_neg c15] at H
          exact absurd H (by simp)
        ·rw [if_neg c14] at H
         exact absurd H (by simp)
       ·replace c13 := Bool.eq_false_iff.mpr c13
        subst c13
        have H1 : (gatehouseref08_may.l0 kj8 l1 zh (wrap64 (z0 + 1)) z2 z3 z5 z6 z7 z8 z9 za zb zc z4 a2_0 a2_1 a2_2) = some r := by rw [if_neg (show ¬ (false = true) by decide)] at H; exact H
        clear H; have H := H1; clear H1; have H' := Aside0.mk H; clear H
        go_wp2
        repeat (go_quiet (fail); try go_wp2)
        go_roundg kj8
        case measure => have := HK1.out; have := HJ8.out; omega
        case rel => exact ⟨(zh), (wrap64 (z0 + 1)), (by first | rfl | (simp; done) | (simp [*]; done)), (by first | rfl | (simp; done) | (simp [*]; done)), H', ⟨by have := HK1.out; have := HJ8.out; omega⟩, ⟨bE z1⟩, ⟨bE zd⟩, ⟨hW HB⟩⟩
    ·rw [if_neg c7] at H
     exact absurd H (by simp)
   ·rw [if_neg c6] at H
    have z1J : decide (z0 < (l1.length : Int)) = false := decide_eq_false c6; clear c6; replace H := Option.bind_eq_some_iff.mp H; obtain ⟨t828, A180, H⟩ := H; replace H : (if zh = true then (some (!t828)) else (some false)) = some r := H; have A18 := Aside0.mk A180; clear A180
    by_cases c19 : zh = true
    ·subst c19
     have H1 : (some (!t828)) = some r := by rw [if_pos rfl] at H; exact H
     clear H; have H := H1; clear H1
     obtain rfl := Option.some.inj H
     have z34 := z1h.out; have z37 := z1i.out; obtain ⟨z29, z2a, z2c, z2d, z2e, z2f, z2g, z2h, z2i, z2j, z2b, z2B, z2C, z2E, z2F, z2G, z2H, z2I, z2J, z2K, z2L, z2D⟩ := bC11 z1; obtain ⟨z2k, z2l, z2m, z2M, z2N, z2O⟩ := bC3 zd
     go_wp2_with (first | (go_at_call 59; (with_reducible refine (gatehouseref08_excepted.calls k1 _ _ z2 _ _ z3 _ _ z5 _ _ z6 _ _ z7 _ _ z8 _ _ z9 _ _ za _ _ zb _ _ zc _ _ z4 a2_0 a2_1 a2_2 t828 _ ?side1 ?side2 ?side3 ?side4 ?side5 ?side6 ?side7 ?side8 ?side9 ?side10 ?side11 ?side12 ?side13 ?side14 ?side15 ?side16 ?side17 ?side18 ?side19 ?side20 ?side21 ?side22 (by have h_ := A18.out; first | exact h_ | (rw [← zg.out] at h_; exact h_))).mono ?_); (case side1 => exact cE (Kd.C_below zR.out HB.out)); (case side2 => exact zG.out); (case side3 => exact cE (Kd.C_below zS.out HB.out)); (case side4 => exact zH.out); (case side5 => exact cE (Kd.C_below zU.out HB.out)); (case side6 => exact zJ.out); (case side7 => exact cE (Kd.C_below zV.out HB.out)); (case side8 => exact zK.out); (case side9 => exact cE (Kd.C_below zW.out HB.out)); (case side10 => exact zL.out); (case side11 => exact cE (Kd.C_below zX.out HB.out)); (case side12 => exact zM.out); (case side13 => exact cE (Kd.C_below zY.out HB.out)); (case side14 => exact zN.out); (case side15 => exact cE (Kd.C_below zZ.out HB.out)); (case side16 => exact zO.out); (case side17 => exact cE (Kd.C_below z10.out HB.out)); (case side18 => exact zP.out); (case side19 => exact cE (Kd.C_below z11.out HB.out)); (case side20 => exact zQ.out); (case side21 => exact cE (Kd.C_below zT.out HB.out)); (case side22 => exact zI.out); rintro e w23 ⟨rfl, hb⟩; replace z1 := kF z1 hb; replace zd := kF zd hb; replace HB := hF HB hb; (try clear hb); (try clear hb2); (try clear hk); (try clear hi)))
     repeat (go_quiet (first | (go_at_call 59; (with_reducible refine (gatehouseref08_excepted.calls k1 _ _ z2 _ _ z3 _ _ z5 _ _ z6 _ _ z7 _ _ z8 _ _ z9 _ _ za _ _ zb _ _ zc _ _ z4 a2_0 a2_1 a2_2 t828 _ ?side1 ?side2 ?side3 ?side4 ?side5 ?side6 ?side7 ?side8 ?side9 ?side10 ?side11 ?side12 ?side13 ?side14 ?side15 ?side16 ?side17 ?side18 ?side19 ?side20 ?side21 ?side22 (by have h_ := A18.out; first | exact h_ | (rw [← zg.out] at h_; exact h_))).mono ?_); (case side1 => exact cE (Kd.C_below zR.out HB.out)); (case side2 => exact zG.out); (case side3 => exact cE (Kd.C_below zS.out HB.out)); (case side4 => exact zH.out); (case side5 => exact cE (Kd.C_below zU.out HB.out)); (case side6 => exact zJ.out); (case side7 => exact cE (Kd.C_below zV.out HB.out)); (case side8 => exact zK.out); (case side9 => exact cE (Kd.C_below zW.out HB.out)); (case side10 => exact zL.out); (case side11 => exact cE (Kd.C_below zX.out HB.out)); (case side12 => exact zM.out); (case side13 => exact cE (Kd.C_below zY.out HB.out)); (case side14 => exact zN.out); (case side15 => exact cE (Kd.C_below zZ.out HB.out)); (case side16 => exact zO.out); (case side17 => exact cE (Kd.C_below z10.out HB.out)); (case side18 => exact zP.out); (case side19 => exact cE (Kd.C_below z11.out HB.out)); (case side20 => exact zQ.out); (case side21 => exact cE (Kd.C_below zT.out HB.out)); (case side22 => exact zI.out); rintro e w23 ⟨rfl, hb⟩; replace z1 := kF z1 hb; replace zd := kF zd hb; replace HB := hF HB hb; (try clear hb); (try clear hb2); (try clear hk); (try clear hi))); try go_wp2_with (first | (go_at_call 59; (with_reducible refine (gatehouseref08_excepted.calls k1 _ _ z2 _ _ z3 _ _ z5 _ _ z6 _ _ z7 _ _ z8 _ _ z9 _ _ za _ _ zb _ _ zc _ _ z4 a2_0 a2_1 a2_2 t828 _ ?side1 ?side2 ?side3 ?side4 ?side5 ?side6 ?side7 ?side8 ?side9 ?side10 ?side11 ?side12 ?side13 ?side14 ?side15 ?side16 ?side17 ?side18 ?side19 ?side20 ?side21 ?side22 (by have h_ := A18.out; first | exact h_ | (rw [← zg.out] at h_; exact h_))).mono ?_); (case side1 => exact cE (Kd.C_below zR.out HB.out)); (case side2 => exact zG.out); (case side3 => exact cE (Kd.C_below zS.out HB.out)); (case side4 => exact zH.out); (case side5 => exact cE (Kd.C_below zU.out HB.out)); (case side6 => exact zJ.out); (case side7 => exact cE (Kd.C_below zV.out HB.out)); (case side8 => exact zK.out); (case side9 => exact cE (Kd.C_below zW.out HB.out)); (case side10 => exact zL.out); (case side11 => exact cE (Kd.C_below zX.out HB.out)); (case side12 => exact zM.out); (case side13 => exact cE (Kd.C_below zY.out HB.out)); (case side14 => exact zN.out); (case side15 => exact cE (Kd.C_below zZ.out HB.out)); (case side16 => exact zO.out); (case side17 => exact cE (Kd.C_below z10.out HB.out)); (case side18 => exact zP.out); (case side19 => exact cE (Kd.C_below z11.out HB.out)); (case side20 => exact zQ.out); (case side21 => exact cE (Kd.C_below zT.out HB.out)); (case side22 => exact zI.out); rintro e w23 ⟨rfl, hb⟩; replace z1 := kF z1 hb; replace zd := kF zd hb; replace HB := hF HB hb; (try clear hb); (try clear hb2); (try clear hk); (try clear hi))))
     go_ret
     exact ⟨by first | rfl | (simp [errW_none, errW_some] <;> rfl) | (simp [*, errW_none, errW_some] <;> rfl), by repeat (first | (with_reducible first | exact HB.out | apply below_alloc | apply pw_below_drewN | apply below_drew1 | refine below_set ?_ z1f.out | refine below_set ?_ z1g.out) | exact HB.out)⟩
    ·replace c19 := Bool.eq_false_iff.mpr c19
     subst c19
     have H1 : (some false) = some r := by rw [if_neg (show ¬ (false = true) by decide)] at H; exact H
     clear H; have H := H1; clear H1
     obtain rfl := Option.some.inj H
     have z35 := z1h.out; have z38 := z1i.out; obtain ⟨z2n, z2o, z2q, z2r, z2s, z2t, z2u, z2v, z2w, z2x, z2p, z2P, z2Q, z2S, z2T, z2U, z2V, z2W, z2X, z2Y, z2Z, z2R⟩ := bC11 z1; obtain ⟨z2y, z2z, z2A, z30, z31, z32⟩ := bC3 zd
     go_wp2_with (first | (go_at_call 59; (with_reducible refine (gatehouseref08_excepted.calls k1 _ _ z2 _ _ z3 _ _ z5 _ _ z6 _ _ z7 _ _ z8 _ _ z9 _ _ za _ _ zb _ _ zc _ _ z4 a2_0 a2_1 a2_2 t828 _ ?side1 ?side2 ?side3 ?side4 ?side5 ?side6 ?side7 ?side8 ?side9 ?side10 ?side11 ?side12 ?side13 ?side14 ?side15 ?side16 ?side17 ?side18 ?side19 ?side20 ?side21 ?side22 (by have h_ := A18.out; first | exact h_ | (rw [← zg.out] at h_; exact h_))).mono ?_); (case side1 => exact cE (Kd.C_below zR.out HB.out)); (case side2 => exact zG.out); (case side3 => exact cE (Kd.C_below zS.out HB.out)); (case side4 => exact zH.out); (case side5 => exact cE (Kd.C_below zU.out HB.out)); (case side6 => exact zJ.out); (case side7 => exact cE (Kd.C_below zV.out HB.out)); (case side8 => exact zK.out); (case side9 => exact cE (Kd.C_below zW.out HB.out)); (case side10 => exact zL.out); (case side11 => exact cE (Kd.C_below zX.out HB.out)); (case side12 => exact zM.out); (case side13 => exact cE (Kd.C_below zY.out HB.out)); (case side14 => exact zN.out); (case side15 => exact cE (Kd.C_below zZ.out HB.out)); (case side16 => exact zO.out); (case side17 => exact cE (Kd.C_below z10.out HB.out)); (case side18 => exact zP.out); (case side19 => exact cE (Kd.C_below z11.out HB.out)); (case side20 => exact zQ.out); (case side21 => exact cE (Kd.C_below zT.out HB.out)); (case side22 => exact zI.out); rintro e w27 ⟨rfl, hb⟩; replace z1 := kF z1 hb; replace zd := kF zd hb; replace HB := hF HB hb; (try clear hb); (try clear hb2); (try clear hk); (try clear hi)))
     repeat (go_quiet (first | (go_at_call 59; (with_reducible refine (gatehouseref08_excepted.calls k1 _ _ z2 _ _ z3 _ _ z5 _ _ z6 _ _ z7 _ _ z8 _ _ z9 _ _ za _ _ zb _ _ zc _ _ z4 a2_0 a2_1 a2_2 t828 _ ?side1 ?side2 ?side3 ?side4 ?side5 ?side6 ?side7 ?side8 ?side9 ?side10 ?side11 ?side12 ?side13 ?side14 ?side15 ?side16 ?side17 ?side18 ?side19 ?side20 ?side21 ?side22 (by have h_ := A18.out; first | exact h_ | (rw [← zg.out] at h_; exact h_))).mono ?_); (case side1 => exact cE (Kd.C_below zR.out HB.out)); (case side2 => exact zG.out); (case side3 => exact cE (Kd.C_below zS.out HB.out)); (case side4 => exact zH.out); (case side5 => exact cE (Kd.C_below zU.out HB.out)); (case side6 => exact zJ.out); (case side7 => exact cE (Kd.C_below zV.out HB.out)); (case side8 => exact zK.out); (case side9 => exact cE (Kd.C_below zW.out HB.out)); (case side10 => exact zL.out); (case side11 => exact cE (Kd.C_below zX.out HB.out)); (case side12 => exact zM.out); (case side13 => exact cE (Kd.C_below zY.out HB.out)); (case side14 => exact zN.out); (case side15 => exact cE (Kd.C_below zZ.out HB.out)); (case side16 => exact zO.out); (case side17 => exact cE (Kd.C_below z10.out HB.out)); (case side18 => exact zP.out); (case side19 => exact cE (Kd.C_below z11.out HB.out)); (case side20 => exact zQ.out); (case side21 => exact cE (Kd.C_below zT.out HB.out)); (case side22 => exact zI.out); rintro e w27 ⟨rfl, hb⟩; replace z1 := kF z1 hb; replace zd := kF zd hb; replace HB := hF HB hb; (try clear hb); (try clear hb2); (try clear hk); (try clear hi))); try go_wp2_with (first | (go_at_call 59; (with_reducible refine (gatehouseref08_excepted.calls k1 _ _ z2 _ _ z3 _ _ z5 _ _ z6 _ _ z7 _ _ z8 _ _ z9 _ _ za _ _ zb _ _ zc _ _ z4 a2_0 a2_1 a2_2 t828 _ ?side1 ?side2 ?side3 ?side4 ?side5 ?side6 ?side7 ?side8 ?side9 ?side10 ?side11 ?side12 ?side13 ?side14 ?side15 ?side16 ?side17 ?side18 ?side19 ?side20 ?side21 ?side22 (by have h_ := A18.out; first | exact h_ | (rw [← zg.out] at h_; exact h_))).mono ?_); (case side1 => exact cE (Kd.C_below zR.out HB.out)); (case side2 => exact zG.out); (case side3 => exact cE (Kd.C_below zS.out HB.out)); (case side4 => exact zH.out); (case side5 => exact cE (Kd.C_below zU.out HB.out)); (case side6 => exact zJ.out); (case side7 => exact cE (Kd.C_below zV.out HB.out)); (case side8 => exact zK.out); (case side9 => exact cE (Kd.C_below zW.out HB.out)); (case side10 => exact zL.out); (case side11 => exact cE (Kd.C_below zX.out HB.out)); (case side12 => exact zM.out); (case side13 => exact cE (Kd.C_below zY.out HB.out)); (case side14 => exact zN.out); (case side15 => exact cE (Kd.C_below zZ.out HB.out)); (case side16 => exact zO.out); (case side17 => exact cE (Kd.C_below z10.out HB.out)); (case side18 => exact zP.out); (case side19 => exact cE (Kd.C_below z11.out HB.out)); (case side20 => exact zQ.out); (case side21 => exact cE (Kd.C_below zT.out HB.out)); (case side22 => exact zI.out); rintro e w27 ⟨rfl, hb⟩; replace z1 := kF z1 hb; replace zd := kF zd hb; replace HB := hF HB hb; (try clear hb); (try clear hb2); (try clear hk); (try clear hi))))
     go_ret
     exact ⟨by first | rfl | (simp [errW_none, errW_some] <;> rfl) | (simp [*, errW_none, errW_some] <;> rfl), by repeat (first | (with_reducible first | exact HB.out | apply below_alloc | apply pw_below_drewN | apply below_drew1 | refine below_set ?_ z1f.out | refine below_set ?_ z1g.out) | exact HB.out)⟩

-- NOT PRINTED: function 27 (gatehouseref08_Relation)

/-! ### gatehouseref08_Same: function 29 -/
def gatehouseref08_Same.l0 : Nat → List (S36) → List (S36) → Int → Option (Bool)
 | 0, _, _, _ => none
 | k + 1, x0, x1, x5 => if x5 < (x0.length : Int) then (if 0 ≤ x5 then (if x5 < (x1.length : Int) then (if (!((((rd_T36 x0 x5).f0).toList) == (((rd_T36 x1 x5).f0).toList)) || (!((((rd_T36 x0 x5).f1).toList) == (((rd_T36 x1 x5).f1).toList)) || (!((((rd_T36 x0 x5).f2).toList) == (((rd_T36 x1 x5).f2).toList))))) = true then (some false) else (gatehouseref08_Same.l0 k x0 x1 (wrap64 (x5 + 1)))) else (none)) else (none)) else (some true)
def gatehouseref08_Same.f (k : Nat) (l0 : List (S36)) (l1 : List (S36)) : Option (Bool) := if (l0.length : Int) = (l1.length : Int) then (gatehouseref08_Same.l0 k l0 l1 0) else (some false)
set_option maxHeartbeats 8000000 in
set_option maxRecDepth 100000 in
theorem gatehouseref08_Same.calls (k : Nat) (A0 : Option Addr) (c0 : Nat) (l0 : List (S36)) (A1 : Option Addr) (c1 : Nat) (l1 : List (S36)) (r : Bool) (w : World) (hr0 : Kd.C k36 w A0 l0.length l0) (hc0 : l0.length ≤ c0) (hr1 : Kd.C k36 w A1 l1.length l1) (hc1 : l1.length ≤ c1) (h : gatehouseref08_Same.f k l0 l1 = some r) :
  Calls Try.prog 29 #[.slice A0 l0.length c0, .slice A1 l1.length c1] w fun e w' => e = .returned (.bool r) ∧ Drawn0 w w' := by
 have hu36 := Try.underlying36; have HR0 := Aside0.mk hr0; have HC0 := Aside0.mk hc0; clear hr0 hc0; have HR1 := Aside0.mk hr1; have HC1 := Aside0.mk hc1; clear hr1 hc1; have H : (if (l0.length : Int) = (l1.length : Int) then (gatehouseref08_Same.l0 k l0 l1 0) else (some false)) = some r := h; clear h
 by_cases c3 : (l0.length : Int) = (l1.length : Int)
 ·rw [if_pos c3] at H
  have z1 : ((l0.length : Int) == (l1.length : Int)) = true := beq_iff_eq.mpr c3; have z2 : ((l0.length : Int) != (l1.length : Int)) = false := bne_eq_false_iff_eq.mpr c3
  have z3 : (l0.length == l1.length) = true := by first | simpa using c3 | (simp at c3 ⊢; omega)
  clear c3; have H' := Aside0.mk H; clear H
  go_enter Try.func29, Try.ntmps29
  go_wp2
  repeat (go_quiet (fail); try go_wp2)
  go_loopg [5] k (fun kq v5 w' => ∃ (z0 : Int), v5 = .int .i64 z0 ∧ Aside0 (gatehouseref08_Same.l0 kq l0 l1 z0 = some r) ∧ Aside0 (kq ≤ k) ∧ Drawn0 w w')
  case atStart => exact ⟨(0), (by first | rfl | (simp; done) | (simp [*]; done)), H', ⟨Nat.le_refl _⟩, by repeat (first | exact Drawn0.refl _ | apply Drawn0.step)⟩
  case round =>
   clear H'
   try clear c1
   try clear c2
   try clear p2
   try clear c3
   try clear z1
   try clear z2
   try clear z3
   obtain ⟨z0, rfl, HA, HK1, ⟨m1, rfl⟩⟩ := hrel
   cases gk with
   | zero => exact absurd HA.out (by simp [gatehouseref08_Same.l0])
   | succ k1 =>
    have H := HA.out; clear HA
    simp only [gatehouseref08_Same.l0] at H
    by_cases c4 : z0 < (l0.length : Int)
    ·rw [if_pos c4] at H
     have z6 : decide (z0 < (l0.length : Int)) = true := decide_eq_true c4; clear c4
     by_cases c5 : 0 ≤ z0
     ·rw [if_pos c5] at H
      have ze : decide (0 ≤ z0) = true := decide_eq_true c5; clear c5
      by_cases c6 : z0 < (l1.length : Int)
      ·rw [if_pos c6] at H
       have zf : decide (z0 < (l1.length : Int)) = true := decide_eq_true c6; clear c6
       by_cases c7 : (!((((rd_T36 l0 z0).f0).toList) == (((rd_T36 l1 z0).f0).toList)) || (!((((rd_T36 l0 z0).f1).toList) == (((rd_T36 l1 z0).f1).toList)) || (!((((rd_T36 l0 z0).f2).toList) == (((rd_T36 l1 z0).f2).toList))))) = true
       ·rw [if_pos c7] at H
        have z7 : (!((((rd_T36 l0 z0).f0).toList) == (((rd_T36 l1 z0).f0).toList)) || (!((((rd_T36 l0 z0).f1).toList) == (((rd_T36 l1 z0).f1).toList)) || (!((((rd_T36 l0 z0).f2).toList) == (((rd_T36 l1 z0).f2).toList))))) = true := c7; clear c7
        obtain rfl := Option.some.inj H
        have p872 : 0 ≤ (z0 : Int) := of_decide_eq_true (by first | (with_reducible assumption) | assumption); have q872 : z0 < (l0.length : Int) := of_decide_eq_true (by first | (with_reducible assumption) | assumption); obtain ⟨z4, e872, z8, z9, za⟩ := at_T36 HR0.out z0 p872 q872
        cases e872
        replace p872 := eq_true p872; replace q872 := eq_true q872; have p873 : 0 ≤ (z0 : Int) := of_decide_eq_true (by first | (with_reducible assumption) | assumption); have q873 : z0 < (l1.length : Int) := of_decide_eq_true (by first | (with_reducible assumption) | assumption); obtain ⟨z5, e873, zb, zc, zd⟩ := at_T36 HR1.out z0 p873 q873
        cases e873
        replace p873 := eq_true p873; replace q873 := eq_true q873
        go_wp2
        repeat (go_quiet (fail); try go_wp2)
        go_ret
        exact ⟨by first | rfl | (simp; done) | (simp [*]; done), by repeat (first | exact Drawn0.refl _ | apply Drawn0.step)⟩
       ·rw [if_neg c7] at H
        have z7 : (!((((rd_T36 l0 z0).f0).toList) == (((rd_T36 l1 z0).f0).toList)) || (!((((rd_T36 l0 z0).f1).toList) == (((rd_T36 l1 z0).f1).toList)) || (!((((rd_T36 l0 z0).f2).toList) == (((rd_T36 l1 z0).f2).toList))))) = false := by simpa using c7
        clear c7; have H' := Aside0.mk H; clear H; have p872 : 0 ≤ (z0 : Int) := of_decide_eq_true (by first | (with_reducible assumption) | assumption); have q872 : z0 < (l0.length : Int) := of_decide_eq_true (by first | (with_reducible assumption) | assumption); obtain ⟨z4, e872, z8, z9, za⟩ := at_T36 HR0.out z0 p872 q872
        cases e872
        replace p872 := eq_true p872; replace q872 := eq_true q872; have p873 : 0 ≤ (z0 : Int) := of_decide_eq_true (by first | (with_reducible assumption) | assumption); have q873 : z0 < (l1.length : Int) := of_decide_eq_true (by first | (with_reducible assumption) | assumption); obtain ⟨z5, e873, zb, zc, zd⟩ := at_T36 HR1.out z0 p873 q873
        cases e873
        replace p873 := eq_true p873; replace q873 := eq_true q873
        go_wp2
        repeat (go_quiet (fail); try go_wp2)
        go_roundg k1
        case measure => have := HK1.out; omega
        case rel => exact ⟨(wrap64 (z0 + 1)), (by first | rfl | (simp; done) | (simp [*]; done)), H', ⟨by have := HK1.out; omega⟩, by repeat (first | exact Drawn0.refl _ | apply Drawn0.step)⟩
      ·rw [if_neg c6] at H
       exact absurd H (by simp)
     ·rw [if_neg c5] at H
      exact absurd H (by simp)
    ·rw [if_neg c4] at H
     have z6 : decide (z0 < (l0.length : Int)) = false := decide_eq_false c4; clear c4
     obtain rfl := Option.some.inj H
     go_wp2
     repeat (go_quiet (fail); try go_wp2)
     go_ret
     exact ⟨by first | rfl | (simp; done) | (simp [*]; done), by repeat (first | exact Drawn0.refl _ | apply Drawn0.step)⟩
 ·rw [if_neg c3] at H
  have z1 : ((l0.length : Int) == (l1.length : Int)) = false := beq_eq_false_iff_ne.mpr c3; have z2 : ((l0.length : Int) != (l1.length : Int)) = true := bne_iff_ne.mpr c3
  have z3 : (l0.length == l1.length) = false := by first | simpa using c3 | (simp at c3 ⊢; omega)
  obtain rfl := Option.some.inj H
  go_enter Try.func29, Try.ntmps29
  go_wp2
  repeat (go_quiet (fail); try go_wp2)
  go_ret
  exact ⟨by first | rfl | (simp; done) | (simp [*]; done), by repeat (first | exact Drawn0.refl _ | apply Drawn0.step)⟩

-- NOT PRINTED: function 8 (gatehouselaw08_MeanRelation)

end Go.Proofs.Ytnkdcekddhmjnaa.F
