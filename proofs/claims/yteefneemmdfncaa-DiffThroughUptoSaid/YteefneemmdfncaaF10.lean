import Derived.Test.YteefneemmdfncaaF0
import Derived.Test.YteefneemmdfncaaF7
import Derived.Test.YteefneemmdfncaaF9
-- Written by a program of this session (mk.py over the kit's print, turned for floats and for contracts given by hand). Not trusted: Lean checks it.
namespace Go.Proofs.Yteefneemmdfncaa.F
open Go.RowKit Go.Proofs.YteefneemmdfncaaW.PrintWords Go.Proofs.YteefneemmdfncaaW.PrintLast Go.Proofs.YteefneemmdfncaaW.PrintMore
attribute [local go_sem] max2_int min2_int max_two min_two max_three min_three max_four min_four   -- for this text's walks alone
attribute [local go_sem] flt_eql flt_neq flt_lss flt_leq flt_gtr flt_geq run_store_float
set_option linter.unusedVariables false
set_option linter.unusedSimpArgs false

/-! ### gatehouseref10_Who: function 12 -/
def gatehouseref10_Who.T6 : Bool × List (List Nat × List Nat) := (true, [([], []), ([], []), ([], []), ([1, 2], [1, 2]), ([3], [3]), ([], []), ([], []), ([4, 5, 6], [4, 5, 6]), ([0, 7], [0, 7]), ([8, 8, 0, 1, 2, 3, 4, 5, 6, 7, 8], [8])])
def gatehouseref10_Who.B6 : List Nat := [0, 0, 0, 6, 14, 0, 0, 126, 255, 511]
/-! ### gatehouseref10_What: function 13 -/
def gatehouseref10_What.T5 : Bool × List (List Nat × List Nat) := (true, [([], []), ([], []), ([], []), ([2], [2]), ([], []), ([3, 4], [3, 4]), ([5], [5]), ([], []), ([1, 6, 7], [1, 6, 7]), ([0, 8], [0, 8]), ([9, 9, 0, 1, 2, 3, 4, 5, 6, 7, 8, 9], [9])])
def gatehouseref10_What.B5 : List Nat := [0, 0, 0, 4, 0, 28, 60, 0, 254, 511, 1023]
-- NOT PRINTED: function 51 (why_once)

-- NOT PRINTED: function 15 (why_Who)

-- NOT PRINTED: function 16 (why_What)

-- NOT PRINTED: function 3 (gatehouselaw10_WhyWho)

/-! ### gatehouselaw13_vast: function 28 -/
def gatehouselaw13_vast.l0 : Nat → List (S28) → Int → Option (Bool)
 | 0, _, _ => none
 | k + 1, x0, x3 => if x3 < (x0.length : Int) then (if 0 ≤ x3 then (if (((rd_T28 x0 x3).f1).length : Int) > 65536 then (some true) else (if (((rd_T28 x0 x3).f3).length : Int) > 65536 then (some true) else (if (((rd_T28 x0 x3).f0).length : Int) > 65536 then (some true) else (if (wrap64 ((((rd_T28 x0 x3).f1).length : Int) * (((rd_T28 x0 x3).f3).length : Int))) > 65536 then (some true) else (if (wrap64 ((wrap64 ((((rd_T28 x0 x3).f1).length : Int) * (((rd_T28 x0 x3).f3).length : Int))) * (((rd_T28 x0 x3).f0).length : Int))) > 65536 then (some true) else (gatehouselaw13_vast.l0 k x0 (wrap64 (x3 + 1)))))))) else (none)) else (some false)
def gatehouselaw13_vast.f (k : Nat) (l0 : List (S28)) : Option (Bool) := gatehouselaw13_vast.l0 k l0 0
set_option maxHeartbeats 8000000 in
set_option maxRecDepth 100000 in
theorem gatehouselaw13_vast.calls (k : Nat) (A0 : Option Addr) (c0 : Nat) (l0 : List (S28)) (r : Bool) (w : World) (hr0 : Kd.C k28 w A0 l0.length l0) (hc0 : l0.length ≤ c0) (h : gatehouselaw13_vast.f k l0 = some r) :
  Calls Try.prog 28 #[.slice A0 l0.length c0] w fun e w' => e = .returned (.bool r) ∧ Drawn0 w w' := by
 have HR0 := Aside0.mk hr0; have HC0 := Aside0.mk hc0; clear hr0 hc0; have H : (gatehouselaw13_vast.l0 k l0 0) = some r := h; clear h; have H' := Aside0.mk H; clear H
 go_enter Try.func28, Try.ntmps28
 go_wp2
 repeat (go_quiet (fail); try go_wp2)
 go_loopg [3] k (fun kq v3 w' => ∃ (z0 : Int), v3 = .int .i64 z0 ∧ Aside0 (gatehouselaw13_vast.l0 kq l0 z0 = some r) ∧ Aside0 (kq ≤ k) ∧ Drawn0 w w')
 case atStart => exact ⟨(0), (by first | rfl | (simp; done) | (simp [*]; done)), H', ⟨Nat.le_refl _⟩, by repeat (first | exact Drawn0.refl _ | apply Drawn0.step)⟩
 case round =>
  clear H'; obtain ⟨z0, rfl, HA, HK1, ⟨m1, rfl⟩⟩ := hrel
  cases gk with
  | zero => exact absurd HA.out (by simp [gatehouselaw13_vast.l0])
  | succ k1 =>
   have H := HA.out; clear HA
   simp only [gatehouselaw13_vast.l0] at H
   by_cases c2 : z0 < (l0.length : Int)
   ·rw [if_pos c2] at H
    have z3N : decide (z0 < (l0.length : Int)) = true := decide_eq_true c2; clear c2
    by_cases c3 : 0 ≤ z0
    ·rw [if_pos c3] at H
     have z3W : decide (0 ≤ z0) = true := decide_eq_true c3; clear c3
     by_cases c4 : (((rd_T28 l0 z0).f1).length : Int) > 65536
     ·rw [if_pos c4] at H
      have z3O : decide (65536 < (((rd_T28 l0 z0).f1).length : Int)) = true := decide_eq_true c4; have z3P : decide (65536 < ((rd_T28 l0 z0).f1).length) = true := decide_eq_true (by omega); clear c4
      obtain rfl := Option.some.inj H
      have p518 : 0 ≤ (z0 : Int) := of_decide_eq_true (by first | (with_reducible assumption) | assumption); have q518 : z0 < (l0.length : Int) := of_decide_eq_true (by first | (with_reducible assumption) | assumption); obtain ⟨z1, z1F, z3g, z1G, z3h, z1I, z3j, z1J, z3k, z1K, z3l, z1L, z3m, z1M, z3n, z1N, z3o, z1O, z3p, z1P, z3q, z1H, z3i, e518, z16, z17, z19, z1a, z1b, z1c, z1d, z1e, z1f, z1g, z18, zz, z2, zA, z3, zC, z5, zD, z6, zE, z7, zF, z8, zG, z9, zH, za, zI, zb, zJ, zc, zB, z4⟩ := at_T28 HR0.out z0 p518 q518
      cases e518
      have z2J := Aside0.mk z2; have z2c := Aside0.mk zz; clear z2 zz; have z2K := Aside0.mk z3; have z2d := Aside0.mk zA; clear z3 zA; have z2M := Aside0.mk z5; have z2f := Aside0.mk zC; clear z5 zC; have z2N := Aside0.mk z6; have z2g := Aside0.mk zD; clear z6 zD; have z2O := Aside0.mk z7; have z2h := Aside0.mk zE; clear z7 zE; have z2P := Aside0.mk z8; have z2i := Aside0.mk zF; clear z8 zF; have z2Q := Aside0.mk z9; have z2j := Aside0.mk zG; clear z9 zG; have z2R := Aside0.mk za; have z2k := Aside0.mk zH; clear za zH; have z2S := Aside0.mk zb; have z2l := Aside0.mk zI; clear zb zI; have z2T := Aside0.mk zc; have z2m := Aside0.mk zJ; clear zc zJ; have z2L := Aside0.mk z4; have z2e := Aside0.mk zB; clear z4 zB; replace p518 := eq_true p518; replace q518 := eq_true q518; have p519 : 0 ≤ (z0 : Int) := of_decide_eq_true (by first | (with_reducible assumption) | assumption); have q519 : z0 < (l0.length : Int) := of_decide_eq_true (by first | (with_reducible assumption) | assumption); obtain ⟨z1h, z1Q, z3r, z1R, z3s, z1T, z3u, z1U, z3v, z1V, z3w, z1W, z3x, z1X, z3y, z1Y, z3z, z1Z, z3A, z20, z3B, z1S, z3t, e519, z1j, z1k, z1m, z1n, z1o, z1p, z1q, z1r, z1s, z1t, z1l, zK, zd, zL, ze, zN, zg, zO, zh, zP, zi, zQ, zj, zR, zk, zS, zl, zT, zm, zU, zn, zM, zf⟩ := at_T28 HR0.out z0 p519 q519
      obtain rfl : z1 = z1h := (by injection e519)
      have z2U := Aside0.mk zd; have z2n := Aside0.mk zK; clear zd zK; have z2V := Aside0.mk ze; have z2o := Aside0.mk zL; clear ze zL; have z2X := Aside0.mk zg; have z2q := Aside0.mk zN; clear zg zN; have z2Y := Aside0.mk zh; have z2r := Aside0.mk zO; clear zh zO; have z2Z := Aside0.mk zi; have z2s := Aside0.mk zP; clear zi zP; have z30 := Aside0.mk zj; have z2t := Aside0.mk zQ; clear zj zQ; have z31 := Aside0.mk zk; have z2u := Aside0.mk zR; clear zk zR; have z32 := Aside0.mk zl; have z2v := Aside0.mk zS; clear zl zS; have z33 := Aside0.mk zm; have z2w := Aside0.mk zT; clear zm zT; have z34 := Aside0.mk zn; have z2x := Aside0.mk zU; clear zn zU; have z2W := Aside0.mk zf; have z2p := Aside0.mk zM; clear zf zM; replace p519 := eq_true p519; replace q519 := eq_true q519; have ea_ := Option.some.inj (z16.symm.trans z1j)
      injection ea_ with ea_ en_ ec_
      subst ea_
      subst ec_
      clear en_; have ea_ := Option.some.inj (z17.symm.trans z1k)
      injection ea_ with ea_ en_ ec_
      subst ea_
      subst ec_
      clear en_; have ea_ := Option.some.inj (z19.symm.trans z1m)
      injection ea_ with ea_ en_ ec_
      subst ea_
      subst ec_
      clear en_; have ea_ := Option.some.inj (z1a.symm.trans z1n)
      injection ea_ with ea_ en_ ec_
      subst ea_
      subst ec_
      clear en_; have ea_ := Option.some.inj (z1b.symm.trans z1o)
      injection ea_ with ea_ en_ ec_
      subst ea_
      subst ec_
      clear en_; have ea_ := Option.some.inj (z1c.symm.trans z1p)
      injection ea_ with ea_ en_ ec_
      subst ea_
      subst ec_
      clear en_; have ea_ := Option.some.inj (z1d.symm.trans z1q)
      injection ea_ with ea_ en_ ec_
      subst ea_
      subst ec_
      clear en_; have ea_ := Option.some.inj (z1e.symm.trans z1r)
      injection ea_ with ea_ en_ ec_
      subst ea_
      subst ec_
      clear en_; have ea_ := Option.some.inj (z1f.symm.trans z1s)
      injection ea_ with ea_ en_ ec_
      subst ea_
      subst ec_
      clear en_; have ea_ := Option.some.inj (z1g.symm.trans z1t)
      injection ea_ with ea_ en_ ec_
      subst ea_
      subst ec_
      clear en_; have ea_ := Option.some.inj (z18.symm.trans z1l)
      injection ea_ with ea_ en_ ec_
      subst ea_
      subst ec_
      clear en_; have p520 : 0 ≤ (z0 : Int) := of_decide_eq_true (by first | (with_reducible assumption) | assumption); have q520 : z0 < (l0.length : Int) := of_decide_eq_true (by first | (with_reducible assumption) | assumption); obtain ⟨z1i, z21, z3C, z22, z3D, z24, z3F, z25, z3G, z26, z3H, z27, z3I, z28, z3J, z29, z3K, z2a, z3L, z2b, z3M, z23, z3E, e520, z1u, z1v, z1x, z1y, z1z, z1A, z1B, z1C, z1D, z1E, z1w, zV, zo, zW, zp, zY, zr, zZ, zs, z10, zt, z11, zu, z12, zv, z13, zw, z14, zx, z15, zy, zX, zq⟩ := at_T28 HR0.out z0 p520 q520
      obtain rfl : z1 = z1i := (by injection e520)
      have z35 := Aside0.mk zo; have z2y := Aside0.mk zV; clear zo zV; have z36 := Aside0.mk zp; have z2z := Aside0.mk zW; clear zp zW; have z38 := Aside0.mk zr; have z2B := Aside0.mk zY; clear zr zY; have z39 := Aside0.mk zs; have z2C := Aside0.mk zZ; clear zs zZ; have z3a := Aside0.mk zt; have z2D := Aside0.mk z10; clear zt z10; have z3b := Aside0.mk zu; have z2E := Aside0.mk z11; clear zu z11; have z3c := Aside0.mk zv; have z2F := Aside0.mk z12; clear zv z12; have z3d := Aside0.mk zw; have z2G := Aside0.mk z13; clear zw z13; have z3e := Aside0.mk zx; have z2H := Aside0.mk z14; clear zx z14; have z3f := Aside0.mk zy; have z2I := Aside0.mk z15; clear zy z15; have z37 := Aside0.mk zq; have z2A := Aside0.mk zX; clear zq zX; replace p520 := eq_true p520; replace q520 := eq_true q520; have ea_ := Option.some.inj (z16.symm.trans z1u)
      injection ea_ with ea_ en_ ec_
      subst ea_
      subst ec_
      clear en_; have ea_ := Option.some.inj (z17.symm.trans z1v)
      injection ea_ with ea_ en_ ec_
      subst ea_
      subst ec_
      clear en_; have ea_ := Option.some.inj (z19.symm.trans z1x)
      injection ea_ with ea_ en_ ec_
      subst ea_
      subst ec_
      clear en_; have ea_ := Option.some.inj (z1a.symm.trans z1y)
      injection ea_ with ea_ en_ ec_
      subst ea_
      subst ec_
      clear en_; have ea_ := Option.some.inj (z1b.symm.trans z1z)
      injection ea_ with ea_ en_ ec_
      subst ea_
      subst ec_
      clear en_; have ea_ := Option.some.inj (z1c.symm.trans z1A)
      injection ea_ with ea_ en_ ec_
      subst ea_
      subst ec_
      clear en_; have ea_ := Option.some.inj (z1d.symm.trans z1B)
      injection ea_ with ea_ en_ ec_
      subst ea_
      subst ec_
      clear en_; have ea_ := Option.some.inj (z1e.symm.trans z1C)
      injection ea_ with ea_ en_ ec_
      subst ea_
      subst ec_
      clear en_; have ea_ := Option.some.inj (z1f.symm.trans z1D)
      injection ea_ with ea_ en_ ec_
      subst ea_
      subst ec_
      clear en_; have ea_ := Option.some.inj (z1g.symm.trans z1E)
      injection ea_ with ea_ en_ ec_
      subst ea_
      subst ec_
      clear en_; have ea_ := Option.some.inj (z18.symm.trans z1w)
      injection ea_ with ea_ en_ ec_
      subst ea_
      subst ec_
      clear en_
      go_wp2
      repeat (go_quiet (fail); try go_wp2)
      go_ret
      exact ⟨by first | rfl | (simp; done) | (simp [*]; done), by repeat (first | exact Drawn0.refl _ | apply Drawn0.step)⟩
     ·rw [if_neg c4] at H
      have z3O : decide (65536 < (((rd_T28 l0 z0).f1).length : Int)) = false := decide_eq_false c4; have z3P : decide (65536 < ((rd_T28 l0 z0).f1).length) = false := decide_eq_false (by omega); clear c4
      by_cases c5 : (((rd_T28 l0 z0).f3).length : Int) > 65536
      ·rw [if_pos c5] at H
       have z3Q : decide (65536 < (((rd_T28 l0 z0).f3).length : Int)) = true := decide_eq_true c5; have z3R : decide (65536 < ((rd_T28 l0 z0).f3).length) = true := decide_eq_true (by omega); clear c5
       obtain rfl := Option.some.inj H
       have p518 : 0 ≤ (z0 : Int) := of_decide_eq_true (by first | (with_reducible assumption) | assumption); have q518 : z0 < (l0.length : Int) := of_decide_eq_true (by first | (with_reducible assumption) | assumption); obtain ⟨z1, z1F, z3g, z1G, z3h, z1I, z3j, z1J, z3k, z1K, z3l, z1L, z3m, z1M, z3n, z1N, z3o, z1O, z3p, z1P, z3q, z1H, z3i, e518, z16, z17, z19, z1a, z1b, z1c, z1d, z1e, z1f, z1g, z18, zz, z2, zA, z3, zC, z5, zD, z6, zE, z7, zF, z8, zG, z9, zH, za, zI, zb, zJ, zc, zB, z4⟩ := at_T28 HR0.out z0 p518 q518
       cases e518
       have z2J := Aside0.mk z2; have z2c := Aside0.mk zz; clear z2 zz; have z2K := Aside0.mk z3; have z2d := Aside0.mk zA; clear z3 zA; have z2M := Aside0.mk z5; have z2f := Aside0.mk zC; clear z5 zC; have z2N := Aside0.mk z6; have z2g := Aside0.mk zD; clear z6 zD; have z2O := Aside0.mk z7; have z2h := Aside0.mk zE; clear z7 zE; have z2P := Aside0.mk z8; have z2i := Aside0.mk zF; clear z8 zF; have z2Q := Aside0.mk z9; have z2j := Aside0.mk zG; clear z9 zG; have z2R := Aside0.mk za; have z2k := Aside0.mk zH; clear za zH; have z2S := Aside0.mk zb; have z2l := Aside0.mk zI; clear zb zI; have z2T := Aside0.mk zc; have z2m := Aside0.mk zJ; clear zc zJ; have z2L := Aside0.mk z4; have z2e := Aside0.mk zB; clear z4 zB; replace p518 := eq_true p518; replace q518 := eq_true q518; have p519 : 0 ≤ (z0 : Int) := of_decide_eq_true (by first | (with_reducible assumption) | assumption); have q519 : z0 < (l0.length : Int) := of_decide_eq_true (by first | (with_reducible assumption) | assumption); obtain ⟨z1h, z1Q, z3r, z1R, z3s, z1T, z3u, z1U, z3v, z1V, z3w, z1W, z3x, z1X, z3y, z1Y, z3z, z1Z, z3A, z20, z3B, z1S, z3t, e519, z1j, z1k, z1m, z1n, z1o, z1p, z1q, z1r, z1s, z1t, z1l, zK, zd, zL, ze, zN, zg, zO, zh, zP, zi, zQ, zj, zR, zk, zS, zl, zT, zm, zU, zn, zM, zf⟩ := at_T28 HR0.out z0 p519 q519
       obtain rfl : z1 = z1h := (by injection e519)
       have z2U := Aside0.mk zd; have z2n := Aside0.mk zK; clear zd zK; have z2V := Aside0.mk ze; have z2o := Aside0.mk zL; clear ze zL; have z2X := Aside0.mk zg; have z2q := Aside0.mk zN; clear zg zN; have z2Y := Aside0.mk zh; have z2r := Aside0.mk zO; clear zh zO; have z2Z := Aside0.mk zi; have z2s := Aside0.mk zP; clear zi zP; have z30 := Aside0.mk zj; have z2t := Aside0.mk zQ; clear zj zQ; have z31 := Aside0.mk zk; have z2u := Aside0.mk zR; clear zk zR; have z32 := Aside0.mk zl; have z2v := Aside0.mk zS; clear zl zS; have z33 := Aside0.mk zm; have z2w := Aside0.mk zT; clear zm zT; have z34 := Aside0.mk zn; have z2x := Aside0.mk zU; clear zn zU; have z2W := Aside0.mk zf; have z2p := Aside0.mk zM; clear zf zM; replace p519 := eq_true p519; replace q519 := eq_true q519; have ea_ := Option.some.inj (z16.symm.trans z1j)
       injection ea_ with ea_ en_ ec_
       subst ea_
       subst ec_
       clear en_; have ea_ := Option.some.inj (z17.symm.trans z1k)
       injection ea_ with ea_ en_ ec_
       subst ea_
       subst ec_
       clear en_; have ea_ := Option.some.inj (z19.symm.trans z1m)
       injection ea_ with ea_ en_ ec_
       subst ea_
       subst ec_
       clear en_; have ea_ := Option.some.inj (z1a.symm.trans z1n)
       injection ea_ with ea_ en_ ec_
       subst ea_
       subst ec_
       clear en_; have ea_ := Option.some.inj (z1b.symm.trans z1o)
       injection ea_ with ea_ en_ ec_
       subst ea_
       subst ec_
       clear en_; have ea_ := Option.some.inj (z1c.symm.trans z1p)
       injection ea_ with ea_ en_ ec_
       subst ea_
       subst ec_
       clear en_; have ea_ := Option.some.inj (z1d.symm.trans z1q)
       injection ea_ with ea_ en_ ec_
       subst ea_
       subst ec_
       clear en_; have ea_ := Option.some.inj (z1e.symm.trans z1r)
       injection ea_ with ea_ en_ ec_
       subst ea_
       subst ec_
       clear en_; have ea_ := Option.some.inj (z1f.symm.trans z1s)
       injection ea_ with ea_ en_ ec_
       subst ea_
       subst ec_
       clear en_; have ea_ := Option.some.inj (z1g.symm.trans z1t)
       injection ea_ with ea_ en_ ec_
       subst ea_
       subst ec_
       clear en_; have ea_ := Option.some.inj (z18.symm.trans z1l)
       injection ea_ with ea_ en_ ec_
       subst ea_
       subst ec_
       clear en_; have p520 : 0 ≤ (z0 : Int) := of_decide_eq_true (by first | (with_reducible assumption) | assumption); have q520 : z0 < (l0.length : Int) := of_decide_eq_true (by first | (with_reducible assumption) | assumption); obtain ⟨z1i, z21, z3C, z22, z3D, z24, z3F, z25, z3G, z26, z3H, z27, z3I, z28, z3J, z29, z3K, z2a, z3L, z2b, z3M, z23, z3E, e520, z1u, z1v, z1x, z1y, z1z, z1A, z1B, z1C, z1D, z1E, z1w, zV, zo, zW, zp, zY, zr, zZ, zs, z10, zt, z11, zu, z12, zv, z13, zw, z14, zx, z15, zy, zX, zq⟩ := at_T28 HR0.out z0 p520 q520
       obtain rfl : z1 = z1i := (by injection e520)
       have z35 := Aside0.mk zo; have z2y := Aside0.mk zV; clear zo zV; have z36 := Aside0.mk zp; have z2z := Aside0.mk zW; clear zp zW; have z38 := Aside0.mk zr; have z2B := Aside0.mk zY; clear zr zY; have z39 := Aside0.mk zs; have z2C := Aside0.mk zZ; clear zs zZ; have z3a := Aside0.mk zt; have z2D := Aside0.mk z10; clear zt z10; have z3b := Aside0.mk zu; have z2E := Aside0.mk z11; clear zu z11; have z3c := Aside0.mk zv; have z2F := Aside0.mk z12; clear zv z12; have z3d := Aside0.mk zw; have z2G := Aside0.mk z13; clear zw z13; have z3e := Aside0.mk zx; have z2H := Aside0.mk z14; clear zx z14; have z3f := Aside0.mk zy; have z2I := Aside0.mk z15; clear zy z15; have z37 := Aside0.mk zq; have z2A := Aside0.mk zX; clear zq zX; replace p520 := eq_true p520; replace q520 := eq_true q520; have ea_ := Option.some.inj (z16.symm.trans z1u)
       injection ea_ with ea_ en_ ec_
       subst ea_
       subst ec_
       clear en_; have ea_ := Option.some.inj (z17.symm.trans z1v)
       injection ea_ with ea_ en_ ec_
       subst ea_
       subst ec_
       clear en_; have ea_ := Option.some.inj (z19.symm.trans z1x)
       injection ea_ with ea_ en_ ec_
       subst ea_
       subst ec_
       clear en_; have ea_ := Option.some.inj (z1a.symm.trans z1y)
       injection ea_ with ea_ en_ ec_
       subst ea_
       subst ec_
       clear en_; have ea_ := Option.some.inj (z1b.symm.trans z1z)
       injection ea_ with ea_ en_ ec_
       subst ea_
       subst ec_
       clear en_; have ea_ := Option.some.inj (z1c.symm.trans z1A)
       injection ea_ with ea_ en_ ec_
       subst ea_
       subst ec_
       clear en_; have ea_ := Option.some.inj (z1d.symm.trans z1B)
       injection ea_ with ea_ en_ ec_
       subst ea_
       subst ec_
       clear en_; have ea_ := Option.some.inj (z1e.symm.trans z1C)
       injection ea_ with ea_ en_ ec_
       subst ea_
       subst ec_
       clear en_; have ea_ := Option.some.inj (z1f.symm.trans z1D)
       injection ea_ with ea_ en_ ec_
       subst ea_
       subst ec_
       clear en_; have ea_ := Option.some.inj (z1g.symm.trans z1E)
       injection ea_ with ea_ en_ ec_
       subst ea_
       subst ec_
       clear en_; have ea_ := Option.some.inj (z18.symm.trans z1w)
       injection ea_ with ea_ en_ ec_
       subst ea_
       subst ec_
       clear en_
       go_wp2
       repeat (go_quiet (fail); try go_wp2)
       go_ret
       exact ⟨by first | rfl | (simp; done) | (simp [*]; done), by repeat (first | exact Drawn0.refl _ | apply Drawn0.step)⟩
      ·rw [if_neg c5] at H
       have z3Q : decide (65536 < (((rd_T28 l0 z0).f3).length : Int)) = false := decide_eq_false c5; have z3R : decide (65536 < ((rd_T28 l0 z0).f3).length) = false := decide_eq_false (by omega); clear c5
       by_cases c6 : (((rd_T28 l0 z0).f0).length : Int) > 65536
       ·rw [if_pos c6] at H
        have z3S : decide (65536 < (((rd_T28 l0 z0).f0).length : Int)) = true := decide_eq_true c6; have z3T : decide (65536 < ((rd_T28 l0 z0).f0).length) = true := decide_eq_true (by omega); clear c6
        obtain rfl := Option.some.inj H
        have p518 : 0 ≤ (z0 : Int) := of_decide_eq_true (by first | (with_reducible assumption) | assumption); have q518 : z0 < (l0.length : Int) := of_decide_eq_true (by first | (with_reducible assumption) | assumption); obtain ⟨z1, z1F, z3g, z1G, z3h, z1I, z3j, z1J, z3k, z1K, z3l, z1L, z3m, z1M, z3n, z1N, z3o, z1O, z3p, z1P, z3q, z1H, z3i, e518, z16, z17, z19, z1a, z1b, z1c, z1d, z1e, z1f, z1g, z18, zz, z2, zA, z3, zC, z5, zD, z6, zE, z7, zF, z8, zG, z9, zH, za, zI, zb, zJ, zc, zB, z4⟩ := at_T28 HR0.out z0 p518 q518
        cases e518
        have z2J := Aside0.mk z2; have z2c := Aside0.mk zz; clear z2 zz; have z2K := Aside0.mk z3; have z2d := Aside0.mk zA; clear z3 zA; have z2M := Aside0.mk z5; have z2f := Aside0.mk zC; clear z5 zC; have z2N := Aside0.mk z6; have z2g := Aside0.mk zD; clear z6 zD; have z2O := Aside0.mk z7; have z2h := Aside0.mk zE; clear z7 zE; have z2P := Aside0.mk z8; have z2i := Aside0.mk zF; clear z8 zF; have z2Q := Aside0.mk z9; have z2j := Aside0.mk zG; clear z9 zG; have z2R := Aside0.mk za; have z2k := Aside0.mk zH; clear za zH; have z2S := Aside0.mk zb; have z2l := Aside0.mk zI; clear zb zI; have z2T := Aside0.mk zc; have z2m := Aside0.mk zJ; clear zc zJ; have z2L := Aside0.mk z4; have z2e := Aside0.mk zB; clear z4 zB; replace p518 := eq_true p518; replace q518 := eq_true q518; have p519 : 0 ≤ (z0 : Int) := of_decide_eq_true (by first | (with_reducible assumption) | assumption); have q519 : z0 < (l0.length : Int) := of_decide_eq_true (by first | (with_reducible assumption) | assumption); obtain ⟨z1h, z1Q, z3r, z1R, z3s, z1T, z3u, z1U, z3v, z1V, z3w, z1W, z3x, z1X, z3y, z1Y, z3z, z1Z, z3A, z20, z3B, z1S, z3t, e519, z1j, z1k, z1m, z1n, z1o, z1p, z1q, z1r, z1s, z1t, z1l, zK, zd, zL, ze, zN, zg, zO, zh, zP, zi, zQ, zj, zR, zk, zS, zl, zT, zm, zU, zn, zM, zf⟩ := at_T28 HR0.out z0 p519 q519
        obtain rfl : z1 = z1h := (by injection e519)
        have z2U := Aside0.mk zd; have z2n := Aside0.mk zK; clear zd zK; have z2V := Aside0.mk ze; have z2o := Aside0.mk zL; clear ze zL; have z2X := Aside0.mk zg; have z2q := Aside0.mk zN; clear zg zN; have z2Y := Aside0.mk zh; have z2r := Aside0.mk zO; clear zh zO; have z2Z := Aside0.mk zi; have z2s := Aside0.mk zP; clear zi zP; have z30 := Aside0.mk zj; have z2t := Aside0.mk zQ; clear zj zQ; have z31 := Aside0.mk zk; have z2u := Aside0.mk zR; clear zk zR; have z32 := Aside0.mk zl; have z2v := Aside0.mk zS; clear zl zS; have z33 := Aside0.mk zm; have z2w := Aside0.mk zT; clear zm zT; have z34 := Aside0.mk zn; have z2x := Aside0.mk zU; clear zn zU; have z2W := Aside0.mk zf; have z2p := Aside0.mk zM; clear zf zM; replace p519 := eq_true p519; replace q519 := eq_true q519; have ea_ := Option.some.inj (z16.symm.trans z1j)
        injection ea_ with ea_ en_ ec_
        subst ea_
        subst ec_
        clear en_; have ea_ := Option.some.inj (z17.symm.trans z1k)
        injection ea_ with ea_ en_ ec_
        subst ea_
        subst ec_
        clear en_; have ea_ := Option.some.inj (z19.symm.trans z1m)
        injection ea_ with ea_ en_ ec_
        subst ea_
        subst ec_
        clear en_; have ea_ := Option.some.inj (z1a.symm.trans z1n)
        injection ea_ with ea_ en_ ec_
        subst ea_
        subst ec_
        clear en_; have ea_ := Option.some.inj (z1b.symm.trans z1o)
        injection ea_ with ea_ en_ ec_
        subst ea_
        subst ec_
        clear en_; have ea_ := Option.some.inj (z1c.symm.trans z1p)
        injection ea_ with ea_ en_ ec_
        subst ea_
        subst ec_
        clear en_; have ea_ := Option.some.inj (z1d.symm.trans z1q)
        injection ea_ with ea_ en_ ec_
        subst ea_
        subst ec_
        clear en_; have ea_ := Option.some.inj (z1e.symm.trans z1r)
        injection ea_ with ea_ en_ ec_
        subst ea_
        subst ec_
        clear en_; have ea_ := Option.some.inj (z1f.symm.trans z1s)
        injection ea_ with ea_ en_ ec_
        subst ea_
        subst ec_
        clear en_; have ea_ := Option.some.inj (z1g.symm.trans z1t)
        injection ea_ with ea_ en_ ec_
        subst ea_
        subst ec_
        clear en_; have ea_ := Option.some.inj (z18.symm.trans z1l)
        injection ea_ with ea_ en_ ec_
        subst ea_
        subst ec_
        clear en_; have p520 : 0 ≤ (z0 : Int) := of_decide_eq_true (by first | (with_reducible assumption) | assumption); have q520 : z0 < (l0.length : Int) := of_decide_eq_true (by first | (with_reducible assumption) | assumption); obtain ⟨z1i, z21, z3C, z22, z3D, z24, z3F, z25, z3G, z26, z3H, z27, z3I, z28, z3J, z29, z3K, z2a, z3L, z2b, z3M, z23, z3E, e520, z1u, z1v, z1x, z1y, z1z, z1A, z1B, z1C, z1D, z1E, z1w, zV, zo, zW, zp, zY, zr, zZ, zs, z10, zt, z11, zu, z12, zv, z13, zw, z14, zx, z15, zy, zX, zq⟩ := at_T28 HR0.out z0 p520 q520
        obtain rfl : z1 = z1i := (by injection e520)
        have z35 := Aside0.mk zo; have z2y := Aside0.mk zV; clear zo zV; have z36 := Aside0.mk zp; have z2z := Aside0.mk zW; clear zp zW; have z38 := Aside0.mk zr; have z2B := Aside0.mk zY; clear zr zY; have z39 := Aside0.mk zs; have z2C := Aside0.mk zZ; clear zs zZ; have z3a := Aside0.mk zt; have z2D := Aside0.mk z10; clear zt z10; have z3b := Aside0.mk zu; have z2E := Aside0.mk z11; clear zu z11; have z3c := Aside0.mk zv; have z2F := Aside0.mk z12; clear zv z12; have z3d := Aside0.mk zw; have z2G := Aside0.mk z13; clear zw z13; have z3e := Aside0.mk zx; have z2H := Aside0.mk z14; clear zx z14; have z3f := Aside0.mk zy; have z2I := Aside0.mk z15; clear zy z15; have z37 := Aside0.mk zq; have z2A := Aside0.mk zX; clear zq zX; replace p520 := eq_true p520; replace q520 := eq_true q520; have ea_ := Option.some.inj (z16.symm.trans z1u)
        injection ea_ with ea_ en_ ec_
        subst ea_
        subst ec_
        clear en_; have ea_ := Option.some.inj (z17.symm.trans z1v)
        injection ea_ with ea_ en_ ec_
        subst ea_
        subst ec_
        clear en_; have ea_ := Option.some.inj (z19.symm.trans z1x)
        injection ea_ with ea_ en_ ec_
        subst ea_
        subst ec_
        clear en_; have ea_ := Option.some.inj (z1a.symm.trans z1y)
        injection ea_ with ea_ en_ ec_
        subst ea_
        subst ec_
        clear en_; have ea_ := Option.some.inj (z1b.symm.trans z1z)
        injection ea_ with ea_ en_ ec_
        subst ea_
        subst ec_
        clear en_; have ea_ := Option.some.inj (z1c.symm.trans z1A)
        injection ea_ with ea_ en_ ec_
        subst ea_
        subst ec_
        clear en_; have ea_ := Option.some.inj (z1d.symm.trans z1B)
        injection ea_ with ea_ en_ ec_
        subst ea_
        subst ec_
        clear en_; have ea_ := Option.some.inj (z1e.symm.trans z1C)
        injection ea_ with ea_ en_ ec_
        subst ea_
        subst ec_
        clear en_; have ea_ := Option.some.inj (z1f.symm.trans z1D)
        injection ea_ with ea_ en_ ec_
        subst ea_
        subst ec_
        clear en_; have ea_ := Option.some.inj (z1g.symm.trans z1E)
        injection ea_ with ea_ en_ ec_
        subst ea_
        subst ec_
        clear en_; have ea_ := Option.some.inj (z18.symm.trans z1w)
        injection ea_ with ea_ en_ ec_
        subst ea_
        subst ec_
        clear en_
        go_wp2
        repeat (go_quiet (fail); try go_wp2)
        go_ret
        exact ⟨by first | rfl | (simp; done) | (simp [*]; done), by repeat (first | exact Drawn0.refl _ | apply Drawn0.step)⟩
       ·rw [if_neg c6] at H
        have z3S : decide (65536 < (((rd_T28 l0 z0).f0).length : Int)) = false := decide_eq_false c6; have z3T : decide (65536 < ((rd_T28 l0 z0).f0).length) = false := decide_eq_false (by omega); clear c6
        by_cases c7 : (wrap64 ((((rd_T28 l0 z0).f1).length : Int) * (((rd_T28 l0 z0).f3).length : Int))) > 65536
        ·rw [if_pos c7] at H
         have z3U : decide (65536 < (wrap64 ((((rd_T28 l0 z0).f1).length : Int) * (((rd_T28 l0 z0).f3).length : Int)))) = true := decide_eq_true c7; clear c7
         obtain rfl := Option.some.inj H
         have p518 : 0 ≤ (z0 : Int) := of_decide_eq_true (by first | (with_reducible assumption) | assumption); have q518 : z0 < (l0.length : Int) := of_decide_eq_true (by first | (with_reducible assumption) | assumption); obtain ⟨z1, z1F, z3g, z1G, z3h, z1I, z3j, z1J, z3k, z1K, z3l, z1L, z3m, z1M, z3n, z1N, z3o, z1O, z3p, z1P, z3q, z1H, z3i, e518, z16, z17, z19, z1a, z1b, z1c, z1d, z1e, z1f, z1g, z18, zz, z2, zA, z3, zC, z5, zD, z6, zE, z7, zF, z8, zG, z9, zH, za, zI, zb, zJ, zc, zB, z4⟩ := at_T28 HR0.out z0 p518 q518
         cases e518
         have z2J := Aside0.mk z2; have z2c := Aside0.mk zz; clear z2 zz; have z2K := Aside0.mk z3; have z2d := Aside0.mk zA; clear z3 zA; have z2M := Aside0.mk z5; have z2f := Aside0.mk zC; clear z5 zC; have z2N := Aside0.mk z6; have z2g := Aside0.mk zD; clear z6 zD; have z2O := Aside0.mk z7; have z2h := Aside0.mk zE; clear z7 zE; have z2P := Aside0.mk z8; have z2i := Aside0.mk zF; clear z8 zF; have z2Q := Aside0.mk z9; have z2j := Aside0.mk zG; clear z9 zG; have z2R := Aside0.mk za; have z2k := Aside0.mk zH; clear za zH; have z2S := Aside0.mk zb; have z2l := Aside0.mk zI; clear zb zI; have z2T := Aside0.mk zc; have z2m := Aside0.mk zJ; clear zc zJ; have z2L := Aside0.mk z4; have z2e := Aside0.mk zB; clear z4 zB; replace p518 := eq_true p518; replace q518 := eq_true q518; have p519 : 0 ≤ (z0 : Int) := of_decide_eq_true (by first | (with_reducible assumption) | assumption); have q519 : z0 < (l0.length : Int) := of_decide_eq_true (by first | (with_reducible assumption) | assumption); obtain ⟨z1h, z1Q, z3r, z1R, z3s, z1T, z3u, z1U, z3v, z1V, z3w, z1W, z3x, z1X, z3y, z1Y, z3z, z1Z, z3A, z20, z3B, z1S, z3t, e519, z1j, z1k, z1m, z1n, z1o, z1p, z1q, z1r, z1s, z1t, z1l, zK, zd, zL, ze, zN, zg, zO, zh, zP, zi, zQ, zj, zR, zk, zS, zl, zT, zm, zU, zn, zM, zf⟩ := at_T28 HR0.out z0 p519 q519
         obtain rfl : z1 = z1h := (by injection e519)
         have z2U := Aside0.mk zd; have z2n := Aside0.mk zK; clear zd zK; have z2V := Aside0.mk ze; have z2o := Aside0.mk zL; clear ze zL; have z2X := Aside0.mk zg; have z2q := Aside0.mk zN; clear zg zN; have z2Y := Aside0.mk zh; have z2r := Aside0.mk zO; clear zh zO; have z2Z := Aside0.mk zi; have z2s := Aside0.mk zP; clear zi zP; have z30 := Aside0.mk zj; have z2t := Aside0.mk zQ; clear zj zQ; have z31 := Aside0.mk zk; have z2u := Aside0.mk zR; clear zk zR; have z32 := Aside0.mk zl; have z2v := Aside0.mk zS; clear zl zS; have z33 := Aside0.mk zm; have z2w := Aside0.mk zT; clear zm zT; have z34 := Aside0.mk zn; have z2x := Aside0.mk zU; clear zn zU; have z2W := Aside0.mk zf; have z2p := Aside0.mk zM; clear zf zM; replace p519 := eq_true p519; replace q519 := eq_true q519; have ea_ := Option.some.inj (z16.symm.trans z1j)
         injection ea_ with ea_ en_ ec_
         subst ea_
         subst ec_
         clear en_; have ea_ := Option.some.inj (z17.symm.trans z1k)
         injection ea_ with ea_ en_ ec_
         subst ea_
         subst ec_
         clear en_; have ea_ := Option.some.inj (z19.symm.trans z1m)
         injection ea_ with ea_ en_ ec_
         subst ea_
         subst ec_
         clear en_; have ea_ := Option.some.inj (z1a.symm.trans z1n)
         injection ea_ with ea_ en_ ec_
         subst ea_
         subst ec_
         clear en_; have ea_ := Option.some.inj (z1b.symm.trans z1o)
         injection ea_ with ea_ en_ ec_
         subst ea_
         subst ec_
         clear en_; have ea_ := Option.some.inj (z1c.symm.trans z1p)
         injection ea_ with ea_ en_ ec_
         subst ea_
         subst ec_
         clear en_; have ea_ := Option.some.inj (z1d.symm.trans z1q)
         injection ea_ with ea_ en_ ec_
         subst ea_
         subst ec_
         clear en_; have ea_ := Option.some.inj (z1e.symm.trans z1r)
         injection ea_ with ea_ en_ ec_
         subst ea_
         subst ec_
         clear en_; have ea_ := Option.some.inj (z1f.symm.trans z1s)
         injection ea_ with ea_ en_ ec_
         subst ea_
         subst ec_
         clear en_; have ea_ := Option.some.inj (z1g.symm.trans z1t)
         injection ea_ with ea_ en_ ec_
         subst ea_
         subst ec_
         clear en_; have ea_ := Option.some.inj (z18.symm.trans z1l)
         injection ea_ with ea_ en_ ec_
         subst ea_
         subst ec_
         clear en_; have p520 : 0 ≤ (z0 : Int) := of_decide_eq_true (by first | (with_reducible assumption) | assumption); have q520 : z0 < (l0.length : Int) := of_decide_eq_true (by first | (with_reducible assumption) | assumption); obtain ⟨z1i, z21, z3C, z22, z3D, z24, z3F, z25, z3G, z26, z3H, z27, z3I, z28, z3J, z29, z3K, z2a, z3L, z2b, z3M, z23, z3E, e520, z1u, z1v, z1x, z1y, z1z, z1A, z1B, z1C, z1D, z1E, z1w, zV, zo, zW, zp, zY, zr, zZ, zs, z10, zt, z11, zu, z12, zv, z13, zw, z14, zx, z15, zy, zX, zq⟩ := at_T28 HR0.out z0 p520 q520
         obtain rfl : z1 = z1i := (by injection e520)
         have z35 := Aside0.mk zo; have z2y := Aside0.mk zV; clear zo zV; have z36 := Aside0.mk zp; have z2z := Aside0.mk zW; clear zp zW; have z38 := Aside0.mk zr; have z2B := Aside0.mk zY; clear zr zY; have z39 := Aside0.mk zs; have z2C := Aside0.mk zZ; clear zs zZ; have z3a := Aside0.mk zt; have z2D := Aside0.mk z10; clear zt z10; have z3b := Aside0.mk zu; have z2E := Aside0.mk z11; clear zu z11; have z3c := Aside0.mk zv; have z2F := Aside0.mk z12; clear zv z12; have z3d := Aside0.mk zw; have z2G := Aside0.mk z13; clear zw z13; have z3e := Aside0.mk zx; have z2H := Aside0.mk z14; clear zx z14; have z3f := Aside0.mk zy; have z2I := Aside0.mk z15; clear zy z15; have z37 := Aside0.mk zq; have z2A := Aside0.mk zX; clear zq zX; replace p520 := eq_true p520; replace q520 := eq_true q520; have ea_ := Option.some.inj (z16.symm.trans z1u)
         injection ea_ with ea_ en_ ec_
         subst ea_
         subst ec_
         clear en_; have ea_ := Option.some.inj (z17.symm.trans z1v)
         injection ea_ with ea_ en_ ec_
         subst ea_
         subst ec_
         clear en_; have ea_ := Option.some.inj (z19.symm.trans z1x)
         injection ea_ with ea_ en_ ec_
         subst ea_
         subst ec_
         clear en_; have ea_ := Option.some.inj (z1a.symm.trans z1y)
         injection ea_ with ea_ en_ ec_
         subst ea_
         subst ec_
         clear en_; have ea_ := Option.some.inj (z1b.symm.trans z1z)
         injection ea_ with ea_ en_ ec_
         subst ea_
         subst ec_
         clear en_; have ea_ := Option.some.inj (z1c.symm.trans z1A)
         injection ea_ with ea_ en_ ec_
         subst ea_
         subst ec_
         clear en_; have ea_ := Option.some.inj (z1d.symm.trans z1B)
         injection ea_ with ea_ en_ ec_
         subst ea_
         subst ec_
         clear en_; have ea_ := Option.some.inj (z1e.symm.trans z1C)
         injection ea_ with ea_ en_ ec_
         subst ea_
         subst ec_
         clear en_; have ea_ := Option.some.inj (z1f.symm.trans z1D)
         injection ea_ with ea_ en_ ec_
         subst ea_
         subst ec_
         clear en_; have ea_ := Option.some.inj (z1g.symm.trans z1E)
         injection ea_ with ea_ en_ ec_
         subst ea_
         subst ec_
         clear en_; have ea_ := Option.some.inj (z18.symm.trans z1w)
         injection ea_ with ea_ en_ ec_
         subst ea_
         subst ec_
         clear en_
         go_wp2
         repeat (go_quiet (fail); try go_wp2)
         go_ret
         exact ⟨by first | rfl | (simp; done) | (simp [*]; done), by repeat (first | exact Drawn0.refl _ | apply Drawn0.step)⟩
        ·rw [if_neg c7] at H
         have z3U : decide (65536 < (wrap64 ((((rd_T28 l0 z0).f1).length : Int) * (((rd_T28 l0 z0).f3).length : Int)))) = false := decide_eq_false c7; clear c7
         by_cases c8 : (wrap64 ((wrap64 ((((rd_T28 l0 z0).f1).length : Int) * (((rd_T28 l0 z0).f3).length : Int))) * (((rd_T28 l0 z0).f0).length : Int))) > 65536
         ·rw [if_pos c8] at H
          have z3V : decide (65536 < (wrap64 ((wrap64 ((((rd_T28 l0 z0).f1).length : Int) * (((rd_T28 l0 z0).f3).length : Int))) * (((rd_T28 l0 z0).f0).length : Int)))) = true := decide_eq_true c8; clear c8
          obtain rfl := Option.some.inj H
          have p518 : 0 ≤ (z0 : Int) := of_decide_eq_true (by first | (with_reducible assumption) | assumption); have q518 : z0 < (l0.length : Int) := of_decide_eq_true (by first | (with_reducible assumption) | assumption); obtain ⟨z1, z1F, z3g, z1G, z3h, z1I, z3j, z1J, z3k, z1K, z3l, z1L, z3m, z1M, z3n, z1N, z3o, z1O, z3p, z1P, z3q, z1H, z3i, e518, z16, z17, z19, z1a, z1b, z1c, z1d, z1e, z1f, z1g, z18, zz, z2, zA, z3, zC, z5, zD, z6, zE, z7, zF, z8, zG, z9, zH, za, zI, zb, zJ, zc, zB, z4⟩ := at_T28 HR0.out z0 p518 q518
          cases e518
          have z2J := Aside0.mk z2; have z2c := Aside0.mk zz; clear z2 zz; have z2K := Aside0.mk z3; have z2d := Aside0.mk zA; clear z3 zA; have z2M := Aside0.mk z5; have z2f := Aside0.mk zC; clear z5 zC; have z2N := Aside0.mk z6; have z2g := Aside0.mk zD; clear z6 zD; have z2O := Aside0.mk z7; have z2h := Aside0.mk zE; clear z7 zE; have z2P := Aside0.mk z8; have z2i := Aside0.mk zF; clear z8 zF; have z2Q := Aside0.mk z9; have z2j := Aside0.mk zG; clear z9 zG; have z2R := Aside0.mk za; have z2k := Aside0.mk zH; clear za zH; have z2S := Aside0.mk zb; have z2l := Aside0.mk zI; clear zb zI; have z2T := Aside0.mk zc; have z2m := Aside0.mk zJ; clear zc zJ; have z2L := Aside0.mk z4; have z2e := Aside0.mk zB; clear z4 zB; replace p518 := eq_true p518; replace q518 := eq_true q518; have p519 : 0 ≤ (z0 : Int) := of_decide_eq_true (by first | (with_reducible assumption) | assumption); have q519 : z0 < (l0.length : Int) := of_decide_eq_true (by first | (with_reducible assumption) | assumption); obtain ⟨z1h, z1Q, z3r, z1R, z3s, z1T, z3u, z1U, z3v, z1V, z3w, z1W, z3x, z1X, z3y, z1Y, z3z, z1Z, z3A, z20, z3B, z1S, z3t, e519, z1j, z1k, z1m, z1n, z1o, z1p, z1q, z1r, z1s, z1t, z1l, zK, zd, zL, ze, zN, zg, zO, zh, zP, zi, zQ, zj, zR, zk, zS, zl, zT, zm, zU, zn, zM, zf⟩ := at_T28 HR0.out z0 p519 q519
          obtain rfl : z1 = z1h := (by injection e519)
          have z2U := Aside0.mk zd; have z2n := Aside0.mk zK; clear zd zK; have z2V := Aside0.mk ze; have z2o := Aside0.mk zL; clear ze zL; have z2X := Aside0.mk zg; have z2q := Aside0.mk zN; clear zg zN; have z2Y := Aside0.mk zh; have z2r := Aside0.mk zO; clear zh zO; have z2Z := Aside0.mk zi; have z2s := Aside0.mk zP; clear zi zP; have z30 := Aside0.mk zj; have z2t := Aside0.mk zQ; clear zj zQ; have z31 := Aside0.mk zk; have z2u := Aside0.mk zR; clear zk zR; have z32 := Aside0.mk zl; have z2v := Aside0.mk zS; clear zl zS; have z33 := Aside0.mk zm; have z2w := Aside0.mk zT; clear zm zT; have z34 := Aside0.mk zn; have z2x := Aside0.mk zU; clear zn zU; have z2W := Aside0.mk zf; have z2p := Aside0.mk zM; clear zf zM; replace p519 := eq_true p519; replace q519 := eq_true q519; have ea_ := Option.some.inj (z16.symm.trans z1j)
          injection ea_ with ea_ en_ ec_
          subst ea_
          subst ec_
          clear en_; have ea_ := Option.some.inj (z17.symm.trans z1k)
          injection ea_ with ea_ en_ ec_
          subst ea_
          subst ec_
          clear en_; have ea_ := Option.some.inj (z19.symm.trans z1m)
          injection ea_ with ea_ en_ ec_
          subst ea_
          subst ec_
          clear en_; have ea_ := Option.some.inj (z1a.symm.trans z1n)
          injection ea_ with ea_ en_ ec_
          subst ea_
          subst ec_
          clear en_; have ea_ := Option.some.inj (z1b.symm.trans z1o)
          injection ea_ with ea_ en_ ec_
          subst ea_
          subst ec_
          clear en_; have ea_ := Option.some.inj (z1c.symm.trans z1p)
          injection ea_ with ea_ en_ ec_
          subst ea_
          subst ec_
          clear en_; have ea_ := Option.some.inj (z1d.symm.trans z1q)
          injection ea_ with ea_ en_ ec_
          subst ea_
          subst ec_
          clear en_; have ea_ := Option.some.inj (z1e.symm.trans z1r)
          injection ea_ with ea_ en_ ec_
          subst ea_
          subst ec_
          clear en_; have ea_ := Option.some.inj (z1f.symm.trans z1s)
          injection ea_ with ea_ en_ ec_
          subst ea_
          subst ec_
          clear en_; have ea_ := Option.some.inj (z1g.symm.trans z1t)
          injection ea_ with ea_ en_ ec_
          subst ea_
          subst ec_
          clear en_; have ea_ := Option.some.inj (z18.symm.trans z1l)
          injection ea_ with ea_ en_ ec_
          subst ea_
          subst ec_
          clear en_; have p520 : 0 ≤ (z0 : Int) := of_decide_eq_true (by first | (with_reducible assumption) | assumption); have q520 : z0 < (l0.length : Int) := of_decide_eq_true (by first | (with_reducible assumption) | assumption); obtain ⟨z1i, z21, z3C, z22, z3D, z24, z3F, z25, z3G, z26, z3H, z27, z3I, z28, z3J, z29, z3K, z2a, z3L, z2b, z3M, z23, z3E, e520, z1u, z1v, z1x, z1y, z1z, z1A, z1B, z1C, z1D, z1E, z1w, zV, zo, zW, zp, zY, zr, zZ, zs, z10, zt, z11, zu, z12, zv, z13, zw, z14, zx, z15, zy, zX, zq⟩ := at_T28 HR0.out z0 p520 q520
          obtain rfl : z1 = z1i := (by injection e520)
          have z35 := Aside0.mk zo; have z2y := Aside0.mk zV; clear zo zV; have z36 := Aside0.mk zp; have z2z := Aside0.mk zW; clear zp zW; have z38 := Aside0.mk zr; have z2B := Aside0.mk zY; clear zr zY; have z39 := Aside0.mk zs; have z2C := Aside0.mk zZ; clear zs zZ; have z3a := Aside0.mk zt; have z2D := Aside0.mk z10; clear zt z10; have z3b := Aside0.mk zu; have z2E := Aside0.mk z11; clear zu z11; have z3c := Aside0.mk zv; have z2F := Aside0.mk z12; clear zv z12; have z3d := Aside0.mk zw; have z2G := Aside0.mk z13; clear zw z13; have z3e := Aside0.mk zx; have z2H := Aside0.mk z14; clear zx z14; have z3f := Aside0.mk zy; have z2I := Aside0.mk z15; clear zy z15; have z37 := Aside0.mk zq; have z2A := Aside0.mk zX; clear zq zX; replace p520 := eq_true p520; replace q520 := eq_true q520; have ea_ := Option.some.inj (z16.symm.trans z1u)
          injection ea_ with ea_ en_ ec_
          subst ea_
          subst ec_
          clear en_; have ea_ := Option.some.inj (z17.symm.trans z1v)
          injection ea_ with ea_ en_ ec_
          subst ea_
          subst ec_
          clear en_; have ea_ := Option.some.inj (z19.symm.trans z1x)
          injection ea_ with ea_ en_ ec_
          subst ea_
          subst ec_
          clear en_; have ea_ := Option.some.inj (z1a.symm.trans z1y)
          injection ea_ with ea_ en_ ec_
          subst ea_
          subst ec_
          clear en_; have ea_ := Option.some.inj (z1b.symm.trans z1z)
          injection ea_ with ea_ en_ ec_
          subst ea_
          subst ec_
          clear en_; have ea_ := Option.some.inj (z1c.symm.trans z1A)
          injection ea_ with ea_ en_ ec_
          subst ea_
          subst ec_
          clear en_; have ea_ := Option.some.inj (z1d.symm.trans z1B)
          injection ea_ with ea_ en_ ec_
          subst ea_
          subst ec_
          clear en_; have ea_ := Option.some.inj (z1e.symm.trans z1C)
          injection ea_ with ea_ en_ ec_
          subst ea_
          subst ec_
          clear en_; have ea_ := Option.some.inj (z1f.symm.trans z1D)
          injection ea_ with ea_ en_ ec_
          subst ea_
          subst ec_
          clear en_; have ea_ := Option.some.inj (z1g.symm.trans z1E)
          injection ea_ with ea_ en_ ec_
          subst ea_
          subst ec_
          clear en_; have ea_ := Option.some.inj (z18.symm.trans z1w)
          injection ea_ with ea_ en_ ec_
          subst ea_
          subst ec_
          clear en_
          go_wp2
          repeat (go_quiet (fail); try go_wp2)
          go_ret
          exact ⟨by first | rfl | (simp; done) | (simp [*]; done), by repeat (first | exact Drawn0.refl _ | apply Drawn0.step)⟩
         ·rw [if_neg c8] at H
          have z3V : decide (65536 < (wrap64 ((wrap64 ((((rd_T28 l0 z0).f1).length : Int) * (((rd_T28 l0 z0).f3).length : Int))) * (((rd_T28 l0 z0).f0).length : Int)))) = false := decide_eq_false c8; clear c8; have H' := Aside0.mk H; clear H; have p518 : 0 ≤ (z0 : Int) := of_decide_eq_true (by first | (with_reducible assumption) | assumption); have q518 : z0 < (l0.length : Int) := of_decide_eq_true (by first | (with_reducible assumption) | assumption); obtain ⟨z1, z1F, z3g, z1G, z3h, z1I, z3j, z1J, z3k, z1K, z3l, z1L, z3m, z1M, z3n, z1N, z3o, z1O, z3p, z1P, z3q, z1H, z3i, e518, z16, z17, z19, z1a, z1b, z1c, z1d, z1e, z1f, z1g, z18, zz, z2, zA, z3, zC, z5, zD, z6, zE, z7, zF, z8, zG, z9, zH, za, zI, zb, zJ, zc, zB, z4⟩ := at_T28 HR0.out z0 p518 q518
          cases e518
          have z2J := Aside0.mk z2; have z2c := Aside0.mk zz; clear z2 zz; have z2K := Aside0.mk z3; have z2d := Aside0.mk zA; clear z3 zA; have z2M := Aside0.mk z5; have z2f := Aside0.mk zC; clear z5 zC; have z2N := Aside0.mk z6; have z2g := Aside0.mk zD; clear z6 zD; have z2O := Aside0.mk z7; have z2h := Aside0.mk zE; clear z7 zE; have z2P := Aside0.mk z8; have z2i := Aside0.mk zF; clear z8 zF; have z2Q := Aside0.mk z9; have z2j := Aside0.mk zG; clear z9 zG; have z2R := Aside0.mk za; have z2k := Aside0.mk zH; clear za zH; have z2S := Aside0.mk zb; have z2l := Aside0.mk zI; clear zb zI; have z2T := Aside0.mk zc; have z2m := Aside0.mk zJ; clear zc zJ; have z2L := Aside0.mk z4; have z2e := Aside0.mk zB; clear z4 zB; replace p518 := eq_true p518; replace q518 := eq_true q518; have p519 : 0 ≤ (z0 : Int) := of_decide_eq_true (by first | (with_reducible assumption) | assumption); have q519 : z0 < (l0.length : Int) := of_decide_eq_true (by first | (with_reducible assumption) | assumption); obtain ⟨z1h, z1Q, z3r, z1R, z3s, z1T, z3u, z1U, z3v, z1V, z3w, z1W, z3x, z1X, z3y, z1Y, z3z, z1Z, z3A, z20, z3B, z1S, z3t, e519, z1j, z1k, z1m, z1n, z1o, z1p, z1q, z1r, z1s, z1t, z1l, zK, zd, zL, ze, zN, zg, zO, zh, zP, zi, zQ, zj, zR, zk, zS, zl, zT, zm, zU, zn, zM, zf⟩ := at_T28 HR0.out z0 p519 q519
          obtain rfl : z1 = z1h := (by injection e519)
          have z2U := Aside0.mk zd; have z2n := Aside0.mk zK; clear zd zK; have z2V := Aside0.mk ze; have z2o := Aside0.mk zL; clear ze zL; have z2X := Aside0.mk zg; have z2q := Aside0.mk zN; clear zg zN; have z2Y := Aside0.mk zh; have z2r := Aside0.mk zO; clear zh zO; have z2Z := Aside0.mk zi; have z2s := Aside0.mk zP; clear zi zP; have z30 := Aside0.mk zj; have z2t := Aside0.mk zQ; clear zj zQ; have z31 := Aside0.mk zk; have z2u := Aside0.mk zR; clear zk zR; have z32 := Aside0.mk zl; have z2v := Aside0.mk zS; clear zl zS; have z33 := Aside0.mk zm; have z2w := Aside0.mk zT; clear zm zT; have z34 := Aside0.mk zn; have z2x := Aside0.mk zU; clear zn zU; have z2W := Aside0.mk zf; have z2p := Aside0.mk zM; clear zf zM; replace p519 := eq_true p519; replace q519 := eq_true q519; have ea_ := Option.some.inj (z16.symm.trans z1j)
          injection ea_ with ea_ en_ ec_
          subst ea_
          subst ec_
          clear en_; have ea_ := Option.some.inj (z17.symm.trans z1k)
          injection ea_ with ea_ en_ ec_
          subst ea_
          subst ec_
          clear en_; have ea_ := Option.some.inj (z19.symm.trans z1m)
          injection ea_ with ea_ en_ ec_
          subst ea_
          subst ec_
          clear en_; have ea_ := Option.some.inj (z1a.symm.trans z1n)
          injection ea_ with ea_ en_ ec_
          subst ea_
          subst ec_
          clear en_; have ea_ := Option.some.inj (z1b.symm.trans z1o)
          injection ea_ with ea_ en_ ec_
          subst ea_
          subst ec_
          clear en_; have ea_ := Option.some.inj (z1c.symm.trans z1p)
          injection ea_ with ea_ en_ ec_
          subst ea_
          subst ec_
          clear en_; have ea_ := Option.some.inj (z1d.symm.trans z1q)
          injection ea_ with ea_ en_ ec_
          subst ea_
          subst ec_
          clear en_; have ea_ := Option.some.inj (z1e.symm.trans z1r)
          injection ea_ with ea_ en_ ec_
          subst ea_
          subst ec_
          clear en_; have ea_ := Option.some.inj (z1f.symm.trans z1s)
          injection ea_ with ea_ en_ ec_
          subst ea_
          subst ec_
          clear en_; have ea_ := Option.some.inj (z1g.symm.trans z1t)
          injection ea_ with ea_ en_ ec_
          subst ea_
          subst ec_
          clear en_; have ea_ := Option.some.inj (z18.symm.trans z1l)
          injection ea_ with ea_ en_ ec_
          subst ea_
          subst ec_
          clear en_; have p520 : 0 ≤ (z0 : Int) := of_decide_eq_true (by first | (with_reducible assumption) | assumption); have q520 : z0 < (l0.length : Int) := of_decide_eq_true (by first | (with_reducible assumption) | assumption); obtain ⟨z1i, z21, z3C, z22, z3D, z24, z3F, z25, z3G, z26, z3H, z27, z3I, z28, z3J, z29, z3K, z2a, z3L, z2b, z3M, z23, z3E, e520, z1u, z1v, z1x, z1y, z1z, z1A, z1B, z1C, z1D, z1E, z1w, zV, zo, zW, zp, zY, zr, zZ, zs, z10, zt, z11, zu, z12, zv, z13, zw, z14, zx, z15, zy, zX, zq⟩ := at_T28 HR0.out z0 p520 q520
          obtain rfl : z1 = z1i := (by injection e520)
          have z35 := Aside0.mk zo; have z2y := Aside0.mk zV; clear zo zV; have z36 := Aside0.mk zp; have z2z := Aside0.mk zW; clear zp zW; have z38 := Aside0.mk zr; have z2B := Aside0.mk zY; clear zr zY; have z39 := Aside0.mk zs; have z2C := Aside0.mk zZ; clear zs zZ; have z3a := Aside0.mk zt; have z2D := Aside0.mk z10; clear zt z10; have z3b := Aside0.mk zu; have z2E := Aside0.mk z11; clear zu z11; have z3c := Aside0.mk zv; have z2F := Aside0.mk z12; clear zv z12; have z3d := Aside0.mk zw; have z2G := Aside0.mk z13; clear zw z13; have z3e := Aside0.mk zx; have z2H := Aside0.mk z14; clear zx z14; have z3f := Aside0.mk zy; have z2I := Aside0.mk z15; clear zy z15; have z37 := Aside0.mk zq; have z2A := Aside0.mk zX; clear zq zX; replace p520 := eq_true p520; replace q520 := eq_true q520; have ea_ := Option.some.inj (z16.symm.trans z1u)
          injection ea_ with ea_ en_ ec_
          subst ea_
          subst ec_
          clear en_; have ea_ := Option.some.inj (z17.symm.trans z1v)
          injection ea_ with ea_ en_ ec_
          subst ea_
          subst ec_
          clear en_; have ea_ := Option.some.inj (z19.symm.trans z1x)
          injection ea_ with ea_ en_ ec_
          subst ea_
          subst ec_
          clear en_; have ea_ := Option.some.inj (z1a.symm.trans z1y)
          injection ea_ with ea_ en_ ec_
          subst ea_
          subst ec_
          clear en_; have ea_ := Option.some.inj (z1b.symm.trans z1z)
          injection ea_ with ea_ en_ ec_
          subst ea_
          subst ec_
          clear en_; have ea_ := Option.some.inj (z1c.symm.trans z1A)
          injection ea_ with ea_ en_ ec_
          subst ea_
          subst ec_
          clear en_; have ea_ := Option.some.inj (z1d.symm.trans z1B)
          injection ea_ with ea_ en_ ec_
          subst ea_
          subst ec_
          clear en_; have ea_ := Option.some.inj (z1e.symm.trans z1C)
          injection ea_ with ea_ en_ ec_
          subst ea_
          subst ec_
          clear en_; have ea_ := Option.some.inj (z1f.symm.trans z1D)
          injection ea_ with ea_ en_ ec_
          subst ea_
          subst ec_
          clear en_; have ea_ := Option.some.inj (z1g.symm.trans z1E)
          injection ea_ with ea_ en_ ec_
          subst ea_
          subst ec_
          clear en_; have ea_ := Option.some.inj (z18.symm.trans z1w)
          injection ea_ with ea_ en_ ec_
          subst ea_
          subst ec_
          clear en_
          go_wp2
          repeat (go_quiet (fail); try go_wp2)
          go_roundg k1
          case measure => have := HK1.out; omega
          case rel => exact ⟨(wrap64 (z0 + 1)), (by first | rfl | (simp; done) | (simp [*]; done)), H', ⟨by have := HK1.out; omega⟩, by repeat (first | exact Drawn0.refl _ | apply Drawn0.step)⟩
    ·rw [if_neg c3] at H
     exact absurd H (by simp)
   ·rw [if_neg c2] at H
    have z3N : decide (z0 < (l0.length : Int)) = false := decide_eq_false c2; clear c2
    obtain rfl := Option.some.inj H
    go_wp2
    repeat (go_quiet (fail); try go_wp2)
    go_ret
    exact ⟨by first | rfl | (simp; done) | (simp [*]; done), by repeat (first | exact Drawn0.refl _ | apply Drawn0.step)⟩

/-! ### gatehouselaw13_names: function 75 -/
def gatehouselaw13_names.l0 : Nat → List ByteArray → List ByteArray → Int → Option (List ByteArray)
 | 0, _, _, _ => none
 | k + 1, x0, x3, x4 => if x4 < 20 then (if x3.length < 8796093022208 then (gatehouselaw13_names.l0 k x0 (x3 ++ [(⟨#[115, 112, 97, 114, 101]⟩ : ByteArray)]) (wrap64 (x4 + 1))) else (none)) else (if 0 ≤ (x0.length : Int) then (if (x0.length : Int) ≤ (x3.length : Int) then (some (x3.take ((x0.length : Int) : Int).toNat)) else (none)) else (none))
def gatehouselaw13_names.f (k : Nat) (l0 : List ByteArray) : Option (List ByteArray) := if ([] : List ByteArray).length + l0.length < 8796093022208 then (gatehouselaw13_names.l0 k l0 (([] : List ByteArray) ++ l0) 0) else (none)
set_option maxHeartbeats 8000000 in
set_option maxRecDepth 100000 in
theorem gatehouselaw13_names.calls (k : Nat) (A0 : Option Addr) (c0 : Nat) (l0 : List ByteArray) (r : List ByteArray) (w : World) (hr0 : Kd.C Kd.string w A0 l0.length l0) (hc0 : l0.length ≤ c0) (h : gatehouselaw13_names.f k l0 = some r) :
  Calls Try.prog 75 #[.slice A0 l0.length c0] w fun e w' => ∃ v0_ : Value, e = .returned (v0_) ∧ Kd.R Kd.string 9 w' w.heap.size (fun _ => True) v0_ r ∧ Below w.heap.size w w' := by
 have HR0 := Aside0.mk hr0; have HC0 := Aside0.mk hc0; clear hr0 hc0; have HB := Aside0.mk (Below.refl w.heap.size w); have H : (if ([] : List ByteArray).length + l0.length < 8796093022208 then (gatehouselaw13_names.l0 k l0 (([] : List ByteArray) ++ l0) 0) else (none)) = some r := h; clear h
 by_cases c2 : ([] : List ByteArray).length + l0.length < 8796093022208
 ·rw [if_pos c2] at H
  have z8 := Aside0.mk c2; clear c2; obtain ⟨y521, hy521⟩ : ∃ y_ : List ByteArray, y_ = (([] : List ByteArray) ++ l0) := ⟨_, rfl⟩
  replace H : (gatehouselaw13_names.l0 k l0 y521 0) = some r := by first | (rw [hy521]; with_reducible exact H) | (have H2_ := (Option.bind_some _ _).symm.trans H; rw [hy521]; with_reducible exact H2_) | (have H2_ := (Option.bind_some _ _).symm.trans H; with_reducible exact H2_) | with_reducible exact H | (rw [hy521]; exact H) | exact H
  have za := Aside0.mk hy521; clear hy521; have H' := Aside0.mk H; clear H
  go_enter Try.func75, Try.ntmps75
  go_wp2_with (first | ((with_reducible refine gate_builtin (b := .append) (xs := #[.tmp 5, .tmp 6]) rfl ?_); at_builtin; refine Kd.R_append_rows Kd.string (w0 := w) w.heap.size rfl (.tmp 5) (.tmp 6) 22 9 (.string ⟨#[]⟩) 16 rfl Try.underlying22 info9 rfl (by decide) (by omega) (.slice none 0 0) ([] : List ByteArray) l0 _ _ _ (fun _ => True) (fun _ => False) rfl rfl ?aO ?aR (fun _ _ h => h) (fun _ h => h.elim) ?aF ?aB ?aS ?aL ?_; (case aR => repeat (first | exact HR0.out | (with_reducible refine Kd.C_alloc ?_ _) | (with_reducible refine Kd.C_drewN ?_ _) | (with_reducible refine Kd.C_drew ?_))); (case aB => exact (hW HB)); (case aF => exact (fun _ _ => trivial)); (case aO => exact ((Kd.R_nil _ _ _ _ (fun _ => True)))); (case aS => exact (below_size (hW HB))); (case aL => have := z8.out; omega); intro v522 w3 ho hb hg hat; rw [← za.out] at ho; replace HB := Aside0.mk (hb); have z5 := Aside0.mk (ho); clear ho hb hg hat))
  go_loopg [3, 4] k (fun kq v3 v4 w' => ∃ (z0 : List ByteArray) (z1 : Int), v4 = .int .i64 z1 ∧ Aside0 (gatehouselaw13_names.l0 kq l0 z0 z1 = some r) ∧ Aside0 (kq ≤ k) ∧ Aside0 (Kd.R Kd.string 9 w' w.heap.size (fun _ => True) v3 z0) ∧ Aside0 (Below w.heap.size w w'))
  case atStart => exact ⟨(y521), (0), (by first | rfl | (simp; done) | (simp [*]; done)), H', ⟨Nat.le_refl _⟩, ⟨rE z5.out⟩, ⟨hW HB⟩⟩
  case round =>
   clear H'
   try clear c2
   try clear p2
   obtain ⟨z0, z1, rfl, HA, HK1, z2, HB⟩ := hrel
   cases gk with
   | zero => exact absurd HA.out (by simp [gatehouselaw13_names.l0])
   | succ k1 =>
    have H := HA.out; clear HA
    simp only [gatehouselaw13_names.l0] at H
    by_cases c4 : z1 < 20
    ·rw [if_pos c4] at H
     have zc : decide (z1 < 20) = true := decide_eq_true c4; clear c4
     by_cases c5 : z0.length < 8796093022208
     ·rw [if_pos c5] at H
      have z9 := Aside0.mk c5; clear c5; obtain ⟨y524, hy524⟩ : ∃ y_ : List ByteArray, y_ = (z0 ++ [(⟨#[115, 112, 97, 114, 101]⟩ : ByteArray)]) := ⟨_, rfl⟩
      replace H : (gatehouselaw13_names.l0 k1 l0 y524 (wrap64 (z1 + 1))) = some r := by first | (rw [hy524]; with_reducible exact H) | (have H2_ := (Option.bind_some _ _).symm.trans H; rw [hy524]; with_reducible exact H2_) | (have H2_ := (Option.bind_some _ _).symm.trans H; with_reducible exact H2_) | with_reducible exact H | (rw [hy524]; exact H) | exact H
      have zb := Aside0.mk hy524; clear hy524; have H' := Aside0.mk H; clear H
      go_wp2_with (first | ((with_reducible refine gate_builtin (b := .append) (xs := #[.tmp 12, .tmp 13]) rfl ?_); at_builtin; refine Kd.R_append Kd.string (w0 := w) w.heap.size rfl (.tmp 12) (.tmp 13) 22 9 (.string ⟨#[]⟩) 16 rfl Try.underlying22 info9 rfl (by decide) (by omega) u3 z0 (⟨#[115, 112, 97, 114, 101]⟩ : ByteArray) [.string (⟨#[115, 112, 97, 114, 101]⟩ : ByteArray)] (fun _ => True) (fun _ => False) rfl rfl ?aP (fun _ hk => hk.elim) ?aF ?aO ?aB ?aS ?aL ?_; (case aP => exact rfl); (case aB => exact (hW HB)); (case aF => exact (fun _ _ => trivial)); (case aO => exact (rE z2.out)); (case aS => exact (below_size (hW HB))); (case aL => have := z9.out; omega); intro v525 w6 ho hb hg hat; rw [← zb.out] at ho; replace HB := Aside0.mk (hb); have z6 := Aside0.mk (ho); clear z2; clear ho hb hg hat))
      go_roundg k1
      case measure => have := HK1.out; omega
      case rel => exact ⟨(y524), (wrap64 (z1 + 1)), (by first | rfl | (simp; done) | (simp [*]; done)), H', ⟨by have := HK1.out; omega⟩, ⟨rE z6.out⟩, ⟨hW HB⟩⟩
     ·rw [if_neg c5] at H
      exact absurd H (by simp)
    ·rw [if_neg c4] at H
     have zc : decide (z1 < 20) = false := decide_eq_false c4; clear c4
     by_cases c7 : 0 ≤ (l0.length : Int)
     ·rw [if_pos c7] at H
      have zf := eq_true c7; have zg : decide (0 ≤ (l0.length : Int)) = true := decide_eq_true c7; clear c7
      by_cases c8 : (l0.length : Int) ≤ (z0.length : Int)
      ·rw [if_pos c8] at H
       have zh := eq_true c8; have zi : decide ((l0.length : Int) ≤ (z0.length : Int)) = true := decide_eq_true c8; clear c8; obtain ⟨y527, hy527⟩ : ∃ y_ : List ByteArray, y_ = (z0.take ((l0.length : Int) : Int).toNat) := ⟨_, rfl⟩
       replace H : (some y527) = some r := by first | (rw [hy527]; with_reducible exact H) | (have H2_ := (Option.bind_some _ _).symm.trans H; rw [hy527]; with_reducible exact H2_) | (have H2_ := (Option.bind_some _ _).symm.trans H; with_reducible exact H2_) | with_reducible exact H | (rw [hy527]; exact H) | exact H
       have z3 := Aside0.mk hy527; clear hy527
       obtain rfl := Option.some.inj H
       obtain ⟨z4, zd, ze⟩ := Kd.R_slice z2.out
       subst ze
       have q10 : ((l0.length : Int) : Int) ≤ ((z0.length : Int) : Int) := of_decide_eq_true (by first | (with_reducible assumption) | assumption); obtain ⟨i010, hi010, _, hsz10, _⟩ := info_parts info9; have hcut10 := cut_to (P := Try.prog) 22 9 .i64 Try.underlying22 hi010 z4 z0.length zd (l0.length : Int) (of_decide_eq_true (by first | (with_reducible assumption) | assumption)) q10 (Kd.R_reads' z2.out).2.1; have hr10 := Kd.R_take (m := ((l0.length : Int) : Int).toNat) z2.out (by omega); have hy10 : y527.length = ((l0.length : Int) : Int).toNat := (by rw [z3.out, List.length_take]; omega)
       rw [← z3.out] at hr10
       rw [← hy10] at hr10 hcut10
       clear hy10 hi010 hsz10 z2; have z7 := Aside0.mk hr10; clear hr10; replace q10 := eq_true q10
       go_wp2
       go_ret
       exact ⟨_, by first | rfl | (simp [errW_none, errW_some] <;> rfl) | (simp [*, errW_none, errW_some] <;> rfl), by (with_reducible repeat (first | apply Kd.R_alloc | apply Kd.R_drewN | apply Kd.R_drew)); exact z7.out, by repeat (first | (with_reducible first | exact HB.out | apply below_alloc | apply pw_below_drewN | apply below_drew1) | exact HB.out)⟩
      ·rw [if_neg c8] at H
       exact absurd H (by simp)
     ·rw [if_neg c7] at H
      exact absurd H (by simp)
 ·rw [if_neg c2] at H
  exact absurd H (by simp)

/-! ### gatehouselaw13_pairs: function 76 -/
def gatehouselaw13_pairs.l0 : Nat → List (S105) → List (S105) → Int → Option ((List (S105)))
 | 0, _, _, _ => none
 | k + 1, x0, x3, x4 => if x4 < 20 then (if x3.length < 4398046511104 then (gatehouselaw13_pairs.l0 k x0 (x3 ++ [(⟨(⟨#[115, 112, 97, 114, 101]⟩ : ByteArray), (⟨#[]⟩ : ByteArray)⟩ : S105)]) (wrap64 (x4 + 1))) else (none)) else (if 0 ≤ (x0.length : Int) then (if (x0.length : Int) ≤ (x3.length : Int) then (some (x3.take ((x0.length : Int) : Int).toNat)) else (none)) else (none))
def gatehouselaw13_pairs.f (k : Nat) (l0 : List (S105)) : Option ((List (S105))) := if ([] : List (S105)).length + l0.length < 4398046511104 then (gatehouselaw13_pairs.l0 k l0 (([] : List (S105)) ++ l0) 0) else (none)
set_option maxHeartbeats 8000000 in
set_option maxRecDepth 100000 in
theorem gatehouselaw13_pairs.calls (k : Nat) (A0 : Option Addr) (c0 : Nat) (l0 : List (S105)) (r : List (S105)) (w : World) (hr0 : Kd.C k105 w A0 l0.length l0) (hc0 : l0.length ≤ c0) (h : gatehouselaw13_pairs.f k l0 = some r) :
  Calls Try.prog 76 #[.slice A0 l0.length c0] w fun e w' => ∃ v0_ : Value, e = .returned (v0_) ∧ Kd.R k105 105 w' w.heap.size (fun _ => True) v0_ r ∧ Below w.heap.size w w' := by
 have hu105 := Try.underlying105; have HR0 := Aside0.mk hr0; have HC0 := Aside0.mk hc0; clear hr0 hc0; have HB := Aside0.mk (Below.refl w.heap.size w); have H : (if ([] : List (S105)).length + l0.length < 4398046511104 then (gatehouselaw13_pairs.l0 k l0 (([] : List (S105)) ++ l0) 0) else (none)) = some r := h; clear h
 by_cases c2 : ([] : List (S105)).length + l0.length < 4398046511104
 ·rw [if_pos c2] at H
  have z8 := Aside0.mk c2; clear c2; obtain ⟨y530, hy530⟩ : ∃ y_ : List (S105), y_ = (([] : List (S105)) ++ l0) := ⟨_, rfl⟩
  replace H : (gatehouselaw13_pairs.l0 k l0 y530 0) = some r := by first | (rw [hy530]; with_reducible exact H) | (have H2_ := (Option.bind_some _ _).symm.trans H; rw [hy530]; with_reducible exact H2_) | (have H2_ := (Option.bind_some _ _).symm.trans H; with_reducible exact H2_) | with_reducible exact H | (rw [hy530]; exact H) | exact H
  have za := Aside0.mk hy530; clear hy530; have H' := Aside0.mk H; clear H
  go_enter Try.func76, Try.ntmps76
  go_wp2_with (first | ((with_reducible refine gate_builtin (b := .append) (xs := #[.tmp 5, .tmp 6]) rfl ?_); at_builtin; refine Kd.R_append_rows k105 (w0 := w) w.heap.size rfl (.tmp 5) (.tmp 6) 24 105 (.agg #[(.string ⟨#[]⟩), (.string ⟨#[]⟩)]) 32 rfl Try.underlying24 info105 rfl (by decide) (by omega) (.slice none 0 0) ([] : List (S105)) l0 _ _ _ (fun _ => True) (fun _ => False) rfl rfl ?aO ?aR (fun _ _ h => h) (fun _ h => h.elim) ?aF ?aB ?aS ?aL ?_; (case aR => repeat (first | exact HR0.out | (with_reducible refine Kd.C_alloc ?_ _) | (with_reducible refine Kd.C_drewN ?_ _) | (with_reducible refine Kd.C_drew ?_))); (case aB => exact (hW HB)); (case aF => exact (fun _ _ => trivial)); (case aO => exact ((Kd.R_nil _ _ _ _ (fun _ => True)))); (case aS => exact (below_size (hW HB))); (case aL => have := z8.out; omega); intro v531 w3 ho hb hg hat; rw [← za.out] at ho; replace HB := Aside0.mk (hb); have z5 := Aside0.mk (ho); clear ho hb hg hat))
  go_loopg [3, 4] k (fun kq v3 v4 w' => ∃ (z0 : List (S105)) (z1 : Int), v4 = .int .i64 z1 ∧ Aside0 (gatehouselaw13_pairs.l0 kq l0 z0 z1 = some r) ∧ Aside0 (kq ≤ k) ∧ Aside0 (Kd.R k105 105 w' w.heap.size (fun _ => True) v3 z0) ∧ Aside0 (Below w.heap.size w w'))
  case atStart => exact ⟨(y530), (0), (by first | rfl | (simp; done) | (simp [*]; done)), H', ⟨Nat.le_refl _⟩, ⟨rE z5.out⟩, ⟨hW HB⟩⟩
  case round =>
   clear H'
   try clear c2
   try clear p2
   obtain ⟨z0, z1, rfl, HA, HK1, z2, HB⟩ := hrel
   cases gk with
   | zero => exact absurd HA.out (by simp [gatehouselaw13_pairs.l0])
   | succ k1 =>
    have H := HA.out; clear HA
    simp only [gatehouselaw13_pairs.l0] at H
    by_cases c4 : z1 < 20
    ·rw [if_pos c4] at H
     have zc : decide (z1 < 20) = true := decide_eq_true c4; clear c4
     by_cases c5 : z0.length < 4398046511104
     ·rw [if_pos c5] at H
      have z9 := Aside0.mk c5; clear c5; obtain ⟨y533, hy533⟩ : ∃ y_ : List (S105), y_ = (z0 ++ [(⟨(⟨#[115, 112, 97, 114, 101]⟩ : ByteArray), (⟨#[]⟩ : ByteArray)⟩ : S105)]) := ⟨_, rfl⟩
      replace H : (gatehouselaw13_pairs.l0 k1 l0 y533 (wrap64 (z1 + 1))) = some r := by first | (rw [hy533]; with_reducible exact H) | (have H2_ := (Option.bind_some _ _).symm.trans H; rw [hy533]; with_reducible exact H2_) | (have H2_ := (Option.bind_some _ _).symm.trans H; with_reducible exact H2_) | with_reducible exact H | (rw [hy533]; exact H) | exact H
      have zb := Aside0.mk hy533; clear hy533; have H' := Aside0.mk H; clear H
      go_wp2_with (first | ((with_reducible refine gate_builtin (b := .append) (xs := #[.tmp 12, .tmp 14]) rfl ?_); at_builtin; refine Kd.R_append k105 (w0 := w) w.heap.size rfl (.tmp 12) (.tmp 14) 24 105 (.agg #[(.string ⟨#[]⟩), (.string ⟨#[]⟩)]) 32 rfl Try.underlying24 info105 rfl (by decide) (by omega) u3 z0 (⟨(⟨#[115, 112, 97, 114, 101]⟩ : ByteArray), (⟨#[]⟩ : ByteArray)⟩ : S105) [.string (⟨#[115, 112, 97, 114, 101]⟩ : ByteArray), .string (⟨#[]⟩ : ByteArray)] (fun _ => True) (fun _ => False) rfl rfl ?aP (fun _ hk => hk.elim) ?aF ?aO ?aB ?aS ?aL ?_; (case aP => exact k105_mkM _ _ _ (⟨(⟨#[115, 112, 97, 114, 101]⟩ : ByteArray), (⟨#[]⟩ : ByteArray)⟩ : S105)); (case aB => exact (hW HB)); (case aF => exact (fun _ _ => trivial)); (case aO => exact (rE z2.out)); (case aS => exact (below_size (hW HB))); (case aL => have := z9.out; omega); intro v534 w6 ho hb hg hat; rw [← zb.out] at ho; replace HB := Aside0.mk (hb); have z6 := Aside0.mk (ho); clear z2; clear ho hb hg hat))
      go_roundg k1
      case measure => have := HK1.out; omega
      case rel => exact ⟨(y533), (wrap64 (z1 + 1)), (by first | rfl | (simp; done) | (simp [*]; done)), H', ⟨by have := HK1.out; omega⟩, ⟨rE z6.out⟩, ⟨hW HB⟩⟩
     ·rw [if_neg c5] at H
      exact absurd H (by simp)
    ·rw [if_neg c4] at H
     have zc : decide (z1 < 20) = false := decide_eq_false c4; clear c4
     by_cases c7 : 0 ≤ (l0.length : Int)
     ·rw [if_pos c7] at H
      have zf := eq_true c7; have zg : decide (0 ≤ (l0.length : Int)) = true := decide_eq_true c7; clear c7
      by_cases c8 : (l0.length : Int) ≤ (z0.length : Int)
      ·rw [if_pos c8] at H
       have zh := eq_true c8; have zi : decide ((l0.length : Int) ≤ (z0.length : Int)) = true := decide_eq_true c8; clear c8; obtain ⟨y536, hy536⟩ : ∃ y_ : List (S105), y_ = (z0.take ((l0.length : Int) : Int).toNat) := ⟨_, rfl⟩
       replace H : (some y536) = some r := by first | (rw [hy536]; with_reducible exact H) | (have H2_ := (Option.bind_some _ _).symm.trans H; rw [hy536]; with_reducible exact H2_) | (have H2_ := (Option.bind_some _ _).symm.trans H; with_reducible exact H2_) | with_reducible exact H | (rw [hy536]; exact H) | exact H
       have z3 := Aside0.mk hy536; clear hy536
       obtain rfl := Option.some.inj H
       obtain ⟨z4, zd, ze⟩ := Kd.R_slice z2.out
       subst ze
       have q10 : ((l0.length : Int) : Int) ≤ ((z0.length : Int) : Int) := of_decide_eq_true (by first | (with_reducible assumption) | assumption); obtain ⟨i010, hi010, _, hsz10, _⟩ := info_parts info105; have hcut10 := cut_to (P := Try.prog) 24 105 .i64 Try.underlying24 hi010 z4 z0.length zd (l0.length : Int) (of_decide_eq_true (by first | (with_reducible assumption) | assumption)) q10 (Kd.R_reads' z2.out).2.1; have hr10 := Kd.R_take (m := ((l0.length : Int) : Int).toNat) z2.out (by omega); have hy10 : y536.length = ((l0.length : Int) : Int).toNat := (by rw [z3.out, List.length_take]; omega)
       rw [← z3.out] at hr10
       rw [← hy10] at hr10 hcut10
       clear hy10 hi010 hsz10 z2; have z7 := Aside0.mk hr10; clear hr10; replace q10 := eq_true q10
       go_wp2
       go_ret
       exact ⟨_, by first | rfl | (simp [errW_none, errW_some] <;> rfl) | (simp [*, errW_none, errW_some] <;> rfl), by (with_reducible repeat (first | apply Kd.R_alloc | apply Kd.R_drewN | apply Kd.R_drew)); exact z7.out, by repeat (first | (with_reducible first | exact HB.out | apply below_alloc | apply pw_below_drewN | apply below_drew1) | exact HB.out)⟩
      ·rw [if_neg c8] at H
       exact absurd H (by simp)
     ·rw [if_neg c7] at H
      exact absurd H (by simp)
 ·rw [if_neg c2] at H
  exact absurd H (by simp)

end Go.Proofs.Yteefneemmdfncaa.F
