-- Written by a program of this session (mk.py over the kit's print, turned for floats and for contracts given by hand). Not trusted: Lean checks it.
import Derived.Test.YtnkdcekddhmjnaaF0
import Derived.Test.YtnkdcekddhmjnaaF7
import Derived.Test.YtnkdcekddhmjnaaF1
import Derived.Test.YtnkdcekddhmjnaaAx
import Derived.Test.YtnkdcekddhmjnaaSC
import Derived.Test.YtnkdcekddhmjnaaF12
namespace Go.Proofs.Ytnkdcekddhmjnaa.F
open Go.RowKit Go.Proofs.YtnkdcekddhmjnaaW.PrintWords Go.Proofs.YtnkdcekddhmjnaaW.PrintLast Go.Proofs.YtnkdcekddhmjnaaW.PrintMore
attribute [local go_sem] max2_int min2_int max_two min_two max_three min_three max_four min_four   -- for this text's walks alone
attribute [local go_sem] flt_eql flt_neq flt_lss flt_leq flt_gtr flt_geq run_store_float
set_option linter.unusedVariables false
set_option linter.unusedSimpArgs false

/-! ### gatehouselaw08_MeanFaces: function 14 -/
/-! ### gatehouseref08_Mask: function 25 -/
mutual
def gatehouseref08_Mask.l0 : Nat → ByteArray → ByteArray → Int → Int → List ByteArray → List (S57) → List ByteArray → List ByteArray → List ByteArray → List (S86) → List (S86) → List (S86) → List (S86) → List (S27) → List (S36) → Option (Int)
 | 0, _, _, _, _, _, _, _, _, _, _, _, _, _, _, _ => none
 | k + 1, x1, x2, x7, x8, zB, zF, zG, zH, zI, zJ, zK, zL, zM, zN, zO => if x8 < (zB.length : Int) then (gatehouseref08_Mask.j1 k x1 x2 x7 x8 (decide (x8 < 16)) zB zF zG zH zI zJ zK zL zM zN zO) else (gatehouseref08_Mask.j1 k x1 x2 x7 x8 false zB zF zG zH zI zJ zK zL zM zN zO)
def gatehouseref08_Mask.j1 : Nat → ByteArray → ByteArray → Int → Int → Bool → List ByteArray → List (S57) → List ByteArray → List ByteArray → List ByteArray → List (S86) → List (S86) → List (S86) → List (S86) → List (S27) → List (S36) → Option (Int)
 | 0, _, _, _, _, _, _, _, _, _, _, _, _, _, _, _, _ => none
 | k + 1, x1, x2, x7, x8, x18, zB, zF, zG, zH, zI, zJ, zK, zL, zM, zN, zO => if x18 = true then (if 0 ≤ x8 then (if x8 < (zB.length : Int) then ((gatehouseref08_Allows.f k zB zF zG zH zI zJ zK zL zM zN zO x1 x2 (rdOf ByteArray.empty zB x8)).bind fun t600 => (if t600 = true then (gatehouseref08_Mask.l0 k x1 x2 (Go.bits .or .u16 x7 (shl .u16 1 x8)) (wrap64 (x8 + 1)) zB zF zG zH zI zJ zK zL zM zN zO) else (gatehouseref08_Mask.l0 k x1 x2 x7 (wrap64 (x8 + 1)) zB zF zG zH zI zJ zK zL zM zN zO))) else (none)) else (none)) else (some x7)
end
def gatehouseref08_Mask.f (k : Nat) (z2 : List ByteArray) (z3 : List (S57)) (z5 : List ByteArray) (z6 : List ByteArray) (z7 : List ByteArray) (z8 : List (S86)) (z9 : List (S86)) (za : List (S86)) (zb : List (S86)) (zc : List (S27)) (z4 : List (S36)) (a1 : ByteArray) (a2 : ByteArray) : Option (Int) := gatehouseref08_Mask.l0 k a1 a2 0 0 z2 z3 z5 z6 z7 z8 z9 za zb zc z4
def gatehouseref08_Mask.T5 : Bool × List (List Nat × List Nat) := (true, [([], []), ([], []), ([], []), ([], []), ([3], [3]), ([], []), ([4, 5], [4, 5]), ([6], [6]), ([1, 2, 7], [1, 2, 7]), ([0, 8], [0, 8]), ([9, 9, 0, 1, 2, 3, 4, 5, 6, 7, 8, 9], [9])])
def gatehouseref08_Mask.B5 : List Nat := [0, 0, 0, 0, 8, 0, 56, 120, 254, 511, 1023]
theorem gatehouseref08_Mask.tab5 : rtab .any (opsOf Try.f25 5) = gatehouseref08_Mask.T5 := by kernel_rfl
theorem gatehouseref08_Mask.bits5 : waitsOk gatehouseref08_Mask.T5.2 gatehouseref08_Mask.B5 = true := by kernel_rfl
set_option maxHeartbeats 8000000 in
set_option maxRecDepth 100000 in
theorem gatehouseref08_Mask.calls (k : Nat) (zP : Option Addr) (zo : Nat) (z2 : List ByteArray) (ze : Option Addr) (zp : Nat) (z3 : List (S57)) (zg : Option Addr) (zr : Nat) (z5 : List ByteArray) (zh : Option Addr) (zs : Nat) (z6 : List ByteArray) (zi : Option Addr) (zt : Nat) (z7 : List ByteArray) (zj : Option Addr) (zu : Nat) (z8 : List (S86)) (zk : Option Addr) (zv : Nat) (z9 : List (S86)) (zl : Option Addr) (zw : Nat) (za : List (S86)) (zm : Option Addr) (zx : Nat) (zb : List (S86)) (zn : Option Addr) (zy : Nat) (zc : List (S27)) (zf : Option Addr) (zq : Nat) (z4 : List (S36)) (a1 : ByteArray) (a2 : ByteArray) (r : Int) (w : World) (hr0_0 : Kd.C Kd.string w zP z2.length z2) (hc0_0 : z2.length ≤ zo) (hr0_1 : Kd.C k57 w ze z3.length z3) (hc0_1 : z3.length ≤ zp) (hr0_2 : Kd.C Kd.string w zg z5.length z5) (hc0_2 : z5.length ≤ zr) (hr0_3 : Kd.C Kd.string w zh z6.length z6) (hc0_3 : z6.length ≤ zs) (hr0_4 : Kd.C Kd.string w zi z7.length z7) (hc0_4 : z7.length ≤ zt) (hr0_5 : Kd.C k86 w zj z8.length z8) (hc0_5 : z8.length ≤ zu) (hr0_6 : Kd.C k86 w zk z9.length z9) (hc0_6 : z9.length ≤ zv) (hr0_7 : Kd.C k86 w zl za.length za) (hc0_7 : za.length ≤ zw) (hr0_8 : Kd.C k86 w zm zb.length zb) (hc0_8 : zb.length ≤ zx) (hr0_9 : Kd.C k27 w zn zc.length zc) (hc0_9 : zc.length ≤ zy) (hr0_10 : Kd.C k36 w zf z4.length z4) (hc0_10 : z4.length ≤ zq) (h : gatehouseref08_Mask.f k z2 z3 z5 z6 z7 z8 z9 za zb zc z4 a1 a2 = some r) :
  Calls Try.prog 25 #[.agg #[.slice zP z2.length zo, .slice ze z3.length zp, .slice zg z5.length zr, .slice zh z6.length zs, .slice zi z7.length zt, .slice zj z8.length zu, .slice zk z9.length zv, .slice zl za.length zw, .slice zm zb.length zx, .slice zn zc.length zy, .slice zf z4.length zq], .string a1, .string a2] w fun e w' => e = .returned (.int .u16 r) ∧ Below w.heap.size w w' := by
 have hu34 := Try.underlying34; have hu36 := Try.underlying36; have zQ := Aside0.mk hr0_0; have zS := Aside0.mk hc0_0; clear hr0_0 hc0_0; have z13 := Aside0.mk hr0_1; have zT := Aside0.mk hc0_1; clear hr0_1 hc0_1; have z15 := Aside0.mk hr0_2; have zV := Aside0.mk hc0_2; clear hr0_2 hc0_2; have z16 := Aside0.mk hr0_3; have zW := Aside0.mk hc0_3; clear hr0_3 hc0_3; have z17 := Aside0.mk hr0_4; have zX := Aside0.mk hc0_4; clear hr0_4 hc0_4; have z18 := Aside0.mk hr0_5; have zY := Aside0.mk hc0_5; clear hr0_5 hc0_5; have z19 := Aside0.mk hr0_6; have zZ := Aside0.mk hc0_6; clear hr0_6 hc0_6; have z1a := Aside0.mk hr0_7; have z10 := Aside0.mk hc0_7; clear hr0_7 hc0_7; have z1b := Aside0.mk hr0_8; have z11 := Aside0.mk hc0_8; clear hr0_8 hc0_8; have z1c := Aside0.mk hr0_9; have z12 := Aside0.mk hc0_9; clear hr0_9 hc0_9; have z14 := Aside0.mk hr0_10; have zU := Aside0.mk hc0_10; clear hr0_10 hc0_10; have HB := Aside0.mk (Below.refl w.heap.size w); have H : (gatehouseref08_Mask.l0 k a1 a2 0 0 z2 z3 z5 z6 z7 z8 z9 za zb zc z4) = some r := h; clear h; have H' := Aside0.mk H; clear H
 go_enter Try.func25, Try.ntmps25
 go_wp2_with (first | ((with_reducible refine gate_dst (N := 3) rfl ?_); refine box_event ?hg (N := 3) ?hd (cs := #[.slice zP z2.length zo, .slice ze z3.length zp, .slice zg z5.length zr, .slice zh z6.length zs, .slice zi z7.length zt, .slice zj z8.length zu, .slice zk z9.length zv, .slice zl za.length zw, .slice zm zb.length zx, .slice zn zc.length zy, .slice zf z4.length zq]) (t := 34) ?hr ?_; (case hd => rfl); (case hg => rfl); (case hr => first | (go_simp; done) | (go_simp; rfl)); intro zE hg w4 hbox hb; have z0 := Aside0.mk (hbox); have z1W := Aside0.mk ((by rw [hg]; exact (below_size (hW HB)) : w.heap.size ≤ zE)); have z1d := Aside0.mk ((by rw [hg]; exact (below_size (hW HB)) : w.heap.size ≤ zE)); replace HB := hF HB hb; clear hb hbox hg))
 go_loopg [7, 8] k (fun kq v7 v8 w' => ∃ (zd : Int) (z1 : Int), v7 = .int .u16 zd ∧ v8 = .int .i64 z1 ∧ Aside0 (gatehouseref08_Mask.l0 kq a1 a2 zd z1 z2 z3 z5 z6 z7 z8 z9 za zb zc z4 = some r) ∧ Aside0 (kq ≤ k) ∧ Aside0 (w'.heap[zE]? = some (.cells #[(.slice zP z2.length zo), (.slice ze z3.length zp), (.slice zg z5.length zr), (.slice zh z6.length zs), (.slice zi z7.length zt), (.slice zj z8.length zu), (.slice zk z9.length zv), (.slice zl za.length zw), (.slice zm zb.length zx), (.slice zn zc.length zy), (.slice zf z4.length zq)] 34 (0, 0))) ∧ Aside0 (Below w.heap.size w w'))
 case atStart => exact ⟨(0), (0), (by first | rfl | (simp; done) | (simp [*]; done)), (by first | rfl | (simp; done) | (simp [*]; done)), H', ⟨Nat.le_refl _⟩, ⟨bE z0⟩, ⟨hW HB⟩⟩
 case round =>
  clear H'
  try clear c2
  try clear p2
  obtain ⟨zd, z1, rfl, rfl, HA, HK1, z0, HB⟩ := hrel
  cases gk with
  | zero => exact absurd HA.out (by simp [gatehouseref08_Mask.l0])
  | succ k1 =>
   have H := HA.out; clear HA
   simp only [gatehouseref08_Mask.l0] at H
   have HC5 := Aside0.mk H; clear H
   go_upto_region 3 with (fail)
   go_cut [18] (fun v18 wc => ∃ (kq : Nat) (zR : Bool), v18 = .bool zR ∧ Aside0 (gatehouseref08_Mask.j1 kq a1 a2 zd z1 zR z2 z3 z5 z6 z7 z8 z9 za zb zc z4 = some r) ∧ Aside0 (kq ≤ k1) ∧ Aside0 (wc.heap[zE]? = some (.cells #[(.slice zP z2.length zo), (.slice ze z3.length zp), (.slice zg z5.length zr), (.slice zh z6.length zs), (.slice zi z7.length zt), (.slice zj z8.length zu), (.slice zk z9.length zv), (.slice zl za.length zw), (.slice zm zb.length zx), (.slice zn zc.length zy), (.slice zf z4.length zq)] 34 (0, 0))) ∧ Aside0 (Below w.heap.size w wc))
   case first =>
    have H := HC5.out; clear HC5
    by_cases c6 : z1 < (z2.length : Int)
    ·rw [if_pos c6] at H
     have zD : decide (z1 < (z2.length : Int)) = true := decide_eq_true c6; clear c6
     (first | rw [zD] | (simp only [i64_w, i32_w]; rw [zD]) | skip)
     have H' := Aside0.mk H; clear H; obtain ⟨z1e, z1f, z1h, z1i, z1j, z1k, z1l, z1m, z1n, z1o, z1g, z1A, z1B, z1D, z1E, z1F, z1G, z1H, z1I, z1J, z1K, z1C⟩ := bC11 z0
     go_wp2
     go_meet
     case rel => exact ⟨_, (decide (z1 < 16)), (by first | rfl | (simp; done) | (simp [*]; done)), H', ⟨by have := HK1.out; first | omega | exact Nat.le_refl _⟩, ⟨bE z0⟩, ⟨hW HB⟩⟩
    ·rw [if_neg c6] at H
     have zD : decide (z1 < (z2.length : Int)) = false := decide_eq_false c6; clear c6
     (first | rw [zD] | (simp only [i64_w, i32_w]; rw [zD]) | skip)
     have H' := Aside0.mk H; clear H; obtain ⟨z1p, z1q, z1s, z1t, z1u, z1v, z1w, z1x, z1y, z1z, z1r, z1L, z1M, z1O, z1P, z1Q, z1R, z1S, z1T, z1U, z1V, z1N⟩ := bC11 z0
     go_wp2
     go_meet
     case rel => exact ⟨_, (false), (by first | rfl | (simp; done) | (simp [*]; done)), H', ⟨by have := HK1.out; first | omega | exact Nat.le_refl _⟩, ⟨bE z0⟩, ⟨hW HB⟩⟩
   case rest =>
    clear HC5
    try clear c2
    try clear p2
    try clear c6
    try clear zD
    try clear z1e z1f z1g z1h z1i z1j z1k z1l z1m z1n z1o z1p z1q z1r z1s z1t z1u z1v z1w z1x z1y z1z z1A z1B z1C z1D z1E z1F z1G z1H z1I z1J z1K z1L z1M z1N z1O z1P z1Q z1R z1S z1T z1U z1V
    try clear p2
    obtain ⟨kq, zR, rfl, HA, HJ4, z0, HB⟩ := hcut
    cases kq with
    | zero => exact absurd HA.out (by simp [gatehouseref08_Mask.j1])
    | succ kj4 =>
     have H := HA.out; clear HA
     simp only [gatehouseref08_Mask.j1] at H
     by_cases c9 : zR = true
     ·subst c9
      have H1 : (if 0 ≤ z1 then (if z1 < (z2.length : Int) then ((gatehouseref08_Allows.f kj4 z2 z3 z5 z6 z7 z8 z9 za zb zc z4 a1 a2 (rdOf ByteArray.empty z2 z1)).bind fun t600 => (if t600 = true then (gatehouseref08_Mask.l0 kj4 a1 a2 (Go.bits .or .u16 zd (shl .u16 1 z1)) (wrap64 (z1 + 1)) z2 z3 z5 z6 z7 z8 z9 za zb zc z4) else (gatehouseref08_Mask.l0 kj4 a1 a2 zd (wrap64 (z1 + 1)) z2 z3 z5 z6 z7 z8 z9 za zb zc z4))) else (none)) else (none)) = some r := by rw [if_pos rfl] at H; exact H
      clear H; have H := H1; clear H1
      by_cases c10 : 0 ≤ z1
      ·rw [if_pos c10] at H
       have z1X : decide (0 ≤ z1) = true := decide_eq_true c10; clear c10
       by_cases c11 : z1 < (z2.length : Int)
       ·rw [if_pos c11] at H
        have z1Y : decide (z1 < (z2.length : Int)) = true := decide_eq_true c11; clear c11; replace H := Option.bind_eq_some_iff.mp H; obtain ⟨t600, A120, H⟩ := H; replace H : (if t600 = true then (gatehouseref08_Mask.l0 kj4 a1 a2 (Go.bits .or .u16 zd (shl .u16 1 z1)) (wrap64 (z1 + 1)) z2 z3 z5 z6 z7 z8 z9 za zb zc z4) else (gatehouseref08_Mask.l0 kj4 a1 a2 zd (wrap64 (z1 + 1)) z2 z3 z5 z6 z7 z8 z9 za zb zc z4)) = some r := H; have A12 := Aside0.mk A120; clear A120
        by_cases c13 : t600 = true
        ·subst c13
         have H1 : (gatehouseref08_Mask.l0 kj4 a1 a2 (Go.bits .or .u16 zd (shl .u16 1 z1)) (wrap64 (z1 + 1)) z2 z3 z5 z6 z7 z8 z9 za zb zc z4) = some r := by rw [if_pos rfl] at H; exact H
         clear H; have H := H1; clear H1; have z1Z := eq_true (of_decide_eq_true (by first | (with_reducible assumption) | assumption) : 0 ≤ z1); obtain ⟨ji15, hji15⟩ : ∃ j_ : Int, (shl .u16 1 z1) = j_ := ⟨_, rfl⟩
         replace H : (gatehouseref08_Mask.l0 kj4 a1 a2 (Go.bits .or .u16 zd (ji15)) (wrap64 (z1 + 1)) z2 z3 z5 z6 z7 z8 z9 za zb zc z4) = some r := by first | (rw [hji15] at H; exact H) | (simp only [hji15] at H ⊢; exact H)
         (try rw [hji15] at A12)
         have hji15_ : (IntKind.u16.wrap (1 * 2 ^ min z1.toNat 16)) = ji15 := hji15; have hji15z : z1 ≤ 16 → (IntKind.u16.wrap (1 * 2 ^ z1.toNat)) = ji15 := shl_small hji15
         have hji15u : (IntKind.u16.wrap (2 ^ min z1.toNat 16)) = ji15 := by have h_ := hji15_; rw [Int.one_mul] at h_; exact h_
         have hji15v : z1 ≤ 16 → (IntKind.u16.wrap (2 ^ z1.toNat)) = ji15 := fun hle_ => by have h_ := hji15z hle_; rw [Int.one_mul] at h_; exact h_
         have H' := Aside0.mk H; clear H
         try go_wp2
         replace z0 := kD z0; replace HB := Aside0.mk (below_drew1 HB.out); have p599 : 0 ≤ (z1 : Int) := of_decide_eq_true (by first | (with_reducible assumption) | assumption); have q599 : z1 < (z2.length : Int) := of_decide_eq_true (by first | (with_reducible assumption) | assumption); obtain ⟨zC, e599, zA⟩ := Kd.at_string zQ.out z1 p599 q599; have zz := zA
         cases e599
         replace zA := hC HB zA; replace p599 := eq_true p599; replace q599 := eq_true q599
         refine start_ (n := 11) (S := fun w' => sN11 w' zE (.slice (some zC) z2.length zo) (.slice ze z3.length zp) (.slice zg z5.length zr) (.slice zh z6.length zs) (.slice zi z7.length zt) (.slice zj z8.length zu) (.slice zk z9.length zv) (.slice zl za.length zw) (.slice zm zb.length zx) (.slice zn zc.length zy) (.slice zf z4.length zq) (w'.cell? (zC.add (z1).toNat) = some (.string (rdOf ByteArray.empty z2 z1)))) (ds := []) #[false, false, false, false, false, false, false, false, false, false, false] (by kernel_rfl) rfl rfl ⟨(blk_cell z0.out 0).trans rfl, (blk_cell z0.out 1).trans rfl, (blk_cell z0.out 2).trans rfl, (blk_cell z0.out 3).trans rfl, (blk_cell z0.out 4).trans rfl, (blk_cell z0.out 5).trans rfl, (blk_cell z0.out 6).trans rfl, (blk_cell z0.out 7).trans rfl, (blk_cell z0.out 8).trans rfl, (blk_cell z0.out 9).trans rfl, (blk_cell z0.out 10).trans rfl, ((HB.out.cell (World.block_lt_of_cell? w _ zz)).trans zz)⟩ (fun hHeld => ?_); refine with_tabW gatehouseref08_Mask.tab5 gatehouseref08_Mask.bits5 (fun HT_ HW_ => ?_)
         generalize wc.drew = w16 at z0 HB zA hHeld ⊢; refine pT 1 22 HT_ rfl ?_; refine pT 2 23 HT_ rfl ?_; refine pT 3 24 HT_ rfl ?_; refine pT 5 26 HT_ rfl ?_; refine tT 0 21 HT_ rfl HW_ hHeld (by (rintro w' ⟨s0, s1, s2, s3, s4, s5, s6, s7, s8, s9, s10, s11⟩; go_simp; with_reducible rfl)) ?_; refine tT 4 25 HT_ rfl HW_ hHeld (by (rintro w' ⟨s0, s1, s2, s3, s4, s5, s6, s7, s8, s9, s10, s11⟩; go_simp; with_reducible rfl)) ?_; refine pT 6 27 HT_ rfl ?_; refine tT 7 28 HT_ rfl HW_ hHeld (by (rintro w' ⟨s0, s1, s2, s3, s4, s5, s6, s7, s8, s9, s10, s11⟩; go_simp; with_reducible rfl)) ?_; refine pT 8 29 HT_ rfl ?_
         refine one_ (i := 9) (N := some 30) #[true, true, true, true, true, true, true, true, true, true, false] rfl rfl (one_of HT_.out (by kernel_rfl)) (by decide) (fun K hK => ?_)
         refine goes_ Try.func23 (by kernel_rfl) rfl #[.agg #[.slice (some zC) z2.length zo, .slice ze z3.length zp, .slice zg z5.length zr, .slice zh z6.length zs, .slice zi z7.length zt, .slice zj z8.length zu, .slice zk z9.length zv, .slice zl za.length zw, .slice zm zb.length zx, .slice zn zc.length zy, .slice zf z4.length zq], .agg #[.string a1, .string a2, .string (rdOf ByteArray.empty z2 z1)]] (by rfl) rfl rfl (by (try simp only [List.map_toArray, List.map_cons, List.map_nil]); first | done | rfl | (simp only [List.length_drop, List.length_take]; rfl)) ?_
         with_reducible refine (gatehouseref08_Allows.calls kj4 _ _ z2 _ _ z3 _ _ z5 _ _ z6 _ _ z7 _ _ z8 _ _ z9 _ _ za _ _ zb _ _ zc _ _ z4 a1 a2 (rdOf ByteArray.empty z2 z1) true _ ?side1 ?side2 ?side3 ?side4 ?side5 ?side6 ?side7 ?side8 ?side9 ?side10 ?side11 ?side12 ?side13 ?side14 ?side15 ?side16 ?side17 ?side18 ?side19 ?side20 ?side21 ?side22 A12.out).mono ?_
         (case side1 => exact cE (Kd.C_below zQ.out HB.out)); (case side2 => exact zS.out); (case side3 => exact cE (Kd.C_below z13.out HB.out)); (case side4 => exact zT.out); (case side5 => exact cE (Kd.C_below z15.out HB.out)); (case side6 => exact zV.out); (case side7 => exact cE (Kd.C_below z16.out HB.out)); (case side8 => exact zW.out); (case side9 => exact cE (Kd.C_below z17.out HB.out)); (case side10 => exact zX.out); (case side11 => exact cE (Kd.C_below z18.out HB.out)); (case side12 => exact zY.out); (case side13 => exact cE (Kd.C_below z19.out HB.out)); (case side14 => exact zZ.out); (case side15 => exact cE (Kd.C_below z1a.out HB.out)); (case side16 => exact z10.out); (case side17 => exact cE (Kd.C_below z1b.out HB.out)); (case side18 => exact z11.out); (case side19 => exact cE (Kd.C_below z1c.out HB.out)); (case side20 => exact z12.out); (case side21 => exact cE (Kd.C_below z14.out HB.out)); (case side22 => exact zU.out)
         rintro e w17 ⟨rfl, hb⟩
         refine ⟨_, rfl, ?_⟩
         replace z0 := kF z0 hb; replace HB := hF HB hb; (try clear hb); (try clear hb2); (try clear hk); (try clear hi)
         refine hK.out _ _ ⟨(blk_cell z0.out 0).trans rfl, (blk_cell z0.out 1).trans rfl, (blk_cell z0.out 2).trans rfl, (blk_cell z0.out 3).trans rfl, (blk_cell z0.out 4).trans rfl, (blk_cell z0.out 5).trans rfl, (blk_cell z0.out 6).trans rfl, (blk_cell z0.out 7).trans rfl, (blk_cell z0.out 8).trans rfl, (blk_cell z0.out 9).trans rfl, (blk_cell z0.out 10).trans rfl, ((HB.out.cell (World.block_lt_of_cell? w _ zz)).trans zz)⟩ (fun hHeld => ?_)
         clear hK K
         refine norm_ (a' := ?_) ?_ ?_
         rotate_left
         ·show Act.put _ (some 30) _ = _
          simp only [Act.put, List.setIfInBounds_toArray, List.set_cons_zero, List.set_cons_succ, i64_w, i32_w]
          rfl
         refine pT 10 9 HT_ rfl ?_
         refine done_ (done_of HT_.out (by kernel_rfl)) ?_
         try go_wp2
         go_roundg kj4
         case measure => have := HK1.out; have := HJ4.out; omega
         case rel => exact ⟨(Go.bits .or .u16 zd (ji15)), (wrap64 (z1 + 1)), (by first | rfl | (simp; done) | (simp only [← hji15] <;> (first | rfl | simp)) | (simp [*]; done)), (by first | rfl | (simp; done) | (simp [*]; done)), H', ⟨by have := HK1.out; have := HJ4.out; omega⟩, ⟨bE z0⟩, ⟨hW HB⟩⟩
        ·replace c13 := Bool.eq_false_iff.mpr c13
         subst c13
         have H1 : (gatehouseref08_Mask.l0 kj4 a1 a2 zd (wrap64 (z1 + 1)) z2 z3 z5 z6 z7 z8 z9 za zb zc z4) = some r := by rw [if_neg (show ¬ (false = true) by decide)] at H; exact H
         clear H; have H := H1; clear H1; have H' := Aside0.mk H; clear H
         try go_wp2
         replace z0 := kD z0; replace HB := Aside0.mk (below_drew1 HB.out); have p599 : 0 ≤ (z1 : Int) := of_decide_eq_true (by first | (with_reducible assumption) | assumption); have q599 : z1 < (z2.length : Int) := of_decide_eq_true (by first | (with_reducible assumption) | assumption); obtain ⟨zC, e599, zA⟩ := Kd.at_string zQ.out z1 p599 q599; have zz := zA
         cases e599
         replace zA := hC HB zA; replace p599 := eq_true p599; replace q599 := eq_true q599
         refine start_ (n := 11) (S := fun w' => sN11 w' zE (.slice (some zC) z2.length zo) (.slice ze z3.length zp) (.slice zg z5.length zr) (.slice zh z6.length zs) (.slice zi z7.length zt) (.slice zj z8.length zu) (.slice zk z9.length zv) (.slice zl za.length zw) (.slice zm zb.length zx) (.slice zn zc.length zy) (.slice zf z4.length zq) (w'.cell? (zC.add (z1).toNat) = some (.string (rdOf ByteArray.empty z2 z1)))) (ds := []) #[false, false, false, false, false, false, false, false, false, false, false] (by kernel_rfl) rfl rfl ⟨(blk_cell z0.out 0).trans rfl, (blk_cell z0.out 1).trans rfl, (blk_cell z0.out 2).trans rfl, (blk_cell z0.out 3).trans rfl, (blk_cell z0.out 4).trans rfl, (blk_cell z0.out 5).trans rfl, (blk_cell z0.out 6).trans rfl, (blk_cell z0.out 7).trans rfl, (blk_cell z0.out 8).trans rfl, (blk_cell z0.out 9).trans rfl, (blk_cell z0.out 10).trans rfl, ((HB.out.cell (World.block_lt_of_cell? w _ zz)).trans zz)⟩ (fun hHeld => ?_); refine with_tabW gatehouseref08_Mask.tab5 gatehouseref08_Mask.bits5 (fun HT_ HW_ => ?_)
         generalize wc.drew = w18 at z0 HB zA hHeld ⊢; refine pT 1 22 HT_ rfl ?_; refine pT 2 23 HT_ rfl ?_; refine pT 3 24 HT_ rfl ?_; refine pT 5 26 HT_ rfl ?_; refine tT 0 21 HT_ rfl HW_ hHeld (by (rintro w' ⟨s0, s1, s2, s3, s4, s5, s6, s7, s8, s9, s10, s11⟩; go_simp; with_reducible rfl)) ?_; refine tT 4 25 HT_ rfl HW_ hHeld (by (rintro w' ⟨s0, s1, s2, s3, s4, s5, s6, s7, s8, s9, s10, s11⟩; go_simp; with_reducible rfl)) ?_; refine pT 6 27 HT_ rfl ?_; refine tT 7 28 HT_ rfl HW_ hHeld (by (rintro w' ⟨s0, s1, s2, s3, s4, s5, s6, s7, s8, s9, s10, s11⟩; go_simp; with_reducible rfl)) ?_; refine pT 8 29 HT_ rfl ?_
         refine one_ (i := 9) (N := some 30) #[true, true, true, true, true, true, true, true, true, true, false] rfl rfl (one_of HT_.out (by kernel_rfl)) (by decide) (fun K hK => ?_)
         refine goes_ Try.func23 (by kernel_rfl) rfl #[.agg #[.slice (some zC) z2.length zo, .slice ze z3.length zp, .slice zg z5.length zr, .slice zh z6.length zs, .slice zi z7.length zt, .slice zj z8.length zu, .slice zk z9.length zv, .slice zl za.length zw, .slice zm zb.length zx, .slice zn zc.length zy, .slice zf z4.length zq], .agg #[.string a1, .string a2, .string (rdOf ByteArray.empty z2 z1)]] (by rfl) rfl rfl (by (try simp only [List.map_toArray, List.map_cons, List.map_nil]); first | done | rfl | (simp only [List.length_drop, List.length_take]; rfl)) ?_
         with_reducible refine (gatehouseref08_Allows.calls kj4 _ _ z2 _ _ z3 _ _ z5 _ _ z6 _ _ z7 _ _ z8 _ _ z9 _ _ za _ _ zb _ _ zc _ _ z4 a1 a2 (rdOf ByteArray.empty z2 z1) false _ ?side1 ?side2 ?side3 ?side4 ?side5 ?side6 ?side7 ?side8 ?side9 ?side10 ?side11 ?side12 ?side13 ?side14 ?side15 ?side16 ?side17 ?side18 ?side19 ?side20 ?side21 ?side22 A12.out).mono ?_
         (case side1 => exact cE (Kd.C_below zQ.out HB.out)); (case side2 => exact zS.out); (case side3 => exact cE (Kd.C_below z13.out HB.out)); (case side4 => exact zT.out); (case side5 => exact cE (Kd.C_below z15.out HB.out)); (case side6 => exact zV.out); (case side7 => exact cE (Kd.C_below z16.out HB.out)); (case side8 => exact zW.out); (case side9 => exact cE (Kd.C_below z17.out HB.out)); (case side10 => exact zX.out); (case side11 => exact cE (Kd.C_below z18.out HB.out)); (case side12 => exact zY.out); (case side13 => exact cE (Kd.C_below z19.out HB.out)); (case side14 => exact zZ.out); (case side15 => exact cE (Kd.C_below z1a.out HB.out)); (case side16 => exact z10.out); (case side17 => exact cE (Kd.C_below z1b.out HB.out)); (case side18 => exact z11.out); (case side19 => exact cE (Kd.C_below z1c.out HB.out)); (case side20 => exact z12.out); (case side21 => exact cE (Kd.C_below z14.out HB.out)); (case side22 => exact zU.out)
         rintro e w19 ⟨rfl, hb⟩
         refine ⟨_, rfl, ?_⟩
         replace z0 := kF z0 hb; replace HB := hF HB hb; (try clear hb); (try clear hb2); (try clear hk); (try clear hi)
         refine hK.out _ _ ⟨(blk_cell z0.out 0).trans rfl, (blk_cell z0.out 1).trans rfl, (blk_cell z0.out 2).trans rfl, (blk_cell z0.out 3).trans rfl, (blk_cell z0.out 4).trans rfl, (blk_cell z0.out 5).trans rfl, (blk_cell z0.out 6).trans rfl, (blk_cell z0.out 7).trans rfl, (blk_cell z0.out 8).trans rfl, (blk_cell z0.out 9).trans rfl, (blk_cell z0.out 10).trans rfl, ((HB.out.cell (World.block_lt_of_cell? w _ zz)).trans zz)⟩ (fun hHeld => ?_)
         clear hK K
         refine norm_ (a' := ?_) ?_ ?_
         rotate_left
         ·show Act.put _ (some 30) _ = _
          simp only [Act.put, List.setIfInBounds_toArray, List.set_cons_zero, List.set_cons_succ, i64_w, i32_w]
          rfl
         refine pT 10 9 HT_ rfl ?_
         refine done_ (done_of HT_.out (by kernel_rfl)) ?_
         try go_wp2
         go_roundg kj4
         case measure => have := HK1.out; have := HJ4.out; omega
         case rel => exact ⟨(zd), (wrap64 (z1 + 1)), (by first | rfl | (simp; done) | (simp [*]; done)), (by first | rfl | (simp; done) | (simp [*]; done)), H', ⟨by have := HK1.out; have := HJ4.out; omega⟩, ⟨bE z0⟩, ⟨hW HB⟩⟩
       ·rw [if_neg c11] at H
        exact absurd H (by simp)
      ·rw [if_neg c10] at H
       exact absurd H (by simp)
     ·replace c9 := Bool.eq_false_iff.mpr c9
      subst c9
      have H1 : (some zd) = some r := by rw [if_neg (show ¬ (false = true) by decide)] at H; exact H
      clear H; have H := H1; clear H1
      obtain rfl := Option.some.inj H
      go_wp2
      go_ret
      exact ⟨by first | rfl | (simp [errW_none, errW_some] <;> rfl) | (simp [*, errW_none, errW_some] <;> rfl), by repeat (first | (with_reducible first | exact HB.out | apply below_alloc | apply pw_below_drewN | apply below_drew1 | refine below_set ?_ z1d.out) | exact HB.out)⟩

-- NOT PRINTED: function 7 (gatehouselaw08_MeanMask)

-- by hand: function 19 (mean_Matches)

-- NOT PRINTED: function 5 (gatehouselaw08_MeanMatches)

end Go.Proofs.Ytnkdcekddhmjnaa.F
