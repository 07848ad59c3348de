-- Written by a program of this session (mk.py over the kit's print, turned for floats and for contracts given by hand). Not trusted: Lean checks it.
import Derived.Test.YtnkdcekddhmjnaaF0
import Derived.Test.YtnkdcekddhmjnaaF6
import Derived.Test.YtnkdcekddhmjnaaAx
import Derived.Test.YtnkdcekddhmjnaaMx
import Derived.Test.YtnkdcekddhmjnaaPx
namespace Go.Proofs.Ytnkdcekddhmjnaa.F
open Go.RowKit Go.Proofs.YtnkdcekddhmjnaaW.PrintWords Go.Proofs.YtnkdcekddhmjnaaW.PrintLast Go.Proofs.YtnkdcekddhmjnaaW.PrintMore
attribute [local go_sem] max2_int min2_int max_two min_two max_three min_three max_four min_four   -- for this text's walks alone
attribute [local go_sem] flt_eql flt_neq flt_lss flt_leq flt_gtr flt_geq run_store_float
set_option linter.unusedVariables false
set_option linter.unusedSimpArgs false

/-! ### gatehouselaw08_there: function 39 -/
mutual
def gatehouselaw08_there.l0 : Nat → Bool → Bool → Bool → Int → List ByteArray → List (S57) → List ByteArray → List ByteArray → List ByteArray → List (S86) → List (S86) → List (S86) → List (S86) → List (S27) → List (S36) → ByteArray → ByteArray → ByteArray → Option (Bool)
 | 0, _, _, _, _, _, _, _, _, _, _, _, _, _, _, _, _, _, _ => none
 | k + 1, x5, x6, x7, x8, zk, zl, zr, zm, zs, zt, zu, zv, zw, zx, zy, zo, zp, zq => if x8 < (zl.length : Int) then (if x5 = true then (gatehouselaw08_there.l0 k true x6 x7 (wrap64 (x8 + 1)) zk zl zr zm zs zt zu zv zw zx zy zo zp zq) else (if 0 ≤ x8 then (gatehouselaw08_there.l0 k (((rd_T57 zl x8).f0).toList == zo.toList) x6 x7 (wrap64 (x8 + 1)) zk zl zr zm zs zt zu zv zw zx zy zo zp zq) else (none))) else (gatehouselaw08_there.l1 k x5 x6 x7 0 zk zl zr zm zs zt zu zv zw zx zy zo zp zq)
def gatehouselaw08_there.l1 : Nat → Bool → Bool → Bool → Int → List ByteArray → List (S57) → List ByteArray → List ByteArray → List ByteArray → List (S86) → List (S86) → List (S86) → List (S86) → List (S27) → List (S36) → ByteArray → ByteArray → ByteArray → Option (Bool)
 | 0, _, _, _, _, _, _, _, _, _, _, _, _, _, _, _, _, _, _ => none
 | k + 1, x5, x6, x7, x9, zk, zl, zr, zm, zs, zt, zu, zv, zw, zx, zy, zo, zp, zq => if x9 < (zm.length : Int) then (if x6 = true then (gatehouselaw08_there.l1 k x5 true x7 (wrap64 (x9 + 1)) zk zl zr zm zs zt zu zv zw zx zy zo zp zq) else (if 0 ≤ x9 then (gatehouselaw08_there.l1 k x5 ((rdOf ByteArray.empty zm x9).toList == zp.toList) x7 (wrap64 (x9 + 1)) zk zl zr zm zs zt zu zv zw zx zy zo zp zq) else (none))) else (gatehouselaw08_there.l2 k x5 x6 x7 0 zk zl zr zm zs zt zu zv zw zx zy zo zp zq)
def gatehouselaw08_there.l2 : Nat → Bool → Bool → Bool → Int → List ByteArray → List (S57) → List ByteArray → List ByteArray → List ByteArray → List (S86) → List (S86) → List (S86) → List (S86) → List (S27) → List (S36) → ByteArray → ByteArray → ByteArray → Option (Bool)
 | 0, _, _, _, _, _, _, _, _, _, _, _, _, _, _, _, _, _, _ => none
 | k + 1, x5, x6, x7, x10, zk, zl, zr, zm, zs, zt, zu, zv, zw, zx, zy, zo, zp, zq => if x10 < (zk.length : Int) then (if x7 = true then (gatehouselaw08_there.l2 k x5 x6 true (wrap64 (x10 + 1)) zk zl zr zm zs zt zu zv zw zx zy zo zp zq) else (if 0 ≤ x10 then (gatehouselaw08_there.l2 k x5 x6 ((rdOf ByteArray.empty zk x10).toList == zq.toList) (wrap64 (x10 + 1)) zk zl zr zm zs zt zu zv zw zx zy zo zp zq) else (none))) else (if x5 = true then (if x6 = true then (some x7) else (some false)) else (some false))
end
def gatehouselaw08_there.f (k : Nat) (z1 : List ByteArray) (z2 : List (S57)) (z5 : List ByteArray) (z3 : List ByteArray) (z6 : List ByteArray) (z7 : List (S86)) (z8 : List (S86)) (z9 : List (S86)) (za : List (S86)) (zb : List (S27)) (z4 : List (S36)) (a1_0 : ByteArray) (a1_1 : ByteArray) (a1_2 : ByteArray) : Option (Bool) := gatehouselaw08_there.l0 k false false false 0 z1 z2 z5 z3 z6 z7 z8 z9 za zb z4 a1_0 a1_1 a1_2
set_option maxHeartbeats 8000000 in
set_option maxRecDepth 100000 in
theorem gatehouselaw08_there.calls (k : Nat) (zA : Option Addr) (zL : Nat) (z1 : List ByteArray) (zB : Option Addr) (zM : Nat) (z2 : List (S57)) (zD : Option Addr) (zO : Nat) (z5 : List ByteArray) (zE : Option Addr) (zP : Nat) (z3 : List ByteArray) (zF : Option Addr) (zQ : Nat) (z6 : List ByteArray) (zG : Option Addr) (zR : Nat) (z7 : List (S86)) (zH : Option Addr) (zS : Nat) (z8 : List (S86)) (zI : Option Addr) (zT : Nat) (z9 : List (S86)) (zJ : Option Addr) (zU : Nat) (za : List (S86)) (zK : Option Addr) (zV : Nat) (zb : List (S27)) (zC : Option Addr) (zN : Nat) (z4 : List (S36)) (a1_0 : ByteArray) (a1_1 : ByteArray) (a1_2 : ByteArray) (r : Bool) (w : World) (hr0_0 : Kd.C Kd.string w zA z1.length z1) (hc0_0 : z1.length ≤ zL) (hr0_1 : Kd.C k57 w zB z2.length z2) (hc0_1 : z2.length ≤ zM) (hr0_2 : Kd.C Kd.string w zD z5.length z5) (hc0_2 : z5.length ≤ zO) (hr0_3 : Kd.C Kd.string w zE z3.length z3) (hc0_3 : z3.length ≤ zP) (hr0_4 : Kd.C Kd.string w zF z6.length z6) (hc0_4 : z6.length ≤ zQ) (hr0_5 : Kd.C k86 w zG z7.length z7) (hc0_5 : z7.length ≤ zR) (hr0_6 : Kd.C k86 w zH z8.length z8) (hc0_6 : z8.length ≤ zS) (hr0_7 : Kd.C k86 w zI z9.length z9) (hc0_7 : z9.length ≤ zT) (hr0_8 : Kd.C k86 w zJ za.length za) (hc0_8 : za.length ≤ zU) (hr0_9 : Kd.C k27 w zK zb.length zb) (hc0_9 : zb.length ≤ zV) (hr0_10 : Kd.C k36 w zC z4.length z4) (hc0_10 : z4.length ≤ zN) (h : gatehouselaw08_there.f k z1 z2 z5 z3 z6 z7 z8 z9 za zb z4 a1_0 a1_1 a1_2 = some r) :
  Calls Try.prog 39 #[.agg #[.slice zA z1.length zL, .slice zB z2.length zM, .slice zD z5.length zO, .slice zE z3.length zP, .slice zF z6.length zQ, .slice zG z7.length zR, .slice zH z8.length zS, .slice zI z9.length zT, .slice zJ za.length zU, .slice zK zb.length zV, .slice zC z4.length zN], .agg #[.string a1_0, .string a1_1, .string a1_2]] w fun e w' => e = .returned (.bool r) ∧ Below w.heap.size w w' := by
 have hu34 := Try.underlying34; have hu36 := Try.underlying36; have z2i := Aside0.mk hr0_0; have z3x := Aside0.mk hc0_0; clear hr0_0 hc0_0; have z2j := Aside0.mk hr0_1; have z3y := Aside0.mk hc0_1; clear hr0_1 hc0_1; have z3J := Aside0.mk hr0_2; have z3A := Aside0.mk hc0_2; clear hr0_2 hc0_2; have z2k := Aside0.mk hr0_3; have z3B := Aside0.mk hc0_3; clear hr0_3 hc0_3; have z3K := Aside0.mk hr0_4; have z3C := Aside0.mk hc0_4; clear hr0_4 hc0_4; have z3L := Aside0.mk hr0_5; have z3D := Aside0.mk hc0_5; clear hr0_5 hc0_5; have z3M := Aside0.mk hr0_6; have z3E := Aside0.mk hc0_6; clear hr0_6 hc0_6; have z3N := Aside0.mk hr0_7; have z3F := Aside0.mk hc0_7; clear hr0_7 hc0_7; have z3O := Aside0.mk hr0_8; have z3G := Aside0.mk hc0_8; clear hr0_8 hc0_8; have z3P := Aside0.mk hr0_9; have z3H := Aside0.mk hc0_9; clear hr0_9 hc0_9; have z3I := Aside0.mk hr0_10; have z3z := Aside0.mk hc0_10; clear hr0_10 hc0_10; have HB := Aside0.mk (Below.refl w.heap.size w); have H : (gatehouselaw08_there.l0 k false false false 0 z1 z2 z5 z3 z6 z7 z8 z9 za zb z4 a1_0 a1_1 a1_2) = some r := h; clear h; have H' := Aside0.mk H; clear H
 go_enter Try.func39, Try.ntmps39
 go_wp2_with (first | ((with_reducible refine gate_dst (N := 2) rfl ?_); refine box_event ?hg (N := 2) ?hd (cs := #[.slice zA z1.length zL, .slice zB z2.length zM, .slice zD z5.length zO, .slice zE z3.length zP, .slice zF z6.length zQ, .slice zG z7.length zR, .slice zH z8.length zS, .slice zI z9.length zT, .slice zJ za.length zU, .slice zK zb.length zV, .slice zC z4.length zN]) (t := 34) ?hr ?_; (case hd => rfl); (case hg => rfl); (case hr => first | (go_simp; done) | (go_simp; rfl)); intro zg hg w3 hbox hb; have z0 := Aside0.mk (hbox); have z13 := Aside0.mk ((by rw [hg]; exact (below_size (hW HB)) : w.heap.size ≤ zg)); have zX := Aside0.mk ((by rw [hg]; exact (below_size (hW HB)) : w.heap.size ≤ zg)); replace HB := hF HB hb; clear hb hbox hg) | ((with_reducible refine gate_dst (N := 3) rfl ?_); refine box_event ?hg (N := 3) ?hd (cs := #[.string a1_0, .string a1_1, .string a1_2]) (t := 36) ?hr ?_; (case hd => rfl); (case hg => rfl); (case hr => first | (go_simp; done) | (go_simp; rfl)); intro zh hg w4 hbox hb; have zf := Aside0.mk (hbox); have z14 := Aside0.mk ((by rw [hg]; exact (below_size (hW HB)) : w.heap.size ≤ zh)); have zY := Aside0.mk ((by rw [hg]; exact (below_size (hW HB)) : w.heap.size ≤ zh)); replace HB := hF HB hb; have zi := Aside0.mk ((by rw [hg]; exact Nat.ne_of_lt (bL z0) : zg ≠ zh)); have zj := Aside0.mk ((by rw [hg]; exact Nat.ne_of_gt (bL z0) : zh ≠ zg)); replace z0 := kF z0 hb; clear hb hbox hg))
 repeat (go_quiet (first | ((with_reducible refine gate_dst (N := 2) rfl ?_); refine box_event ?hg (N := 2) ?hd (cs := #[.slice zA z1.length zL, .slice zB z2.length zM, .slice zD z5.length zO, .slice zE z3.length zP, .slice zF z6.length zQ, .slice zG z7.length zR, .slice zH z8.length zS, .slice zI z9.length zT, .slice zJ za.length zU, .slice zK zb.length zV, .slice zC z4.length zN]) (t := 34) ?hr ?_; (case hd => rfl); (case hg => rfl); (case hr => first | (go_simp; done) | (go_simp; rfl)); intro zg hg w3 hbox hb; have z0 := Aside0.mk (hbox); have z13 := Aside0.mk ((by rw [hg]; exact (below_size (hW HB)) : w.heap.size ≤ zg)); have zX := Aside0.mk ((by rw [hg]; exact (below_size (hW HB)) : w.heap.size ≤ zg)); replace HB := hF HB hb; clear hb hbox hg) | ((with_reducible refine gate_dst (N := 3) rfl ?_); refine box_event ?hg (N := 3) ?hd (cs := #[.string a1_0, .string a1_1, .string a1_2]) (t := 36) ?hr ?_; (case hd => rfl); (case hg => rfl); (case hr => first | (go_simp; done) | (go_simp; rfl)); intro zh hg w4 hbox hb; have zf := Aside0.mk (hbox); have z14 := Aside0.mk ((by rw [hg]; exact (below_size (hW HB)) : w.heap.size ≤ zh)); have zY := Aside0.mk ((by rw [hg]; exact (below_size (hW HB)) : w.heap.size ≤ zh)); replace HB := hF HB hb; have zi := Aside0.mk ((by rw [hg]; exact Nat.ne_of_lt (bL z0) : zg ≠ zh)); have zj := Aside0.mk ((by rw [hg]; exact Nat.ne_of_gt (bL z0) : zh ≠ zg)); replace z0 := kF z0 hb; clear hb hbox hg)); try go_wp2_with (first | ((with_reducible refine gate_dst (N := 2) rfl ?_); refine box_event ?hg (N := 2) ?hd (cs := #[.slice zA z1.length zL, .slice zB z2.length zM, .slice zD z5.length zO, .slice zE z3.length zP, .slice zF z6.length zQ, .slice zG z7.length zR, .slice zH z8.length zS, .slice zI z9.length zT, .slice zJ za.length zU, .slice zK zb.length zV, .slice zC z4.length zN]) (t := 34) ?hr ?_; (case hd => rfl); (case hg => rfl); (case hr => first | (go_simp; done) | (go_simp; rfl)); intro zg hg w3 hbox hb; have z0 := Aside0.mk (hbox); have z13 := Aside0.mk ((by rw [hg]; exact (below_size (hW HB)) : w.heap.size ≤ zg)); have zX := Aside0.mk ((by rw [hg]; exact (below_size (hW HB)) : w.heap.size ≤ zg)); replace HB := hF HB hb; clear hb hbox hg) | ((with_reducible refine gate_dst (N := 3) rfl ?_); refine box_event ?hg (N := 3) ?hd (cs := #[.string a1_0, .string a1_1, .string a1_2]) (t := 36) ?hr ?_; (case hd => rfl); (case hg => rfl); (case hr => first | (go_simp; done) | (go_simp; rfl)); intro zh hg w4 hbox hb; have zf := Aside0.mk (hbox); have z14 := Aside0.mk ((by rw [hg]; exact (below_size (hW HB)) : w.heap.size ≤ zh)); have zY := Aside0.mk ((by rw [hg]; exact (below_size (hW HB)) : w.heap.size ≤ zh)); replace HB := hF HB hb; have zi := Aside0.mk ((by rw [hg]; exact Nat.ne_of_lt (bL z0) : zg ≠ zh)); have zj := Aside0.mk ((by rw [hg]; exact Nat.ne_of_gt (bL z0) : zh ≠ zg)); replace z0 := kF z0 hb; clear hb hbox hg)))
 go_loopg [5, 8] k (fun kq v5 v8 w' => ∃ (zn : Bool) (zd : Int), v5 = .bool zn ∧ v8 = .int .i64 zd ∧ Aside0 (gatehouselaw08_there.l0 kq zn false false zd z1 z2 z5 z3 z6 z7 z8 z9 za zb z4 a1_0 a1_1 a1_2 = some r) ∧ Aside0 (kq ≤ k) ∧ Aside0 (w'.heap[zg]? = some (.cells #[(.slice zA z1.length zL), (.slice zB z2.length zM), (.slice zD z5.length zO), (.slice zE z3.length zP), (.slice zF z6.length zQ), (.slice zG z7.length zR), (.slice zH z8.length zS), (.slice zI z9.length zT), (.slice zJ za.length zU), (.slice zK zb.length zV), (.slice zC z4.length zN)] 34 (0, 0))) ∧ Aside0 (w'.heap[zh]? = some (.cells #[.string a1_0, .string a1_1, .string a1_2] 36 (0, 0))) ∧ Aside0 (Below w.heap.size w w'))
 case atStart => exact ⟨(false), (0), (by first | rfl | (simp; done) | (simp [*]; done)), (by first | rfl | (simp; done) | (simp [*]; done)), H', ⟨Nat.le_refl _⟩, ⟨bE z0⟩, ⟨bE zf⟩, ⟨hW HB⟩⟩
 case round =>
  clear H'
  try clear p2
  try clear c3
  obtain ⟨zn, zd, rfl, rfl, HA, HK1, z0, zf, HB⟩ := hrel
  cases gk with
  | zero => exact absurd HA.out (by simp [gatehouselaw08_there.l0])
  | succ k1 =>
   have H := HA.out; clear HA
   simp only [gatehouselaw08_there.l0] at H
   by_cases c5 : zd < (z2.length : Int)
   ·rw [if_pos c5] at H
    have z11 : decide (zd < (z2.length : Int)) = true := decide_eq_true c5; clear c5
    by_cases c6 : zn = true
    ·subst c6
     have H1 : (gatehouselaw08_there.l0 k1 true false false (wrap64 (zd + 1)) z1 z2 z5 z3 z6 z7 z8 z9 za zb z4 a1_0 a1_1 a1_2) = some r := by rw [if_pos rfl] at H; exact H
     clear H; have H := H1; clear H1; have H' := Aside0.mk H; clear H; have z5W := zi.out; have z67 := zj.out; obtain ⟨z1w, z1x, z1z, z1A, z1B, z1C, z1D, z1E, z1F, z1G, z1y, z26, z27, z29, z2a, z2b, z2c, z2d, z2e, z2f, z2g, z28⟩ := bC11 z0
     go_wp2
     repeat (go_quiet (fail); try go_wp2)
     go_roundg k1
     case measure => have := HK1.out; omega
     case rel => exact ⟨(true), (wrap64 (zd + 1)), (by first | rfl | (simp; done) | (simp [*]; done)), (by first | rfl | (simp; done) | (simp [*]; done)), H', ⟨by have := HK1.out; omega⟩, ⟨bE z0⟩, ⟨bE zf⟩, ⟨hW HB⟩⟩
    ·replace c6 := Bool.eq_false_iff.mpr c6
     subst c6
     have H1 : (if 0 ≤ zd then (gatehouselaw08_there.l0 k1 (((rd_T57 z2 zd).f0).toList == a1_0.toList) false false (wrap64 (zd + 1)) z1 z2 z5 z3 z6 z7 z8 z9 za zb z4 a1_0 a1_1 a1_2) else (none)) = some r := by rw [if_neg (show ¬ (false = true) by decide)] at H; exact H
     clear H; have H := H1; clear H1
     by_cases c9 : 0 ≤ zd
     ·rw [if_pos c9] at H
      have z16 : decide (0 ≤ zd) = true := decide_eq_true c9; clear c9; have H' := Aside0.mk H; clear H; have z5M := zi.out; have z5X := zj.out; obtain ⟨z17, z18, z1a, z1b, z1c, z1d, z1e, z1f, z1g, z1h, z19, z1H, z1I, z1K, z1L, z1M, z1N, z1O, z1P, z1Q, z1R, z1J⟩ := bC11 z0; have p773 : 0 ≤ (zd : Int) := of_decide_eq_true (by first | (with_reducible assumption) | assumption); have q773 : zd < (z2.length : Int) := of_decide_eq_true (by first | (with_reducible assumption) | assumption); obtain ⟨z3Q, e773, zZ, z10⟩ := at_T57 z2j.out zd p773 q773
      cases e773
      replace zZ := hC HB zZ; replace z10 := hC HB z10; replace p773 := eq_true p773; replace q773 := eq_true q773; obtain ⟨z1i, z1j, z1k, z1S, z1T, z1U⟩ := bC3 zf
      go_wp2
      repeat (go_quiet (fail); try go_wp2)
      go_roundg k1
      case measure => have := HK1.out; omega
      case rel => exact ⟨((((rd_T57 z2 zd).f0).toList == a1_0.toList)), (wrap64 (zd + 1)), (by first | rfl | (simp; done) | (simp [*]; done)), (by first | rfl | (simp; done) | (simp [*]; done)), H', ⟨by have := HK1.out; omega⟩, ⟨bE z0⟩, ⟨bE zf⟩, ⟨hW HB⟩⟩
     ·rw [if_neg c9] at H
      exact absurd H (by simp)
   ·rw [if_neg c5] at H
    have z11 : decide (zd < (z2.length : Int)) = false := decide_eq_false c5; clear c5; have H' := Aside0.mk H; clear H; have z5N := zi.out; have z5Y := zj.out; obtain ⟨z1l, z1m, z1o, z1p, z1q, z1r, z1s, z1t, z1u, z1v, z1n, z1V, z1W, z1Y, z1Z, z20, z21, z22, z23, z24, z25, z1X⟩ := bC11 z0
    go_wp2
    repeat (go_quiet (fail); try go_wp2)
    go_loopg [6, 9] k1 (fun kq v6 v9 w' => ∃ (zz : Bool) (ze : Int), v6 = .bool zz ∧ v9 = .int .i64 ze ∧ Aside0 (gatehouselaw08_there.l1 kq zn zz false ze z1 z2 z5 z3 z6 z7 z8 z9 za zb z4 a1_0 a1_1 a1_2 = some r) ∧ Aside0 (kq ≤ k1) ∧ Aside0 (w'.heap[zg]? = some (.cells #[(.slice zA z1.length zL), (.slice zB z2.length zM), (.slice zD z5.length zO), (.slice zE z3.length zP), (.slice zF z6.length zQ), (.slice zG z7.length zR), (.slice zH z8.length zS), (.slice zI z9.length zT), (.slice zJ za.length zU), (.slice zK zb.length zV), (.slice zC z4.length zN)] 34 (0, 0))) ∧ Aside0 (w'.heap[zh]? = some (.cells #[.string a1_0, .string a1_1, .string a1_2] 36 (0, 0))) ∧ Aside0 (Below w.heap.size w w'))
    case atStart => exact ⟨(false), (0), (by first | rfl | (simp; done) | (simp [*]; done)), (by first | rfl | (simp; done) | (simp [*]; done)), H', ⟨Nat.le_refl _⟩, ⟨bE z0⟩, ⟨bE zf⟩, ⟨hW HB⟩⟩
    case round =>
     clear H'
     try clear c1
     try clear p2
     try clear c3
     try clear c5
     try clear z11
     try clear c6
     try clear p6
     try clear c7
     try clear p7
     try clear q7
     try clear hx7
     try clear c9
     try clear z16
     try clear c10
     try clear c13
     try clear z17 z18 z19 z1a z1b z1c z1d z1e z1f z1g z1h z1i z1j z1k z1l z1m z1n z1o z1p z1q z1r z1s z1t z1u z1v z1w z1x z1y z1z z1A z1B z1C z1D z1E z1F z1G z1H z1I z1J z1K z1L z1M z1N z1O z1P z1Q z1R z1S z1T z1U z1V z1W z1X z1Y z1Z z20 z21 z22 z23 z24 z25 z26 z27 z28 z29 z2a z2b z2c z2d z2e z2f z2g
     try clear zZ
     try clear z10
     try clear p2
     try clear p773
     try clear q773
     obtain ⟨zz, ze, rfl, rfl, HA, HK2, z0, zf, HB⟩ := hrel
     cases gk with
     | zero => exact absurd HA.out (by simp [gatehouselaw08_there.l1])
     | succ k2 =>
      have H := HA.out; clear HA
      simp only [gatehouselaw08_there.l1] at H
      by_cases c15 : ze < (z3.length : Int)
      ·rw [if_pos c15] at H
       have z15 : decide (ze < (z3.length : Int)) = true := decide_eq_true c15; clear c15
       by_cases c16 : zz = true
       ·subst c16
        have H1 : (gatehouselaw08_there.l1 k2 zn true false (wrap64 (ze + 1)) z1 z2 z5 z3 z6 z7 z8 z9 za zb z4 a1_0 a1_1 a1_2) = some r := by rw [if_pos rfl] at H; exact H
        clear H; have H := H1; clear H1; have H' := Aside0.mk H; clear H; have z5O := zi.out; have z5Z := zj.out; obtain ⟨z2n, z2o, z2q, z2r, z2s, z2t, z2u, z2v, z2w, z2x, z2p, z2X, z2Y, z30, z31, z32, z33, z34, z35, z36, z37, z2Z⟩ := bC11 z0
        go_wp2
        repeat (go_quiet (fail); try go_wp2)
        go_roundg k2
        case measure => have := HK1.out; have := HK2.out; omega
        case rel => exact ⟨(true), (wrap64 (ze + 1)), (by first | rfl | (simp; done) | (simp [*]; done)), (by first | rfl | (simp; done) | (simp [*]; done)), H', ⟨by have := HK1.out; have := HK2.out; omega⟩, ⟨bE z0⟩, ⟨bE zf⟩, ⟨hW HB⟩⟩
       ·replace c16 := Bool.eq_false_iff.mpr c16
        subst c16
        have H1 : (if 0 ≤ ze then (gatehouselaw08_there.l1 k2 zn ((rdOf ByteArray.empty z3 ze).toList == a1_1.toList) false (wrap64 (ze + 1)) z1 z2 z5 z3 z6 z7 z8 z9 za zb z4 a1_0 a1_1 a1_2) else (none)) = some r := by rw [if_neg (show ¬ (false = true) by decide)] at H; exact H
        clear H; have H := H1; clear H1
        by_cases c19 : 0 ≤ ze
        ·rw [if_pos c19] at H
         have z2l : decide (0 ≤ ze) = true := decide_eq_true c19; clear c19; have H' := Aside0.mk H; clear H; have z5P := zi.out; have z60 := zj.out; obtain ⟨z2y, z2z, z2B, z2C, z2D, z2E, z2F, z2G, z2H, z2I, z2A, z38, z39, z3b, z3c, z3d, z3e, z3f, z3g, z3h, z3i, z3a⟩ := bC11 z0; have p774 : 0 ≤ (ze : Int) := of_decide_eq_true (by first | (with_reducible assumption) | assumption); have q774 : ze < (z3.length : Int) := of_decide_eq_true (by first | (with_reducible assumption) | assumption); obtain ⟨z3R, e774, z12⟩ := Kd.at_string z2k.out ze p774 q774
         cases e774
         replace z12 := hC HB z12; replace p774 := eq_true p774; replace q774 := eq_true q774; obtain ⟨z2J, z2K, z2L, z3j, z3k, z3l⟩ := bC3 zf
         go_wp2
         repeat (go_quiet (fail); try go_wp2)
         go_roundg k2
         case measure => have := HK1.out; have := HK2.out; omega
         case rel => exact ⟨(((rdOf ByteArray.empty z3 ze).toList == a1_1.toList)), (wrap64 (ze + 1)), (by first | rfl | (simp; done) | (simp [*]; done)), (by first | rfl | (simp; done) | (simp [*]; done)), H', ⟨by have := HK1.out; have := HK2.out; omega⟩, ⟨bE z0⟩, ⟨bE zf⟩, ⟨hW HB⟩⟩
        ·rw [if_neg c19] at H
         exact absurd H (by simp)
      ·rw [if_neg c15] at H
       have z15 : decide (ze < (z3.length : Int)) = false := decide_eq_false c15; clear c15; have H' := Aside0.mk H; clear H; have z5Q := zi.out; have z61 := zj.out; obtain ⟨z2M, z2N, z2P, z2Q, z2R, z2S, z2T, z2U, z2V, z2W, z2O, z3m, z3n, z3p, z3q, z3r, z3s, z3t, z3u, z3v, z3w, z3o⟩ := bC11 z0
       go_wp2
       repeat (go_quiet (fail); try go_wp2)
       go_loopg [7, 10] k2 (fun kq v7 v10 w' => ∃ (zW : Bool) (zc : Int), v7 = .bool zW ∧ v10 = .int .i64 zc ∧ Aside0 (gatehouselaw08_there.l2 kq zn zz zW zc z1 z2 z5 z3 z6 z7 z8 z9 za zb z4 a1_0 a1_1 a1_2 = some r) ∧ Aside0 (kq ≤ k2) ∧ Aside0 (w'.heap[zg]? = some (.cells #[(.slice zA z1.length zL), (.slice zB z2.length zM), (.slice zD z5.length zO), (.slice zE z3.length zP), (.slice zF z6.length zQ), (.slice zG z7.length zR), (.slice zH z8.length zS), (.slice zI z9.length zT), (.slice zJ za.length zU), (.slice zK zb.length zV), (.slice zC z4.length zN)] 34 (0, 0))) ∧ Aside0 (w'.heap[zh]? = some (.cells #[.string a1_0, .string a1_1, .string a1_2] 36 (0, 0))) ∧ Aside0 (Below w.heap.size w w'))
       case atStart => exact ⟨(false), (0), (by first | rfl | (simp; done) | (simp [*]; done)), (by first | rfl | (simp; done) | (simp [*]; done)), H', ⟨Nat.le_refl _⟩, ⟨bE z0⟩, ⟨bE zf⟩, ⟨hW HB⟩⟩
       case round =>
        clear H'
        try clear c1
        try clear c2
        try clear p2
        try clear c3
        try clear c5
        try clear z11
        try clear c6
        try clear p6
        try clear c7
        try clear p7
        try clear q7
        try clear hx7
        try clear c9
        try clear z16
        try clear c10
        try clear c13
        try clear c15
        try clear z15
        try clear c16
        try clear c17
        try clear c19
        try clear z2l
        try clear c20
        try clear c23
        try clear z17 z18 z19 z1a z1b z1c z1d z1e z1f z1g z1h z1i z1j z1k z1l z1m z1n z1o z1p z1q z1r z1s z1t z1u z1v z2n z2o z2p z2q z2r z2s z2t z2u z2v z2w z2x z2y z2z z2A z2B z2C z2D z2E z2F z2G z2H z2I z2J z2K z2L z2M z2N z2O z2P z2Q z2R z2S z2T z2U z2V z2W z1w z1x z1y z1z z1A z1B z1C z1D z1E z1F z1G z1H z1I z1J z1K z1L z1M z1N z1O z1P z1Q z1R z1S z1T z1U z1V z1W z1X z1Y z1Z z20 z21 z22 z23 z24 z25 z2X z2Y z2Z z30 z31 z32 z33 z34 z35 z36 z37 z38 z39 z3a z3b z3c z3d z3e z3f z3g z3h z3i z3j z3k z3l z3m z3n z3o z3p z3q z3r z3s z3t z3u z3v z3w z26 z27 z28 z29 z2a z2b z2c z2d z2e z2f z2g
        try clear zZ
        try clear z10
        try clear z12
        try clear p2
        try clear p6
        try clear p7
        try clear p773
        try clear p774
        try clear q7
        try clear q773
        try clear q774
        obtain ⟨zW, zc, rfl, rfl, HA, HK3, z0, zf, HB⟩ := hrel
        cases gk with
        | zero => exact absurd HA.out (by simp [gatehouselaw08_there.l2])
        | succ k3 =>
         have H := HA.out; clear HA
         simp only [gatehouselaw08_there.l2] at H
         by_cases c25 : zc < (z1.length : Int)
         ·rw [if_pos c25] at H
          have z2m : decide (zc < (z1.length : Int)) = true := decide_eq_true c25; clear c25
          by_cases c26 : zW = true
          ·subst c26
           have H1 : (gatehouselaw08_there.l2 k3 zn zz true (wrap64 (zc + 1)) z1 z2 z5 z3 z6 z7 z8 z9 za zb z4 a1_0 a1_1 a1_2) = some r := by rw [if_pos rfl] at H; exact H
           clear H; have H := H1; clear H1; have H' := Aside0.mk H; clear H; have z5R := zi.out; have z62 := zj.out; obtain ⟨z3U, z3V, z3X, z3Y, z3Z, z40, z41, z42, z43, z44, z3W, z4Q, z4R, z4T, z4U, z4V, z4W, z4X, z4Y, z4Z, z50, z4S⟩ := bC11 z0
           go_wp2
           repeat (go_quiet (fail); try go_wp2)
           go_roundg k3
           case measure => have := HK1.out; have := HK2.out; have := HK3.out; omega
           case rel => exact ⟨(true), (wrap64 (zc + 1)), (by first | rfl | (simp; done) | (simp [*]; done)), (by first | rfl | (simp; done) | (simp [*]; done)), H', ⟨by have := HK1.out; have := HK2.out; have := HK3.out; omega⟩, ⟨bE z0⟩, ⟨bE zf⟩, ⟨hW HB⟩⟩
          ·replace c26 := Bool.eq_false_iff.mpr c26
           subst c26
           have H1 : (if 0 ≤ zc then (gatehouselaw08_there.l2 k3 zn zz ((rdOf ByteArray.empty z1 zc).toList == a1_2.toList) (wrap64 (zc + 1)) z1 z2 z5 z3 z6 z7 z8 z9 za zb z4 a1_0 a1_1 a1_2) else (none)) = some r := by rw [if_neg (show ¬ (false = true) by decide)] at H; exact H
           clear H; have H := H1; clear H1
           by_cases c29 : 0 ≤ zc
           ·rw [if_pos c29] at H
            have z3T : decide (0 ≤ zc) = true := decide_eq_true c29; clear c29; have H' := Aside0.mk H; clear H; have z5S := zi.out; have z63 := zj.out; obtain ⟨z45, z46, z48, z49, z4a, z4b, z4c, z4d, z4e, z4f, z47, z51, z52, z54, z55, z56, z57, z58, z59, z5a, z5b, z53⟩ := bC11 z0; have p775 : 0 ≤ (zc : Int) := of_decide_eq_true (by first | (with_reducible assumption) | assumption); have q775 : zc < (z1.length : Int) := of_decide_eq_true (by first | (with_reducible assumption) | assumption); obtain ⟨z3S, e775, z2h⟩ := Kd.at_string z2i.out zc p775 q775
            cases e775
            replace z2h := hC HB z2h; replace p775 := eq_true p775; replace q775 := eq_true q775; obtain ⟨z4g, z4h, z4i, z5c, z5d, z5e⟩ := bC3 zf
            go_wp2
            repeat (go_quiet (fail); try go_wp2)
            go_roundg k3
            case measure => have := HK1.out; have := HK2.out; have := HK3.out; omega
            case rel => exact ⟨(((rdOf ByteArray.empty z1 zc).toList == a1_2.toList)), (wrap64 (zc + 1)), (by first | rfl | (simp; done) | (simp [*]; done)), (by first | rfl | (simp; done) | (simp [*]; done)), H', ⟨by have := HK1.out; have := HK2.out; have := HK3.out; omega⟩, ⟨bE z0⟩, ⟨bE zf⟩, ⟨hW HB⟩⟩
           ·rw [if_neg c29] at H
            exact absurd H (by simp)
         ·rw [if_neg c25] at H
          have z2m : decide (zc < (z1.length : Int)) = false := decide_eq_false c25; clear c25
          by_cases c33 : zn = true
          ·subst c33
           have H1 : (if zz = true then (some zW) else (some false)) = some r := by rw [if_pos rfl] at H; exact H
           clear H; have H := H1; clear H1
           by_cases c34 : zz = true
           ·subst c34
            have H1 : (some zW) = some r := by rw [if_pos rfl] at H; exact H
            clear H; have H := H1; clear H1
            obtain rfl := Option.some.inj H
            have z5T := zi.out; have z64 := zj.out; obtain ⟨z4j, z4k, z4m, z4n, z4o, z4p, z4q, z4r, z4s, z4t, z4l, z5f, z5g, z5i, z5j, z5k, z5l, z5m, z5n, z5o, z5p, z5h⟩ := bC11 z0
            go_wp2
            repeat (go_quiet (fail); try go_wp2)
            go_ret
            exact ⟨by first | rfl | (simp [errW_none, errW_some] <;> rfl) | (simp [*, errW_none, errW_some] <;> rfl), by repeat (first | (with_reducible first | exact HB.out | apply below_alloc | apply pw_below_drewN | apply below_drew1 | refine below_set ?_ zX.out | refine below_set ?_ zY.out) | exact HB.out)⟩
           ·replace c34 := Bool.eq_false_iff.mpr c34
            subst c34
            have H1 : (some false) = some r := by rw [if_neg (show ¬ (false = true) by decide)] at H; exact H
            clear H; have H := H1; clear H1
            obtain rfl := Option.some.inj H
            have z5U := zi.out; have z65 := zj.out; obtain ⟨z4u, z4v, z4x, z4y, z4z, z4A, z4B, z4C, z4D, z4E, z4w, z5q, z5r, z5t, z5u, z5v, z5w, z5x, z5y, z5z, z5A, z5s⟩ := bC11 z0
            go_wp2
            repeat (go_quiet (fail); try go_wp2)
            go_ret
            exact ⟨by first | rfl | (simp [errW_none, errW_some] <;> rfl) | (simp [*, errW_none, errW_some] <;> rfl), by repeat (first | (with_reducible first | exact HB.out | apply below_alloc | apply pw_below_drewN | apply below_drew1 | refine below_set ?_ zX.out | refine below_set ?_ zY.out) | exact HB.out)⟩
          ·replace c33 := Bool.eq_false_iff.mpr c33
           subst c33
           have H1 : (some false) = some r := by rw [if_neg (show ¬ (false = true) by decide)] at H; exact H
           clear H; have H := H1; clear H1
           obtain rfl := Option.some.inj H
           have z5V := zi.out; have z66 := zj.out; obtain ⟨z4F, z4G, z4I, z4J, z4K, z4L, z4M, z4N, z4O, z4P, z4H, z5B, z5C, z5E, z5F, z5G, z5H, z5I, z5J, z5K, z5L, z5D⟩ := bC11 z0
           go_wp2
           repeat (go_quiet (fail); try go_wp2)
           go_ret
           exact ⟨by first | rfl | (simp [errW_none, errW_some] <;> rfl) | (simp [*, errW_none, errW_some] <;> rfl), by repeat (first | (with_reducible first | exact HB.out | apply below_alloc | apply pw_below_drewN | apply below_drew1 | refine below_set ?_ zX.out | refine below_set ?_ zY.out) | exact HB.out)⟩

-- by hand: function 41 (reach_Path)

/-! ### gatehouselaw08_joined: function 42 -/
def gatehouselaw08_joined.f (l0 : List (S86)) (l1 : List (S86)) : Option ((List (S86))) := if ([] : List (S86)).length + l0.length < 4398046511104 then ((some (([] : List (S86)) ++ l0 : List (S86))).bind fun y776 => (if y776.length + l1.length < 4398046511104 then (some (y776 ++ l1)) else (none))) else (none)
set_option maxHeartbeats 8000000 in
set_option maxRecDepth 100000 in
theorem gatehouselaw08_joined.calls (A0 : Option Addr) (c0 : Nat) (l0 : List (S86)) (A1 : Option Addr) (c1 : Nat) (l1 : List (S86)) (r : List (S86)) (w : World) (hr0 : Kd.C k86 w A0 l0.length l0) (hc0 : l0.length ≤ c0) (hr1 : Kd.C k86 w A1 l1.length l1) (hc1 : l1.length ≤ c1) (h : gatehouselaw08_joined.f l0 l1 = some r) :
  Calls Try.prog 42 #[.slice A0 l0.length c0, .slice A1 l1.length c1] w fun e w' => ∃ v0_ : Value, e = .returned (v0_) ∧ Kd.R k86 86 w' w.heap.size (fun _ => True) v0_ r ∧ Below w.heap.size w w' := by
 have HR0 := Aside0.mk hr0; have HC0 := Aside0.mk hc0; clear hr0 hc0; have HR1 := Aside0.mk hr1; have HC1 := Aside0.mk hc1; clear hr1 hc1; have HB := Aside0.mk (Below.refl w.heap.size w); have H : (if ([] : List (S86)).length + l0.length < 4398046511104 then ((some (([] : List (S86)) ++ l0 : List (S86))).bind fun y776 => (if y776.length + l1.length < 4398046511104 then (some (y776 ++ l1)) else (none))) else (none)) = some r := h; clear h
 by_cases c3 : ([] : List (S86)).length + l0.length < 4398046511104
 ·rw [if_pos c3] at H
  have z2 := Aside0.mk c3; clear c3; obtain ⟨y776, hy776⟩ : ∃ y_ : List (S86), y_ = (([] : List (S86)) ++ l0) := ⟨_, rfl⟩
  replace H : (if y776.length + l1.length < 4398046511104 then (some (y776 ++ l1)) else (none)) = some r := by first | (rw [hy776]; with_reducible exact H) | (have H2_ := (Option.bind_some _ _).symm.trans H; rw [hy776]; with_reducible exact H2_) | (have H2_ := (Option.bind_some _ _).symm.trans H; with_reducible exact H2_) | with_reducible exact H | (rw [hy776]; exact H) | exact H
  have z4 := Aside0.mk hy776; clear hy776
  by_cases c4 : y776.length + l1.length < 4398046511104
  ·rw [if_pos c4] at H
   have z3 := Aside0.mk c4; clear c4; obtain ⟨y779, hy779⟩ : ∃ y_ : List (S86), y_ = (y776 ++ l1) := ⟨_, rfl⟩
   replace H : (some y779) = some r := by first | (rw [hy779]; with_reducible exact H) | (have H2_ := (Option.bind_some _ _).symm.trans H; rw [hy779]; with_reducible exact H2_) | (have H2_ := (Option.bind_some _ _).symm.trans H; with_reducible exact H2_) | with_reducible exact H | (rw [hy779]; exact H) | exact H
   have z5 := Aside0.mk hy779; clear hy779
   obtain rfl := Option.some.inj H
   go_enter Try.func42, Try.ntmps42
   go_wp2_with (first | ((with_reducible refine gate_builtin (b := .append) (xs := #[.tmp 6, .tmp 7]) rfl ?_); at_builtin; refine Kd.R_append_rows k86 (w0 := w) w.heap.size rfl (.tmp 6) (.tmp 7) 30 86 (.agg #[(.string ⟨#[]⟩), (.string ⟨#[]⟩)]) 32 rfl Try.underlying30 info86 rfl (by decide) (by omega) (.slice none 0 0) ([] : List (S86)) l0 _ _ _ (fun _ => True) (fun _ => False) rfl rfl ?aO ?aR (fun _ _ h => h) (fun _ h => h.elim) ?aF ?aB ?aS ?aL ?_; (case aR => repeat (first | exact HR0.out | (with_reducible refine Kd.C_alloc ?_ _) | (with_reducible refine Kd.C_drewN ?_ _) | (with_reducible refine Kd.C_drew ?_))); (case aB => exact (hW HB)); (case aF => exact (fun _ _ => trivial)); (case aO => exact ((Kd.R_nil _ _ _ _ (fun _ => True)))); (case aS => exact (below_size (hW HB))); (case aL => have := z2.out; omega); intro v777 w5 ho hb hg hat; rw [← z4.out] at ho; replace HB := Aside0.mk (hb); have z0 := Aside0.mk (ho); clear ho hb hg hat) | ((with_reducible refine gate_builtin (b := .append) (xs := #[.tmp 9, .tmp 10]) rfl ?_); at_builtin; refine Kd.R_append_rows k86 (w0 := w) w.heap.size rfl (.tmp 9) (.tmp 10) 30 86 (.agg #[(.string ⟨#[]⟩), (.string ⟨#[]⟩)]) 32 rfl Try.underlying30 info86 rfl (by decide) (by omega) v777 y776 l1 _ _ _ (fun _ => True) (fun _ => False) rfl rfl ?aO ?aR (fun _ _ h => h) (fun _ h => h.elim) ?aF ?aB ?aS ?aL ?_; (case aR => exact cE (Kd.C_below HR1.out HB.out)); (case aB => exact (hW HB)); (case aF => exact (fun _ _ => trivial)); (case aO => exact (rE z0.out)); (case aS => exact (below_size (hW HB))); (case aL => have := z3.out; omega); intro v780 w6 ho hb hg hat; rw [← z5.out] at ho; replace HB := Aside0.mk (hb); have z1 := Aside0.mk (ho); clear z0; clear ho hb hg hat))
   go_ret
   exact ⟨_, by first | rfl | (simp [errW_none, errW_some] <;> rfl) | (simp [*, errW_none, errW_some] <;> rfl), by (with_reducible repeat (first | apply Kd.R_alloc | apply Kd.R_drewN | apply Kd.R_drew)); exact z1.out, by repeat (first | (with_reducible first | exact HB.out | apply below_alloc | apply pw_below_drewN | apply below_drew1) | exact HB.out)⟩
  ·rw [if_neg c4] at H
   exact absurd H (by simp)
 ·rw [if_neg c3] at H
  exact absurd H (by simp)

/-! ### gatehouselaw08_MeanReach: function 15 -/
mutual
def gatehouselaw08_MeanReach.l0 : Nat → Bool → List ByteArray → List ByteArray → Nat → Int → List ByteArray → List (S57) → List ByteArray → List ByteArray → List ByteArray → List (S86) → List (S86) → List (S86) → List (S86) → List (S27) → List (S36) → Bool → ByteArray → ByteArray → List ByteArray → Int → Nat → ByteArray → ByteArray → ByteArray → Option (Bool)
 | 0, _, _, _, _, _, _, _, _, _, _, _, _, _, _, _, _, _, _, _, _, _, _, _, _, _ => none
 | k + 1, x7, x8, x9, x10, x11, z1f, z13, z1g, z1h, z1i, z1j, z1k, z1l, z1m, z1n, z1o, z1p, z1q, z1r, z14, z1s, z1t, z19, z1u, z1a => if x11 ≥ 0 then (if 0 ≤ x11 then (if x11 < (z13.length : Int) then (if ((rd_T57 z13 x11).f0).toList = z19.toList then (gatehouselaw08_MeanReach.l0 k x7 x8 x9 ((rd_T57 z13 x11).f1) (wrap64 (x11 - 1)) z1f z13 z1g z1h z1i z1j z1k z1l z1m z1n z1o z1p z1q z1r z14 z1s z1t z19 z1u z1a) else (gatehouselaw08_MeanReach.l0 k x7 x8 x9 x10 (wrap64 (x11 - 1)) z1f z13 z1g z1h z1i z1j z1k z1l z1m z1n z1o z1p z1q z1r z14 z1s z1t z19 z1u z1a)) else (none)) else (none)) else (gatehouselaw08_MeanReach.l1 k x7 x8 x9 x10 ((z14.length : Int) == 0) 0 z1f z13 z1g z1h z1i z1j z1k z1l z1m z1n z1o z1p z1q z1r z14 z1s z1t z19 z1u z1a)
def gatehouselaw08_MeanReach.l1 : Nat → Bool → List ByteArray → List ByteArray → Nat → Bool → Int → List ByteArray → List (S57) → List ByteArray → List ByteArray → List ByteArray → List (S86) → List (S86) → List (S86) → List (S86) → List (S27) → List (S36) → Bool → ByteArray → ByteArray → List ByteArray → Int → Nat → ByteArray → ByteArray → ByteArray → Option (Bool)
 | 0, _, _, _, _, _, _, _, _, _, _, _, _, _, _, _, _, _, _, _, _, _, _, _, _, _, _ => none
 | k + 1, x7, x8, x9, x10, x12, x13, z1f, z13, z1g, z1h, z1i, z1j, z1k, z1l, z1m, z1n, z1o, z1p, z1q, z1r, z14, z1s, z1t, z19, z1u, z1a => if x13 < (z14.length : Int) then (if x12 = true then (gatehouselaw08_MeanReach.l1 k x7 x8 x9 x10 true (wrap64 (x13 + 1)) z1f z13 z1g z1h z1i z1j z1k z1l z1m z1n z1o z1p z1q z1r z14 z1s z1t z19 z1u z1a) else (if 0 ≤ x13 then (gatehouselaw08_MeanReach.l1 k x7 x8 x9 x10 ((rdOf ByteArray.empty z14 x13).toList == z1a.toList) (wrap64 (x13 + 1)) z1f z13 z1g z1h z1i z1j z1k z1l z1m z1n z1o z1p z1q z1r z14 z1s z1t z19 z1u z1a) else (none))) else ((gatehouselaw08_there.f k z1f z13 z1g z1h z1i z1j z1k z1l z1m z1n z1o z19 z1u z1a).bind fun t801 => (if t801 = true then (if (x8.length : Int) > 0 then (if (x9.length : Int) > 0 then (if x12 = true then ((mean_Passes.f z1p z1q z1r z14 z1s z1t x10).bind fun t802 => (if x7 = true then ((mean_Matches.f z1f z13 z1g z1h z1i z1j z1k z1l z1m z1n z1o z1p z1q z1r z14 z1s z1t z19 z1u z1a).bind fun t803 => (some (t803 == t802))) else (some false))) else (if x7 = true then ((mean_Matches.f z1f z13 z1g z1h z1i z1j z1k z1l z1m z1n z1o z1p z1q z1r z14 z1s z1t z19 z1u z1a).bind fun t804 => (some (t804 == false))) else (some false))) else (if x7 = true then ((mean_Matches.f z1f z13 z1g z1h z1i z1j z1k z1l z1m z1n z1o z1p z1q z1r z14 z1s z1t z19 z1u z1a).bind fun t805 => (some (t805 == false))) else (some false))) else (if x7 = true then ((mean_Matches.f z1f z13 z1g z1h z1i z1j z1k z1l z1m z1n z1o z1p z1q z1r z14 z1s z1t z19 z1u z1a).bind fun t806 => (some (t806 == false))) else (some false))) else (if x7 = true then ((mean_Matches.f z1f z13 z1g z1h z1i z1j z1k z1l z1m z1n z1o z1p z1q z1r z14 z1s z1t z19 z1u z1a).bind fun t807 => (some (t807 == false))) else (some false))))
end
def gatehouselaw08_MeanReach.f (k : Nat) (z8 : List ByteArray) (z3 : List (S57)) (za : List ByteArray) (zb : List ByteArray) (zc : List ByteArray) (z6 : List (S86)) (z7 : List (S86)) (z4 : List (S86)) (z5 : List (S86)) (zd : List (S27)) (z9 : List (S36)) (a1_0 : Bool) (a1_1 : ByteArray) (a1_2 : ByteArray) (zf : List ByteArray) (a1_4 : Int) (a1_5 : Nat) (a2_0 : ByteArray) (a2_1 : ByteArray) (a2_2 : ByteArray) : Option (Bool) := (gatehouselaw08_alive.f).bind fun t785 => ((gatehouselaw08_joined.f z6 z7).bind fun t786 => ((reach_Path.f t786 a2_0 a1_1).bind fun t789 => ((gatehouselaw08_joined.f z4 z5).bind fun t792 => ((reach_Path.f t792 a2_1 a1_2).bind fun t795 => (gatehouselaw08_MeanReach.l0 k t785 t789 t795 0 (wrap64 ((z3.length : Int) - 1)) z8 z3 za zb zc z6 z7 z4 z5 zd z9 a1_0 a1_1 a1_2 zf a1_4 a1_5 a2_0 a2_1 a2_2)))))
def gatehouselaw08_MeanReach.T2 : Bool × List (List Nat × List Nat) := (true, [([], []), ([0], [0]), ([], []), ([2], [2]), ([1, 3], [1, 3]), ([], []), ([5], [5]), ([], []), ([7], [7]), ([4, 6, 8, 4], [4, 6, 8]), ([9, 9, 0, 1, 2, 3, 4, 5, 6, 7, 8, 9], [9])])
def gatehouselaw08_MeanReach.B2 : List Nat := [0, 1, 0, 4, 15, 0, 32, 0, 128, 511, 1023]
theorem gatehouselaw08_MeanReach.tab2 : rtab .any (opsOf Try.f15 2) = gatehouselaw08_MeanReach.T2 := by kernel_rfl
theorem gatehouselaw08_MeanReach.bits2 : waitsOk gatehouselaw08_MeanReach.T2.2 gatehouselaw08_MeanReach.B2 = true := by kernel_rfl
def gatehouselaw08_MeanReach.T3 : Bool × List (List Nat × List Nat) := (true, [([], []), ([0], [0]), ([], []), ([2], [2]), ([1, 3], [1, 3]), ([], []), ([5], [5]), ([], []), ([7], [7]), ([4, 6, 8, 4], [4, 6, 8]), ([9, 9, 0, 1, 2, 3, 4, 5, 6, 7, 8, 9], [9])])
def gatehouselaw08_MeanReach.B3 : List Nat := [0, 1, 0, 4, 15, 0, 32, 0, 128, 511, 1023]
theorem gatehouselaw08_MeanReach.tab3 : rtab .any (opsOf Try.f15 3) = gatehouselaw08_MeanReach.T3 := by kernel_rfl
theorem gatehouselaw08_MeanReach.bits3 : waitsOk gatehouselaw08_MeanReach.T3.2 gatehouselaw08_MeanReach.B3 = true := by kernel_rfl
def gatehouselaw08_MeanReach.T8 : Bool × List (List Nat × List Nat) := (true, [([], []), ([0], [0]), ([], []), ([1, 2], [1, 2]), ([3], [3]), ([4], [4]), ([], []), ([6], [6]), ([5, 7], [5, 7])])
def gatehouselaw08_MeanReach.B8 : List Nat := [0, 1, 0, 7, 15, 31, 0, 64, 255]
theorem gatehouselaw08_MeanReach.tab8 : rtab .any (opsOf Try.f15 8) = gatehouselaw08_MeanReach.T8 := by kernel_rfl
theorem gatehouselaw08_MeanReach.bits8 : waitsOk gatehouselaw08_MeanReach.T8.2 gatehouselaw08_MeanReach.B8 = true := by kernel_rfl
def gatehouselaw08_MeanReach.T14 : Bool × List (List Nat × List Nat) := (true, [([], []), ([0], [0]), ([1], [1]), ([2, 1], [1, 2]), ([1], [1]), ([3, 4, 1], [1, 3, 4]), ([5, 1], [1, 5]), ([1], [1]), ([7, 1], [1, 7]), ([6, 8, 1], [1, 6, 8]), ([1, 9], [1, 9]), ([10, 1, 0, 1, 2, 3, 4, 5, 6, 7, 8, 9, 10], [0, 10])])
def gatehouselaw08_MeanReach.B14 : List Nat := [0, 1, 3, 7, 3, 31, 63, 3, 131, 511, 1023, 2047]
theorem gatehouselaw08_MeanReach.tab14 : rtab .any (opsOf Try.f15 14) = gatehouselaw08_MeanReach.T14 := by kernel_rfl
theorem gatehouselaw08_MeanReach.bits14 : waitsOk gatehouselaw08_MeanReach.T14.2 gatehouselaw08_MeanReach.B14 = true := by kernel_rfl
set_option maxHeartbeats 8000000 in
set_option maxRecDepth 100000 in
theorem gatehouselaw08_MeanReach.calls (k : Nat) (zr : Option Addr) (zx : Nat) (z8 : List ByteArray) (zF : Option Addr) (zy : Nat) (z3 : List (S57)) (zt : Option Addr) (zA : Nat) (za : List ByteArray) (zu : Option Addr) (zB : Nat) (zb : List ByteArray) (zv : Option Addr) (zC : Nat) (zc : List ByteArray) (zi : Option Addr) (zm : Nat) (z6 : List (S86)) (zj : Option Addr) (zn : Nat) (z7 : List (S86)) (zk : Option Addr) (zo : Nat) (z4 : List (S86)) (zl : Option Addr) (zp : Nat) (z5 : List (S86)) (zw : Option Addr) (zD : Nat) (zd : List (S27)) (zs : Option Addr) (zz : Nat) (z9 : List (S36)) (a1_0 : Bool) (a1_1 : ByteArray) (a1_2 : ByteArray) (z1F : Option Addr) (z1E : Nat) (zf : List ByteArray) (a1_4 : Int) (a1_5 : Nat) (a2_0 : ByteArray) (a2_1 : ByteArray) (a2_2 : ByteArray) (r : Bool) (w : World) (hr0_0 : Kd.C Kd.string w zr z8.length z8) (hc0_0 : z8.length ≤ zx) (hr0_1 : Kd.C k57 w zF z3.length z3) (hc0_1 : z3.length ≤ zy) (hr0_2 : Kd.C Kd.string w zt za.length za) (hc0_2 : za.length ≤ zA) (hr0_3 : Kd.C Kd.string w zu zb.length zb) (hc0_3 : zb.length ≤ zB) (hr0_4 : Kd.C Kd.string w zv zc.length zc) (hc0_4 : zc.length ≤ zC) (hr0_5 : Kd.C k86 w zi z6.length z6) (hc0_5 : z6.length ≤ zm) (hr0_6 : Kd.C k86 w zj z7.length z7) (hc0_6 : z7.length ≤ zn) (hr0_7 : Kd.C k86 w zk z4.length z4) (hc0_7 : z4.length ≤ zo) (hr0_8 : Kd.C k86 w zl z5.length z5) (hc0_8 : z5.length ≤ zp) (hr0_9 : Kd.C k27 w zw zd.length zd) (hc0_9 : zd.length ≤ zD) (hr0_10 : Kd.C k36 w zs z9.length z9) (hc0_10 : z9.length ≤ zz) (hr1_3 : Kd.C Kd.string w z1F zf.length zf) (hc1_3 : zf.length ≤ z1E) (h : gatehouselaw08_MeanReach.f k z8 z3 za zb zc z6 z7 z4 z5 zd z9 a1_0 a1_1 a1_2 zf a1_4 a1_5 a2_0 a2_1 a2_2 = some r) :
  Calls Try.prog 15 #[.agg #[.slice zr z8.length zx, .slice zF z3.length zy, .slice zt za.length zA, .slice zu zb.length zB, .slice zv zc.length zC, .slice zi z6.length zm, .slice zj z7.length zn, .slice zk z4.length zo, .slice zl z5.length zp, .slice zw zd.length zD, .slice zs z9.length zz], .agg #[.bool a1_0, .string a1_1, .string a1_2, .slice z1F zf.length z1E, .int .i8 a1_4, .float .f64 a1_5], .agg #[.string a2_0, .string a2_1, .string a2_2]] w fun e w' => e = .returned (.bool r) ∧ Below w.heap.size w w' := by
 have hu34 := Try.underlying34; have hu27 := Try.underlying27; have hu36 := Try.underlying36; have zV := Aside0.mk hr0_0; have zO := Aside0.mk hc0_0; clear hr0_0 hc0_0; have zE := Aside0.mk hr0_1; have zP := Aside0.mk hc0_1; clear hr0_1 hc0_1; have zX := Aside0.mk hr0_2; have zR := Aside0.mk hc0_2; clear hr0_2 hc0_2; have zY := Aside0.mk hr0_3; have zS := Aside0.mk hc0_3; clear hr0_3 hc0_3; have zZ := Aside0.mk hr0_4; have zT := Aside0.mk hc0_4; clear hr0_4 hc0_4; have zK := Aside0.mk hr0_5; have zG := Aside0.mk hc0_5; clear hr0_5 hc0_5; have zL := Aside0.mk hr0_6; have zH := Aside0.mk hc0_6; clear hr0_6 hc0_6; have zM := Aside0.mk hr0_7; have zI := Aside0.mk hc0_7; clear hr0_7 hc0_7; have zN := Aside0.mk hr0_8; have zJ := Aside0.mk hc0_8; clear hr0_8 hc0_8; have z10 := Aside0.mk hr0_9; have zU := Aside0.mk hc0_9; clear hr0_9 hc0_9; have zW := Aside0.mk hr0_10; have zQ := Aside0.mk hc0_10; clear hr0_10 hc0_10; have z1D := Aside0.mk hr1_3; have z1G := Aside0.mk hc1_3; clear hr1_3 hc1_3; have HB := Aside0.mk (Below.refl w.heap.size w); have H : ((gatehouselaw08_alive.f).bind fun t785 => ((gatehouselaw08_joined.f z6 z7).bind fun t786 => ((reach_Path.f t786 a2_0 a1_1).bind fun t789 => ((gatehouselaw08_joined.f z4 z5).bind fun t792 => ((reach_Path.f t792 a2_1 a1_2).bind fun t795 => (gatehouselaw08_MeanReach.l0 k t785 t789 t795 0 (wrap64 ((z3.length : Int) - 1)) z8 z3 za zb zc z6 z7 z4 z5 zd z9 a1_0 a1_1 a1_2 zf a1_4 a1_5 a2_0 a2_1 a2_2)))))) = some r := h; clear h; replace H := Option.bind_eq_some_iff.mp H; obtain ⟨t785, A40, H⟩ := H; replace H : ((gatehouselaw08_joined.f z6 z7).bind fun t786 => ((reach_Path.f t786 a2_0 a1_1).bind fun t789 => ((gatehouselaw08_joined.f z4 z5).bind fun t792 => ((reach_Path.f t792 a2_1 a1_2).bind fun t795 => (gatehouselaw08_MeanReach.l0 k t785 t789 t795 0 (wrap64 ((z3.length : Int) - 1)) z8 z3 za zb zc z6 z7 z4 z5 zd z9 a1_0 a1_1 a1_2 zf a1_4 a1_5 a2_0 a2_1 a2_2))))) = some r := H; have A4 := Aside0.mk A40; clear A40; replace H := Option.bind_eq_some_iff.mp H; obtain ⟨t786, A50, H⟩ := H; replace H : ((reach_Path.f t786 a2_0 a1_1).bind fun t789 => ((gatehouselaw08_joined.f z4 z5).bind fun t792 => ((reach_Path.f t792 a2_1 a1_2).bind fun t795 => (gatehouselaw08_MeanReach.l0 k t785 t789 t795 0 (wrap64 ((z3.length : Int) - 1)) z8 z3 za zb zc z6 z7 z4 z5 zd z9 a1_0 a1_1 a1_2 zf a1_4 a1_5 a2_0 a2_1 a2_2)))) = some r := H; have A5 := Aside0.mk A50; clear A50; replace H := Option.bind_eq_some_iff.mp H; obtain ⟨t789, A60, H⟩ := H; replace H : ((gatehouselaw08_joined.f z4 z5).bind fun t792 => ((reach_Path.f t792 a2_1 a1_2).bind fun t795 => (gatehouselaw08_MeanReach.l0 k t785 t789 t795 0 (wrap64 ((z3.length : Int) - 1)) z8 z3 za zb zc z6 z7 z4 z5 zd z9 a1_0 a1_1 a1_2 zf a1_4 a1_5 a2_0 a2_1 a2_2))) = some r := H; have A6 := Aside0.mk A60
 clear A60; replace H := Option.bind_eq_some_iff.mp H; obtain ⟨t792, A70, H⟩ := H; replace H : ((reach_Path.f t792 a2_1 a1_2).bind fun t795 => (gatehouselaw08_MeanReach.l0 k t785 t789 t795 0 (wrap64 ((z3.length : Int) - 1)) z8 z3 za zb zc z6 z7 z4 z5 zd z9 a1_0 a1_1 a1_2 zf a1_4 a1_5 a2_0 a2_1 a2_2)) = some r := H; have A7 := Aside0.mk A70; clear A70; replace H := Option.bind_eq_some_iff.mp H; obtain ⟨t795, A80, H⟩ := H; replace H : (gatehouselaw08_MeanReach.l0 k t785 t789 t795 0 (wrap64 ((z3.length : Int) - 1)) z8 z3 za zb zc z6 z7 z4 z5 zd z9 a1_0 a1_1 a1_2 zf a1_4 a1_5 a2_0 a2_1 a2_2) = some r := H; have A8 := Aside0.mk A80; clear A80; have H' := Aside0.mk H; clear H
 go_enter Try.func15, Try.ntmps15
 try go_wp2_with (first | ((with_reducible refine gate_dst (N := 3) rfl ?_); (try (refine gate_guard (by rfl) ?_; dsimp only)); refine box_event ?hg (N := 3) ?hd (cs := #[.slice zr z8.length zx, .slice zF z3.length zy, .slice zt za.length zA, .slice zu zb.length zB, .slice zv zc.length zC, .slice zi z6.length zm, .slice zj z7.length zn, .slice zk z4.length zo, .slice zl z5.length zp, .slice zw zd.length zD, .slice zs z9.length zz]) (t := 34) ?hr ?_; (case hd => rfl); (case hg => rfl); (case hr => first | (go_simp; done) | (go_simp; rfl)); intro z1d hg w9 hbox hb; have z0 := Aside0.mk (hbox); have z3u := Aside0.mk ((by rw [hg]; exact (below_size (hW HB)) : w.heap.size ≤ z1d)); have z1w := Aside0.mk ((by rw [hg]; exact (below_size (hW HB)) : w.heap.size ≤ z1d)); replace HB := hF HB hb; clear hb hbox hg) | ((with_reducible refine gate_dst (N := 4) rfl ?_); (try (refine gate_guard (by rfl) ?_; dsimp only)); refine box_event ?hg (N := 4) ?hd (cs := #[.bool a1_0, .string a1_1, .string a1_2, .slice z1F zf.length z1E, .int .i8 a1_4, .float .f64 a1_5]) (t := 27) ?hr ?_; (case hd => rfl); (case hg => rfl); (case hr => first | (go_simp; done) | (go_simp; rfl)); intro z1v hg w10 hbox hb; have z1 := Aside0.mk (hbox); have z3v := Aside0.mk ((by rw [hg]; exact (below_size (hW HB)) : w.heap.size ≤ z1v)); have z1x := Aside0.mk ((by rw [hg]; exact (below_size (hW HB)) : w.heap.size ≤ z1v)); replace HB := hF HB hb; have z11 := Aside0.mk ((by rw [hg]; exact Nat.ne_of_lt (bL z0) : z1d ≠ z1v)); have z12 := Aside0.mk ((by rw [hg]; exact Nat.ne_of_gt (bL z0) : z1v ≠ z1d)); replace z0 := kF z0 hb; clear hb hbox hg) | ((with_reducible refine gate_dst (N := 5) rfl ?_); (try (refine gate_guard (by rfl) ?_; dsimp only)); refine box_event ?hg (N := 5) ?hd (cs := #[.string a2_0, .string a2_1, .string a2_2]) (t := 36) ?hr ?_; (case hd => rfl); (case hg => rfl); (case hr => first | (go_simp; done) | (go_simp; rfl)); intro z18 hg w11 hbox hb; have z2 := Aside0.mk (hbox); have z3w := Aside0.mk ((by rw [hg]; exact (below_size (hW HB)) : w.heap.size ≤ z18)); have z1y := Aside0.mk ((by rw [hg]; exact (below_size (hW HB)) : w.heap.size ≤ z18)); replace HB := hF HB hb; have z1b := Aside0.mk ((by rw [hg]; exact Nat.ne_of_lt (bL z0) : z1d ≠ z18)); have z1c := Aside0.mk ((by rw [hg]; exact Nat.ne_of_gt (bL z0) : z18 ≠ z1d)); replace z0 := kF z0 hb; have z16 := Aside0.mk ((by rw [hg]; exact Nat.ne_of_lt (bL z1) : z1v ≠ z18)); have z17 := Aside0.mk ((by rw [hg]; exact Nat.ne_of_gt (bL z1) : z18 ≠ z1v)); replace z1 := kF z1 hb; clear hb hbox hg) | ((with_reducible refine gate_callee (f := 30) rfl ?_); refine goesL_ (some 15) rfl rfl Try.func30 (by kernel_rfl) rfl #[] rfl (by (try simp only [List.map_toArray, List.map_cons, List.map_nil]); first | done | rfl | (simp only [List.length_drop, List.length_take]; rfl)) ?_; (with_reducible refine (gatehouselaw08_alive.calls  t785 _ A4.out).mono ?_); rintro e w12 ⟨rfl, hb⟩; refine ⟨_, rfl, ?_⟩; replace z0 := kF z0 hb; replace z1 := kF z1 hb; replace z2 := kF z2 hb; replace HB := hF HB hb; (try clear hb); (try clear hb2); (try clear hk); (try clear hi)))
 replace z0 := kD z0; replace z1 := kD z1; replace z2 := kD z2; replace HB := Aside0.mk (below_drew1 HB.out)
 refine start_ (n := 11) (S := fun w' => sN11 w' z1d (.slice zr z8.length zx) (.slice zF z3.length zy) (.slice zt za.length zA) (.slice zu zb.length zB) (.slice zv zc.length zC) (.slice zi z6.length zm) (.slice zj z7.length zn) (.slice zk z4.length zo) (.slice zl z5.length zp) (.slice zw zd.length zD) (.slice zs z9.length zz) (sN3 w' z18 (.string a2_0) (.string a2_1) (.string a2_2) (sC6 w' z1v (.bool a1_0) (.string a1_1) (.string a1_2) (.slice z1F zf.length z1E) (.int .i8 a1_4) (.float .f64 a1_5)))) (ds := []) #[false, false, false, false, false, false, false, false, false, false, false] (by kernel_rfl) rfl rfl (bN11 z0 (bN3 z2 (bD6 z1))) (fun hHeld => ?_); refine with_tabW gatehouselaw08_MeanReach.tab2 gatehouselaw08_MeanReach.bits2 (fun HT_ HW_ => ?_)
 generalize w12.drew = w13 at z0 z1 z2 HB hHeld ⊢; refine pT 0 16 HT_ rfl ?_; refine pT 2 18 HT_ rfl ?_; refine pT 5 21 HT_ rfl ?_; refine pT 7 23 HT_ rfl ?_; refine tT 1 17 HT_ rfl HW_ hHeld (by (rintro w' ⟨s0, s1, s2, s3, s4, s5, s6, s7, s8, s9, s10, s11, s12, s13, s14, s15, s16, s17, s18, s19⟩; go_simp; with_reducible rfl)) ?_; refine tT 3 19 HT_ rfl HW_ hHeld (by (rintro w' ⟨s0, s1, s2, s3, s4, s5, s6, s7, s8, s9, s10, s11, s12, s13, s14, s15, s16, s17, s18, s19⟩; go_simp; with_reducible rfl)) ?_; refine tT 6 22 HT_ rfl HW_ hHeld (by (rintro w' ⟨s0, s1, s2, s3, s4, s5, s6, s7, s8, s9, s10, s11, s12, s13, s14, s15, s16, s17, s18, s19⟩; go_simp; with_reducible rfl)) ?_; refine tT 8 24 HT_ rfl HW_ hHeld (by (rintro w' ⟨s0, s1, s2, s3, s4, s5, s6, s7, s8, s9, s10, s11, s12, s13, s14, s15, s16, s17, s18, s19⟩; go_simp; with_reducible rfl)) ?_
 refine one_ (i := 4) (N := some 20) #[true, true, true, true, true, true, true, true, true, false, false] rfl rfl (one_of HT_.out (by kernel_rfl)) (by decide) (fun K hK => ?_)
 refine goes_ Try.func42 (by kernel_rfl) rfl #[.slice zi z6.length zm, .slice zj z7.length zn] (by rfl) rfl rfl (by (try simp only [List.map_toArray, List.map_cons, List.map_nil]); first | done | rfl | (simp only [List.length_drop, List.length_take]; rfl)) ?_
 with_reducible refine (gatehouselaw08_joined.calls _ _ z6 _ _ z7 t786 _ ?side1 ?side2 ?side3 ?side4 A5.out).mono ?_
 (case side1 => exact cE (Kd.C_below zK.out HB.out)); (case side2 => exact zG.out); (case side3 => exact cE (Kd.C_below zL.out HB.out)); (case side4 => exact zH.out)
 rintro e w14 ⟨v787, rfl, ho0, hb⟩
 refine ⟨_, rfl, ?_⟩
 have z15 := Aside0.mk (Kd.R_lower ho0 (below_size (hW HB))); replace z0 := kF z0 hb; replace z1 := kF z1 hb; replace z2 := kF z2 hb; replace HB := hF HB hb; (try clear hb); (try clear hb2); (try clear hk); (try clear hi); (try clear ho0); obtain ⟨z2h, z2s, z1S⟩ := Kd.R_slice z15.out
 (first | subst z1S | (injection z1S with f1_ f2_ f3_; have f4_ := f1_.symm; have f5_ := f3_.symm; clear f1_ f2_ f3_; subst f4_; subst f5_))
 refine hK.out _ _ (bN11 z0 (bN3 z2 (bD6 z1))) (fun hHeld => ?_)
 clear hK K
 refine norm_ (a' := ?_) ?_ ?_
 rotate_left
 ·show Act.put _ (some 20) _ = _
  simp only [Act.put, List.setIfInBounds_toArray, List.set_cons_zero, List.set_cons_succ, i64_w, i32_w]
  rfl
 refine one_ (i := 9) (N := some 25) #[true, true, true, true, true, true, true, true, true, true, false] rfl rfl (one_of HT_.out (by kernel_rfl)) (by decide) (fun K hK => ?_)
 refine goes_ Try.func41 (by kernel_rfl) rfl #[.slice z2h t786.length z2s, .string a2_0, .string a1_1] (by rfl) rfl rfl (by (try simp only [List.map_toArray, List.map_cons, List.map_nil]); first | done | rfl | (simp only [List.length_drop, List.length_take]; rfl)) ?_
 with_reducible refine (reach_Path.calls _ _ t786 a2_0 a1_1 t789 _ ?side1 ?side2 A6.out).mono ?_
 (case side1 => exact cE (Kd.R_reads' z15.out).2.2); (case side2 => exact (Kd.R_reads' z15.out).2.1)
 rintro e w16 ⟨v790, rfl, ho0, hb⟩
 refine ⟨_, rfl, ?_⟩
 replace z15 := rF z15 hb; have z1C := Aside0.mk (Kd.R_lower ho0 (below_size (hW HB))); replace z0 := kF z0 hb; replace z1 := kF z1 hb; replace z2 := kF z2 hb; replace HB := hF HB hb; (try clear hb); (try clear hb2); (try clear hk); (try clear hi); (try clear ho0)
 refine hK.out _ _ (bN11 z0 (bN3 z2 (bD6 z1))) (fun hHeld => ?_)
 clear hK K
 refine norm_ (a' := ?_) ?_ ?_
 rotate_left
 ·show Act.put _ (some 25) _ = _
  simp only [Act.put, List.setIfInBounds_toArray, List.set_cons_zero, List.set_cons_succ, i64_w, i32_w]
  rfl
 refine pT 10 8 HT_ rfl ?_
 refine done_ (done_of HT_.out (by kernel_rfl)) ?_
 try go_wp2
 replace z15 := rD z15; replace z1C := rD z1C; replace z0 := kD z0; replace z1 := kD z1; replace z2 := kD z2; replace HB := Aside0.mk (below_drew1 HB.out)
 refine start_ (n := 11) (S := fun w' => sN11 w' z1d (.slice zr z8.length zx) (.slice zF z3.length zy) (.slice zt za.length zA) (.slice zu zb.length zB) (.slice zv zc.length zC) (.slice zi z6.length zm) (.slice zj z7.length zn) (.slice zk z4.length zo) (.slice zl z5.length zp) (.slice zw zd.length zD) (.slice zs z9.length zz) (sN3 w' z18 (.string a2_0) (.string a2_1) (.string a2_2) (sC6 w' z1v (.bool a1_0) (.string a1_1) (.string a1_2) (.slice z1F zf.length z1E) (.int .i8 a1_4) (.float .f64 a1_5)))) (ds := []) #[false, false, false, false, false, false, false, false, false, false, false] (by kernel_rfl) rfl rfl (bN11 z0 (bN3 z2 (bD6 z1))) (fun hHeld => ?_); refine with_tabW gatehouselaw08_MeanReach.tab3 gatehouselaw08_MeanReach.bits3 (fun HT_ HW_ => ?_)
 generalize w16.drew = w17 at z15 z1C z0 z1 z2 HB hHeld ⊢; refine pT 0 26 HT_ rfl ?_; refine pT 2 28 HT_ rfl ?_; refine pT 5 31 HT_ rfl ?_; refine pT 7 33 HT_ rfl ?_; refine tT 1 27 HT_ rfl HW_ hHeld (by (rintro w' ⟨s0, s1, s2, s3, s4, s5, s6, s7, s8, s9, s10, s11, s12, s13, s14, s15, s16, s17, s18, s19⟩; go_simp; with_reducible rfl)) ?_; refine tT 3 29 HT_ rfl HW_ hHeld (by (rintro w' ⟨s0, s1, s2, s3, s4, s5, s6, s7, s8, s9, s10, s11, s12, s13, s14, s15, s16, s17, s18, s19⟩; go_simp; with_reducible rfl)) ?_; refine tT 6 32 HT_ rfl HW_ hHeld (by (rintro w' ⟨s0, s1, s2, s3, s4, s5, s6, s7, s8, s9, s10, s11, s12, s13, s14, s15, s16, s17, s18, s19⟩; go_simp; with_reducible rfl)) ?_; refine tT 8 34 HT_ rfl HW_ hHeld (by (rintro w' ⟨s0, s1, s2, s3, s4, s5, s6, s7, s8, s9, s10, s11, s12, s13, s14, s15, s16, s17, s18, s19⟩; go_simp; with_reducible rfl)) ?_
 refine one_ (i := 4) (N := some 30) #[true, true, true, true, true, true, true, true, true, false, false] rfl rfl (one_of HT_.out (by kernel_rfl)) (by decide) (fun K hK => ?_)
 refine goes_ Try.func42 (by kernel_rfl) rfl #[.slice zk z4.length zo, .slice zl z5.length zp] (by rfl) rfl rfl (by (try simp only [List.map_toArray, List.map_cons, List.map_nil]); first | done | rfl | (simp only [List.length_drop, List.length_take]; rfl)) ?_
 with_reducible refine (gatehouselaw08_joined.calls _ _ z4 _ _ z5 t792 _ ?side1 ?side2 ?side3 ?side4 A7.out).mono ?_
 (case side1 => exact cE (Kd.C_below zM.out HB.out)); (case side2 => exact zI.out); (case side3 => exact cE (Kd.C_below zN.out HB.out)); (case side4 => exact zJ.out)
 rintro e w18 ⟨v793, rfl, ho0, hb⟩
 refine ⟨_, rfl, ?_⟩
 replace z1C := rF z1C hb; have z1I := Aside0.mk (Kd.R_lower (Kd.R_new' ho0 (Kd.R_lt (rE z15.out))) (below_size (hW HB))); replace z15 := Aside0.mk (Kd.R_elder' (rE z15.out) (Kd.R_base ho0) hb); replace z0 := kF z0 hb; replace z1 := kF z1 hb; replace z2 := kF z2 hb; replace HB := hF HB hb; (try clear hb); (try clear hb2); (try clear hk); (try clear hi); (try clear ho0); obtain ⟨z2i, z2t, z1T⟩ := Kd.R_slice z1I.out
 (first | subst z1T | (injection z1T with f1_ f2_ f3_; have f4_ := f1_.symm; have f5_ := f3_.symm; clear f1_ f2_ f3_; subst f4_; subst f5_))
 refine hK.out _ _ (bN11 z0 (bN3 z2 (bD6 z1))) (fun hHeld => ?_)
 clear hK K
 refine norm_ (a' := ?_) ?_ ?_
 rotate_left
 ·show Act.put _ (some 30) _ = _
  simp only [Act.put, List.setIfInBounds_toArray, List.set_cons_zero, List.set_cons_succ, i64_w, i32_w]
  rfl
 refine one_ (i := 9) (N := some 35) #[true, true, true, true, true, true, true, true, true, true, false] rfl rfl (one_of HT_.out (by kernel_rfl)) (by decide) (fun K hK => ?_)
 refine goes_ Try.func41 (by kernel_rfl) rfl #[.slice z2i t792.length z2t, .string a2_1, .string a1_2] (by rfl) rfl rfl (by (try simp only [List.map_toArray, List.map_cons, List.map_nil]); first | done | rfl | (simp only [List.length_drop, List.length_take]; rfl)) ?_
 with_reducible refine (reach_Path.calls _ _ t792 a2_1 a1_2 t795 _ ?side1 ?side2 A8.out).mono ?_
 (case side1 => exact cE (Kd.R_reads' z1I.out).2.2); (case side2 => exact (Kd.R_reads' z1I.out).2.1)
 rintro e w20 ⟨v796, rfl, ho0, hb⟩
 refine ⟨_, rfl, ?_⟩
 replace z15 := rF z15 hb; replace z1I := rF z1I hb; have z2j := Aside0.mk (Kd.R_lower (Kd.R_new' ho0 (Kd.R_lt (rE z1C.out))) (below_size (hW HB))); replace z1C := Aside0.mk (Kd.R_elder' (rE z1C.out) (Kd.R_base ho0) hb); replace z0 := kF z0 hb; replace z1 := kF z1 hb; replace z2 := kF z2 hb; replace HB := hF HB hb; (try clear hb); (try clear hb2); (try clear hk); (try clear hi); (try clear ho0)
 refine hK.out _ _ (bN11 z0 (bN3 z2 (bD6 z1))) (fun hHeld => ?_)
 clear hK K
 refine norm_ (a' := ?_) ?_ ?_
 rotate_left
 ·show Act.put _ (some 35) _ = _
  simp only [Act.put, List.setIfInBounds_toArray, List.set_cons_zero, List.set_cons_succ, i64_w, i32_w]
  rfl
 refine pT 10 9 HT_ rfl ?_
 refine done_ (done_of HT_.out (by kernel_rfl)) ?_
 have zew := z11.out; have zfa := z12.out; have zex := z1b.out; have zfb := z1c.out; obtain ⟨z1U, z1V, z1X, z1Y, z1Z, z20, z21, z22, z23, z24, z1W, z25, z26, z28, z29, z2a, z2b, z2c, z2d, z2e, z2f, z27⟩ := bC11 z0
 try go_wp2
 go_loopg [10, 11] k (fun kq v10 v11 w' => ∃ (z1e : Nat) (zh : Int), v10 = .float .f64 z1e ∧ v11 = .int .i64 zh ∧ Aside0 (gatehouselaw08_MeanReach.l0 kq t785 t789 t795 z1e zh z8 z3 za zb zc z6 z7 z4 z5 zd z9 a1_0 a1_1 a1_2 zf a1_4 a1_5 a2_0 a2_1 a2_2 = some r) ∧ Aside0 (kq ≤ k) ∧ Aside0 (Kd.R Kd.string 9 w' w.heap.size (fun k_ => oN k_ v796) v790 t789) ∧ Aside0 (Kd.R Kd.string 9 w' w.heap.size (fun k_ => oN k_ v790) v796 t795) ∧ Aside0 (w'.heap[z1d]? = some (.cells #[(.slice zr z8.length zx), (.slice zF z3.length zy), (.slice zt za.length zA), (.slice zu zb.length zB), (.slice zv zc.length zC), (.slice zi z6.length zm), (.slice zj z7.length zn), (.slice zk z4.length zo), (.slice zl z5.length zp), (.slice zw zd.length zD), (.slice zs z9.length zz)] 34 (0, 0))) ∧ Aside0 (w'.heap[z1v]? = some (.cells #[.bool a1_0, .string a1_1, .string a1_2, (.slice z1F zf.length z1E), .int .i8 a1_4, .float .f64 a1_5] 27 (0, 0))) ∧ Aside0 (w'.heap[z18]? = some (.cells #[.string a2_0, .string a2_1, .string a2_2] 36 (0, 0))) ∧ Aside0 (Below w.heap.size w w'))
 case atStart => exact ⟨(0), (wrap64 ((z3.length : Int) - 1)), (by first | rfl | (simp; done) | (simp [*]; done)), (by first | rfl | (simp; done) | (simp [*]; done)), H', ⟨Nat.le_refl _⟩, ⟨by (with_reducible repeat (first | apply Kd.R_alloc | apply Kd.R_drewN | apply Kd.R_drew)); exact Kd.R_mono z1C.out (fun _ hk => hk.2)⟩, ⟨by (with_reducible repeat (first | apply Kd.R_alloc | apply Kd.R_drewN | apply Kd.R_drew)); exact Kd.R_mono z2j.out (fun _ hk => hk.2)⟩, ⟨bE z0⟩, ⟨bE z1⟩, ⟨bE z2⟩, ⟨hW HB⟩⟩
 case round =>
  clear H'
  try clear c1
  try clear c2
  try clear p2
  try clear c3
  try clear c4
  try clear p6
  try clear c15
  try clear c21
  try clear c22
  try clear z1U z1V z1W z1X z1Y z1Z z20 z21 z22 z23 z24 z25 z26 z27 z28 z29 z2a z2b z2c z2d z2e z2f
  obtain ⟨z1e, zh, rfl, rfl, HA, HK1, ze, zg, z0, z1, z2, HB⟩ := hrel
  cases gk with
  | zero => exact absurd HA.out (by simp [gatehouselaw08_MeanReach.l0])
  | succ k1 =>
   have H := HA.out; clear HA
   simp only [gatehouselaw08_MeanReach.l0] at H
   by_cases c24 : zh ≥ 0
   ·rw [if_pos c24] at H
    have z1P : decide (0 ≤ zh) = true := decide_eq_true c24; clear c24
    by_cases c25 : 0 ≤ zh
    ·rw [if_pos c25] at H
     have z2l : decide (0 ≤ zh) = true := decide_eq_true c25; clear c25
     by_cases c26 : zh < (z3.length : Int)
     ·rw [if_pos c26] at H
      have z2m : decide (zh < (z3.length : Int)) = true := decide_eq_true c26; clear c26
      by_cases c27 : ((rd_T57 z3 zh).f0).toList = a2_0.toList
      ·rw [if_pos c27] at H
       have z1Q : (((rd_T57 z3 zh).f0).toList == a2_0.toList) = true := beq_iff_eq.mpr c27; have z1R : (((rd_T57 z3 zh).f0).toList != a2_0.toList) = false := bne_eq_false_iff_eq.mpr c27; clear c27; have H' := Aside0.mk H; clear H
       try go_wp2
       replace ze := rD ze; replace zg := rD zg; replace z0 := kD z0; replace z1 := kD z1; replace z2 := kD z2; replace HB := Aside0.mk (below_drew1 HB.out); have p798 : 0 ≤ (zh : Int) := of_decide_eq_true (by first | (with_reducible assumption) | assumption); have q798 : zh < (z3.length : Int) := of_decide_eq_true (by first | (with_reducible assumption) | assumption); obtain ⟨z1z, e798, z1A, z1B⟩ := at_T57 zE.out zh p798 q798; have z1K := z1B; have z1J := z1A
       cases e798
       replace z1A := hC HB z1A; replace z1B := hC HB z1B; replace p798 := eq_true p798; replace q798 := eq_true q798
       refine start_ (n := 9) (S := fun w' => sN11 w' z1d (.slice zr z8.length zx) (.slice (some z1z) z3.length zy) (.slice zt za.length zA) (.slice zu zb.length zB) (.slice zv zc.length zC) (.slice zi z6.length zm) (.slice zj z7.length zn) (.slice zk z4.length zo) (.slice zl z5.length zp) (.slice zw zd.length zD) (.slice zs z9.length zz) (sN3 w' z18 (.string a2_0) (.string a2_1) (.string a2_2) (w'.cell? (z1z.add ((zh).toNat * 2)) = some (.string ((rd_T57 z3 zh).f0)) ∧ w'.cell? ⟨(z1z.add ((zh).toNat * 2)).block, (z1z.add ((zh).toNat * 2)).off + 1, none⟩ = some (.float .f64 ((rd_T57 z3 zh).f1))))) (ds := []) #[false, false, false, false, false, false, false, false, false] (by kernel_rfl) rfl rfl ⟨(blk_cell z0.out 0).trans rfl, (blk_cell z0.out 1).trans rfl, (blk_cell z0.out 2).trans rfl, (blk_cell z0.out 3).trans rfl, (blk_cell z0.out 4).trans rfl, (blk_cell z0.out 5).trans rfl, (blk_cell z0.out 6).trans rfl, (blk_cell z0.out 7).trans rfl, (blk_cell z0.out 8).trans rfl, (blk_cell z0.out 9).trans rfl, (blk_cell z0.out 10).trans rfl, (blk_cell z2.out 0).trans rfl, (blk_cell z2.out 1).trans rfl, (blk_cell z2.out 2).trans rfl, ((HB.out.cell (World.block_lt_of_cell? w _ z1J)).trans z1J), ((HB.out.cell (World.block_lt_of_cell? w _ z1K)).trans z1K)⟩ (fun hHeld => ?_); refine with_tabW gatehouselaw08_MeanReach.tab8 gatehouselaw08_MeanReach.bits8 (fun HT_ HW_ => ?_)
       generalize wr.drew = w28 at ze zg z0 z1 z2 HB z1A z1B hHeld ⊢; refine pT 0 44 HT_ rfl ?_; refine pT 2 46 HT_ rfl ?_; refine pT 6 50 HT_ rfl ?_; refine tT 1 45 HT_ rfl HW_ hHeld (by (rintro w' ⟨s0, s1, s2, s3, s4, s5, s6, s7, s8, s9, s10, s11, s12, s13, s14, s15⟩; go_simp; with_reducible rfl)) ?_; refine pT 3 47 HT_ rfl ?_; refine pT 4 48 HT_ rfl ?_; refine tT 5 49 HT_ rfl HW_ hHeld (by (rintro w' ⟨s0, s1, s2, s3, s4, s5, s6, s7, s8, s9, s10, s11, s12, s13, s14, s15⟩; go_simp; with_reducible rfl)) ?_; refine tT 7 51 HT_ rfl HW_ hHeld (by (rintro w' ⟨s0, s1, s2, s3, s4, s5, s6, s7, s8, s9, s10, s11, s12, s13, s14, s15⟩; go_simp; with_reducible rfl)) ?_; refine pT 8 52 HT_ rfl ?_
       refine done_ (done_of HT_.out (by kernel_rfl)) ?_
       have zey := z11.out; have zfc := z12.out; have zez := z1b.out; have zfd := z1c.out; obtain ⟨z2I, z2J, z2L, z2M, z2N, z2O, z2P, z2Q, z2R, z2S, z2K, z2Z, z30, z32, z33, z34, z35, z36, z37, z38, z39, z31⟩ := bC11 z0; have p799 : 0 ≤ (zh : Int) := of_decide_eq_true (by first | (with_reducible assumption) | assumption); have q799 : zh < (z3.length : Int) := of_decide_eq_true (by first | (with_reducible assumption) | assumption); obtain ⟨z2k, e799, z1M, z1N⟩ := at_T57 zE.out zh p799 q799
       obtain rfl : z1z = z2k := (by injection e799)
       replace z1M := hC HB z1M; replace z1N := hC HB z1N; replace p799 := eq_true p799; replace q799 := eq_true q799
       try go_wp2
       go_roundg k1
       case measure => have := HK1.out; omega
       case rel => exact ⟨((rd_T57 z3 zh).f1), (wrap64 (zh - 1)), (by first | rfl | (simp; done) | (simp [*]; done)), (by first | rfl | (simp; done) | (simp [*]; done)), H', ⟨by have := HK1.out; omega⟩, ⟨rE ze.out⟩, ⟨rE zg.out⟩, ⟨bE z0⟩, ⟨bE z1⟩, ⟨bE z2⟩, ⟨hW HB⟩⟩
      ·rw [if_neg c27] at H
       have z1Q : (((rd_T57 z3 zh).f0).toList == a2_0.toList) = false := beq_eq_false_iff_ne.mpr c27; have z1R : (((rd_T57 z3 zh).f0).toList != a2_0.toList) = true := bne_iff_ne.mpr c27; have H' := Aside0.mk H; clear H
       try go_wp2
       replace ze := rD ze; replace zg := rD zg; replace z0 := kD z0; replace z1 := kD z1; replace z2 := kD z2; replace HB := Aside0.mk (below_drew1 HB.out); have p798 : 0 ≤ (zh : Int) := of_decide_eq_true (by first | (with_reducible assumption) | assumption); have q798 : zh < (z3.length : Int) := of_decide_eq_true (by first | (with_reducible assumption) | assumption); obtain ⟨z1z, e798, z1A, z1B⟩ := at_T57 zE.out zh p798 q798; have z1K := z1B; have z1J := z1A
       cases e798
       replace z1A := hC HB z1A; replace z1B := hC HB z1B; replace p798 := eq_true p798; replace q798 := eq_true q798
       refine start_ (n := 9) (S := fun w' => sN11 w' z1d (.slice zr z8.length zx) (.slice (some z1z) z3.length zy) (.slice zt za.length zA) (.slice zu zb.length zB) (.slice zv zc.length zC) (.slice zi z6.length zm) (.slice zj z7.length zn) (.slice zk z4.length zo) (.slice zl z5.length zp) (.slice zw zd.length zD) (.slice zs z9.length zz) (sN3 w' z18 (.string a2_0) (.string a2_1) (.string a2_2) (w'.cell? (z1z.add ((zh).toNat * 2)) = some (.string ((rd_T57 z3 zh).f0)) ∧ w'.cell? ⟨(z1z.add ((zh).toNat * 2)).block, (z1z.add ((zh).toNat * 2)).off + 1, none⟩ = some (.float .f64 ((rd_T57 z3 zh).f1))))) (ds := []) #[false, false, false, false, false, false, false, false, false] (by kernel_rfl) rfl rfl ⟨(blk_cell z0.out 0).trans rfl, (blk_cell z0.out 1).trans rfl, (blk_cell z0.out 2).trans rfl, (blk_cell z0.out 3).trans rfl, (blk_cell z0.out 4).trans rfl, (blk_cell z0.out 5).trans rfl, (blk_cell z0.out 6).trans rfl, (blk_cell z0.out 7).trans rfl, (blk_cell z0.out 8).trans rfl, (blk_cell z0.out 9).trans rfl, (blk_cell z0.out 10).trans rfl, (blk_cell z2.out 0).trans rfl, (blk_cell z2.out 1).trans rfl, (blk_cell z2.out 2).trans rfl, ((HB.out.cell (World.block_lt_of_cell? w _ z1J)).trans z1J), ((HB.out.cell (World.block_lt_of_cell? w _ z1K)).trans z1K)⟩ (fun hHeld => ?_); refine with_tabW gatehouselaw08_MeanReach.tab8 gatehouselaw08_MeanReach.bits8 (fun HT_ HW_ => ?_)
       generalize wr.drew = w32 at ze zg z0 z1 z2 HB z1A z1B hHeld ⊢; refine pT 0 44 HT_ rfl ?_; refine pT 2 46 HT_ rfl ?_; refine pT 6 50 HT_ rfl ?_; refine tT 1 45 HT_ rfl HW_ hHeld (by (rintro w' ⟨s0, s1, s2, s3, s4, s5, s6, s7, s8, s9, s10, s11, s12, s13, s14, s15⟩; go_simp; with_reducible rfl)) ?_; refine pT 3 47 HT_ rfl ?_; refine pT 4 48 HT_ rfl ?_; refine tT 5 49 HT_ rfl HW_ hHeld (by (rintro w' ⟨s0, s1, s2, s3, s4, s5, s6, s7, s8, s9, s10, s11, s12, s13, s14, s15⟩; go_simp; with_reducible rfl)) ?_; refine tT 7 51 HT_ rfl HW_ hHeld (by (rintro w' ⟨s0, s1, s2, s3, s4, s5, s6, s7, s8, s9, s10, s11, s12, s13, s14, s15⟩; go_simp; with_reducible rfl)) ?_; refine pT 8 52 HT_ rfl ?_
       refine done_ (done_of HT_.out (by kernel_rfl)) ?_
       try go_wp2
       go_roundg k1
       case measure => have := HK1.out; omega
       case rel => exact ⟨(z1e), (wrap64 (zh - 1)), (by first | rfl | (simp; done) | (simp [*]; done)), (by first | rfl | (simp; done) | (simp [*]; done)), H', ⟨by have := HK1.out; omega⟩, ⟨rE ze.out⟩, ⟨rE zg.out⟩, ⟨bE z0⟩, ⟨bE z1⟩, ⟨bE z2⟩, ⟨hW HB⟩⟩
     ·rw [if_neg c26] at H
      exact absurd H (by simp)
    ·rw [if_neg c25] at H
     exact absurd H (by simp)
   ·rw [if_neg c24] at H
    have z1P : decide (0 ≤ zh) = false := decide_eq_false c24; clear c24; have H' := Aside0.mk H; clear H; have zeA := z12.out; have zfe := z11.out; have zeB := z16.out; have zff := z17.out; obtain ⟨z2T, z2U, z2V, z2W, z2X, z2Y, z3a, z3b, z3c, z3d, z3e, z3f⟩ := bC6 z1
    go_wp2
    go_loopg [12, 13] k1 (fun kq v12 v13 w' => ∃ (z1H : Bool) (zq : Int), v12 = .bool z1H ∧ v13 = .int .i64 zq ∧ Aside0 (gatehouselaw08_MeanReach.l1 kq t785 t789 t795 z1e z1H zq z8 z3 za zb zc z6 z7 z4 z5 zd z9 a1_0 a1_1 a1_2 zf a1_4 a1_5 a2_0 a2_1 a2_2 = some r) ∧ Aside0 (kq ≤ k1) ∧ Aside0 (Kd.R Kd.string 9 w' w.heap.size (fun k_ => oN k_ v796) v790 t789) ∧ Aside0 (Kd.R Kd.string 9 w' w.heap.size (fun k_ => oN k_ v790) v796 t795) ∧ Aside0 (w'.heap[z1d]? = some (.cells #[(.slice zr z8.length zx), (.slice zF z3.length zy), (.slice zt za.length zA), (.slice zu zb.length zB), (.slice zv zc.length zC), (.slice zi z6.length zm), (.slice zj z7.length zn), (.slice zk z4.length zo), (.slice zl z5.length zp), (.slice zw zd.length zD), (.slice zs z9.length zz)] 34 (0, 0))) ∧ Aside0 (w'.heap[z1v]? = some (.cells #[.bool a1_0, .string a1_1, .string a1_2, (.slice z1F zf.length z1E), .int .i8 a1_4, .float .f64 a1_5] 27 (0, 0))) ∧ Aside0 (w'.heap[z18]? = some (.cells #[.string a2_0, .string a2_1, .string a2_2] 36 (0, 0))) ∧ Aside0 (Below w.heap.size w w'))
    case atStart => exact ⟨(((zf.length : Int) == 0)), (0), (by first | rfl | (simp; done) | (simp [*]; done)), (by first | rfl | (simp; done) | (simp [*]; done)), H', ⟨Nat.le_refl _⟩, ⟨rE ze.out⟩, ⟨rE zg.out⟩, ⟨bE z0⟩, ⟨bE z1⟩, ⟨bE z2⟩, ⟨hW HB⟩⟩
    case round =>
     clear H'
     try clear c1
     try clear c2
     try clear p2
     try clear c3
     try clear c4
     try clear p6
     try clear p7
     try clear q7
     try clear hx7
     try clear c15
     try clear c21
     try clear c22
     try clear c24
     try clear z1P
     try clear c25
     try clear z2l
     try clear c26
     try clear z2m
     try clear c27
     try clear z1Q
     try clear z1R
     try clear c29
     try clear c30
     try clear c33
     try clear c34
     try clear z1U z1V z1W z1X z1Y z1Z z20 z21 z22 z23 z24 z2I z2J z2K z2L z2M z2N z2O z2P z2Q z2R z2S z2T z2U z2V z2W z2X z2Y z25 z26 z27 z28 z29 z2a z2b z2c z2d z2e z2f z2Z z30 z31 z32 z33 z34 z35 z36 z37 z38 z39 z3a z3b z3c z3d z3e z3f
     try clear z1A
     try clear z1B
     try clear z1M
     try clear z1N
     try clear p2
     try clear p6
     try clear p798
     try clear p799
     try clear q798
     try clear q799
     obtain ⟨z1H, zq, rfl, rfl, HA, HK2, ze, zg, z0, z1, z2, HB⟩ := hrel
     cases gk with
     | zero => exact absurd HA.out (by simp [gatehouselaw08_MeanReach.l1])
     | succ k2 =>
      have H := HA.out; clear HA
      simp only [gatehouselaw08_MeanReach.l1] at H
      by_cases c36 : zq < (zf.length : Int)
      ·rw [if_pos c36] at H
       have z2n : decide (zq < (zf.length : Int)) = true := decide_eq_true c36; clear c36
       by_cases c37 : z1H = true
       ·subst c37
        have H1 : (gatehouselaw08_MeanReach.l1 k2 t785 t789 t795 z1e true (wrap64 (zq + 1)) z8 z3 za zb zc z6 z7 z4 z5 zd z9 a1_0 a1_1 a1_2 zf a1_4 a1_5 a2_0 a2_1 a2_2) = some r := by rw [if_pos rfl] at H; exact H
        clear H; have H := H1; clear H1; have H' := Aside0.mk H; clear H; have zeC := z12.out; have zfg := z11.out; have zeD := z16.out; have zfh := z17.out; obtain ⟨z6U, z6V, z6W, z6X, z6Y, z6Z, zc8, zc9, zca, zcb, zcc, zcd⟩ := bC6 z1
        try go_wp2
        replace ze := rD ze; replace zg := rD zg; replace z0 := kD z0; replace z1 := kD z1; replace z2 := kD z2; replace HB := Aside0.mk (below_drew1 HB.out)
        refine start_ (n := 12) (S := fun w' => True) (ds := []) #[false, false, false, false, false, false, false, false, false, false, false, false] (by kernel_rfl) rfl rfl trivial (fun hHeld => ?_); refine with_tabW gatehouselaw08_MeanReach.tab14 gatehouselaw08_MeanReach.bits14 (fun HT_ HW_ => ?_)
        generalize wr.drew = w41 at ze zg z0 z1 z2 HB hHeld ⊢; refine pT 0 70 HT_ rfl ?_; refine pT 1 71 HT_ rfl ?_; refine pU 2 72 HT_ rfl ?_; refine pU 3 73 HT_ rfl ?_; refine pU 4 74 HT_ rfl ?_; refine pU 5 75 HT_ rfl ?_; refine pU 6 76 HT_ rfl ?_; refine pU 7 77 HT_ rfl ?_; refine pU 8 78 HT_ rfl ?_; refine pU 9 79 HT_ rfl ?_; refine pT 10 80 HT_ rfl ?_; refine pT 11 12 HT_ rfl ?_
        refine done_ (done_of HT_.out (by kernel_rfl)) ?_
        try go_wp2
        go_roundg k2
        case measure => have := HK1.out; have := HK2.out; omega
        case rel => exact ⟨(true), (wrap64 (zq + 1)), (by first | rfl | (simp; done) | (simp [*]; done)), (by first | rfl | (simp; done) | (simp [*]; done)), H', ⟨by have := HK1.out; have := HK2.out; omega⟩, ⟨rE ze.out⟩, ⟨rE zg.out⟩, ⟨bE z0⟩, ⟨bE z1⟩, ⟨bE z2⟩, ⟨hW HB⟩⟩
       ·replace c37 := Bool.eq_false_iff.mpr c37
        subst c37
        have H1 : (if 0 ≤ zq then (gatehouselaw08_MeanReach.l1 k2 t785 t789 t795 z1e ((rdOf ByteArray.empty zf zq).toList == a2_2.toList) (wrap64 (zq + 1)) z8 z3 za zb zc z6 z7 z4 z5 zd z9 a1_0 a1_1 a1_2 zf a1_4 a1_5 a2_0 a2_1 a2_2) else (none)) = some r := by rw [if_neg (show ¬ (false = true) by decide)] at H; exact H
        clear H; have H := H1; clear H1
        by_cases c42 : 0 ≤ zq
        ·rw [if_pos c42] at H
         have z3x : decide (0 ≤ zq) = true := decide_eq_true c42; clear c42; have H' := Aside0.mk H; clear H; have zeE := z12.out; have zfi := z11.out; have zeF := z16.out; have zfj := z17.out; obtain ⟨z70, z71, z72, z73, z74, z75, zce, zcf, zcg, zch, zci, zcj⟩ := bC6 z1
         try go_wp2
         replace ze := rD ze; replace zg := rD zg; replace z0 := kD z0; replace z1 := kD z1; replace z2 := kD z2; replace HB := Aside0.mk (below_drew1 HB.out); have p800 : 0 ≤ (zq : Int) := of_decide_eq_true (by first | (with_reducible assumption) | assumption); have q800 : zq < (zf.length : Int) := of_decide_eq_true (by first | (with_reducible assumption) | assumption); obtain ⟨z1O, e800, z1L⟩ := Kd.at_string z1D.out zq p800 q800; have z2g := z1L
         cases e800
         replace z1L := hC HB z1L; replace p800 := eq_true p800; replace q800 := eq_true q800
         refine start_ (n := 12) (S := fun w' => sN6 w' z1v (.bool a1_0) (.string a1_1) (.string a1_2) (.slice (some z1O) zf.length z1E) (.int .i8 a1_4) (.float .f64 a1_5) (sN3 w' z18 (.string a2_0) (.string a2_1) (.string a2_2) (w'.cell? (z1O.add (zq).toNat) = some (.string (rdOf ByteArray.empty zf zq))))) (ds := []) #[false, false, false, false, false, false, false, false, false, false, false, false] (by kernel_rfl) rfl rfl ⟨(blk_cell z1.out 0).trans rfl, (blk_cell z1.out 1).trans rfl, (blk_cell z1.out 2).trans rfl, (blk_cell z1.out 3).trans rfl, (blk_cell z1.out 4).trans rfl, (blk_cell z1.out 5).trans rfl, (blk_cell z2.out 0).trans rfl, (blk_cell z2.out 1).trans rfl, (blk_cell z2.out 2).trans rfl, ((HB.out.cell (World.block_lt_of_cell? w _ z2g)).trans z2g)⟩ (fun hHeld => ?_); refine with_tabW gatehouselaw08_MeanReach.tab14 gatehouselaw08_MeanReach.bits14 (fun HT_ HW_ => ?_)
         generalize wr.drew = w46 at ze zg z0 z1 z2 HB z1L hHeld ⊢; refine pT 0 70 HT_ rfl ?_; refine pT 1 71 HT_ rfl ?_; refine pT 2 72 HT_ rfl ?_; refine pT 4 74 HT_ rfl ?_; refine pT 7 77 HT_ rfl ?_; refine tT 3 73 HT_ rfl HW_ hHeld (by (rintro w' ⟨s0, s1, s2, s3, s4, s5, s6, s7, s8, s9⟩; go_simp; with_reducible rfl)) ?_; refine pT 5 75 HT_ rfl ?_; refine tT 6 76 HT_ rfl HW_ hHeld (by (rintro w' ⟨s0, s1, s2, s3, s4, s5, s6, s7, s8, s9⟩; go_simp; with_reducible rfl)) ?_; refine tT 8 78 HT_ rfl HW_ hHeld (by (rintro w' ⟨s0, s1, s2, s3, s4, s5, s6, s7, s8, s9⟩; go_simp; with_reducible rfl)) ?_; refine pT 9 79 HT_ rfl ?_; refine pT 10 80 HT_ rfl ?_; refine pT 11 12 HT_ rfl ?_
         refine done_ (done_of HT_.out (by kernel_rfl)) ?_
         try go_wp2
         go_roundg k2
         case measure => have := HK1.out; have := HK2.out; omega
         case rel => exact ⟨(((rdOf ByteArray.empty zf zq).toList == a2_2.toList)), (wrap64 (zq + 1)), (by first | rfl | (simp; done) | (simp [*]; done)), (by first | rfl | (simp; done) | (simp [*]; done)), H', ⟨by have := HK1.out; have := HK2.out; omega⟩, ⟨rE ze.out⟩, ⟨rE zg.out⟩, ⟨bE z0⟩, ⟨bE z1⟩, ⟨bE z2⟩, ⟨hW HB⟩⟩
        ·rw [if_neg c42] at H
         exact absurd H (by simp)
      ·rw [if_neg c36] at H
       have z2n : decide (zq < (zf.length : Int)) = false := decide_eq_false c36; clear c36; replace H := Option.bind_eq_some_iff.mp H; obtain ⟨t801, A470, H⟩ := H; replace H : (if t801 = true then (if (t789.length : Int) > 0 then (if (t795.length : Int) > 0 then (if z1H = true then ((mean_Passes.f a1_0 a1_1 a1_2 zf a1_4 a1_5 z1e).bind fun t802 => (if t785 = true then ((mean_Matches.f z8 z3 za zb zc z6 z7 z4 z5 zd z9 a1_0 a1_1 a1_2 zf a1_4 a1_5 a2_0 a2_1 a2_2).bind fun t803 => (some (t803 == t802))) else (some false))) else (if t785 = true then ((mean_Matches.f z8 z3 za zb zc z6 z7 z4 z5 zd z9 a1_0 a1_1 a1_2 zf a1_4 a1_5 a2_0 a2_1 a2_2).bind fun t804 => (some (t804 == false))) else (some false))) else (if t785 = true then ((mean_Matches.f z8 z3 za zb zc z6 z7 z4 z5 zd z9 a1_0 a1_1 a1_2 zf a1_4 a1_5 a2_0 a2_1 a2_2).bind fun t805 => (some (t805 == false))) else (some false))) else (if t785 = true then ((mean_Matches.f z8 z3 za zb zc z6 z7 z4 z5 zd z9 a1_0 a1_1 a1_2 zf a1_4 a1_5 a2_0 a2_1 a2_2).bind fun t806 => (some (t806 == false))) else (some false))) else (if t785 = true then ((mean_Matches.f z8 z3 za zb zc z6 z7 z4 z5 zd z9 a1_0 a1_1 a1_2 zf a1_4 a1_5 a2_0 a2_1 a2_2).bind fun t807 => (some (t807 == false))) else (some false))) = some r := H; have A47 := Aside0.mk A470; clear A470
       by_cases c48 : t801 = true
       ·subst c48
        have H1 : (if (t789.length : Int) > 0 then (if (t795.length : Int) > 0 then (if z1H = true then ((mean_Passes.f a1_0 a1_1 a1_2 zf a1_4 a1_5 z1e).bind fun t802 => (if t785 = true then ((mean_Matches.f z8 z3 za zb zc z6 z7 z4 z5 zd z9 a1_0 a1_1 a1_2 zf a1_4 a1_5 a2_0 a2_1 a2_2).bind fun t803 => (some (t803 == t802))) else (some false))) else (if t785 = true then ((mean_Matches.f z8 z3 za zb zc z6 z7 z4 z5 zd z9 a1_0 a1_1 a1_2 zf a1_4 a1_5 a2_0 a2_1 a2_2).bind fun t804 => (some (t804 == false))) else (some false))) else (if t785 = true then ((mean_Matches.f z8 z3 za zb zc z6 z7 z4 z5 zd z9 a1_0 a1_1 a1_2 zf a1_4 a1_5 a2_0 a2_1 a2_2).bind fun t805 => (some (t805 == false))) else (some false))) else (if t785 = true then ((mean_Matches.f z8 z3 za zb zc z6 z7 z4 z5 zd z9 a1_0 a1_1 a1_2 zf a1_4 a1_5 a2_0 a2_1 a2_2).bind fun t806 => (some (t806 == false))) else (some false))) = some r := by rw [if_pos rfl] at H; exact H
        clear H; have H := H1; clear H1
        by_cases c49 : (t789.length : Int) > 0
        ·rw [if_pos c49] at H
         have z2o : decide (0 < (t789.length : Int)) = true := decide_eq_true c49; have z2p : decide (0 < t789.length) = true := decide_eq_true (by omega); clear c49
         by_cases c50 : (t795.length : Int) > 0
         ·rw [if_pos c50] at H
          have z2q : decide (0 < (t795.length : Int)) = true := decide_eq_true c50; have z2r : decide (0 < t795.length) = true := decide_eq_true (by omega); clear c50
          by_cases c51 : z1H = true
          ·subst c51
           have H1 : ((mean_Passes.f a1_0 a1_1 a1_2 zf a1_4 a1_5 z1e).bind fun t802 => (if t785 = true then ((mean_Matches.f z8 z3 za zb zc z6 z7 z4 z5 zd z9 a1_0 a1_1 a1_2 zf a1_4 a1_5 a2_0 a2_1 a2_2).bind fun t803 => (some (t803 == t802))) else (some false))) = some r := by rw [if_pos rfl] at H; exact H
           clear H; have H := H1; clear H1; replace H := Option.bind_eq_some_iff.mp H; obtain ⟨t802, A520, H⟩ := H; replace H : (if t785 = true then ((mean_Matches.f z8 z3 za zb zc z6 z7 z4 z5 zd z9 a1_0 a1_1 a1_2 zf a1_4 a1_5 a2_0 a2_1 a2_2).bind fun t803 => (some (t803 == t802))) else (some false)) = some r := H; have A52 := Aside0.mk A520; clear A520
           by_cases c53 : t785 = true
           ·subst c53
            have H1 : ((mean_Matches.f z8 z3 za zb zc z6 z7 z4 z5 zd z9 a1_0 a1_1 a1_2 zf a1_4 a1_5 a2_0 a2_1 a2_2).bind fun t803 => (some (t803 == t802))) = some r := by rw [if_pos rfl] at H; exact H
            clear H; have H := H1; clear H1; replace H := Option.bind_eq_some_iff.mp H; obtain ⟨t803, A540, H⟩ := H; replace H : (some (t803 == t802)) = some r := H; have A54 := Aside0.mk A540; clear A540
            obtain rfl := Option.some.inj H
            have zeG := z12.out; have zfk := z11.out; have zeH := z16.out; have zfl := z17.out; obtain ⟨z76, z77, z78, z79, z7a, z7b, zck, zcl, zcm, zcn, zco, zcp⟩ := bC6 z1; have zeI := z1b.out; have zfm := z1c.out; obtain ⟨z7c, z7d, z7f, z7g, z7h, z7i, z7j, z7k, z7l, z7m, z7e, zcq, zcr, zct, zcu, zcv, zcw, zcx, zcy, zcz, zcA, zcs⟩ := bC11 z0; obtain ⟨z7n, z7o, z7p, zcB, zcC, zcD⟩ := bC3 z2
            go_wp2_with (first | ((with_reducible refine gate_callee (f := 39) rfl ?_); refine goesL_ (some 83) rfl rfl Try.func39 (by kernel_rfl) rfl #[.agg #[.slice zr z8.length zx, .slice zF z3.length zy, .slice zt za.length zA, .slice zu zb.length zB, .slice zv zc.length zC, .slice zi z6.length zm, .slice zj z7.length zn, .slice zk z4.length zo, .slice zl z5.length zp, .slice zw zd.length zD, .slice zs z9.length zz], .agg #[.string a2_0, .string a2_1, .string a2_2]] rfl (by (try simp only [List.map_toArray, List.map_cons, List.map_nil]); first | done | rfl | (simp only [List.length_drop, List.length_take]; rfl)) ?_; (with_reducible refine (gatehouselaw08_there.calls k2 _ _ z8 _ _ z3 _ _ za _ _ zb _ _ zc _ _ z6 _ _ z7 _ _ z4 _ _ z5 _ _ zd _ _ z9 a2_0 a2_1 a2_2 true _ ?side1 ?side2 ?side3 ?side4 ?side5 ?side6 ?side7 ?side8 ?side9 ?side10 ?side11 ?side12 ?side13 ?side14 ?side15 ?side16 ?side17 ?side18 ?side19 ?side20 ?side21 ?side22 A47.out).mono ?_); (case side1 => exact cE (Kd.C_below zV.out HB.out)); (case side2 => exact zO.out); (case side3 => exact cE (Kd.C_below zE.out HB.out)); (case side4 => exact zP.out); (case side5 => exact cE (Kd.C_below zX.out HB.out)); (case side6 => exact zR.out); (case side7 => exact cE (Kd.C_below zY.out HB.out)); (case side8 => exact zS.out); (case side9 => exact cE (Kd.C_below zZ.out HB.out)); (case side10 => exact zT.out); (case side11 => exact cE (Kd.C_below zK.out HB.out)); (case side12 => exact zG.out); (case side13 => exact cE (Kd.C_below zL.out HB.out)); (case side14 => exact zH.out); (case side15 => exact cE (Kd.C_below zM.out HB.out)); (case side16 => exact zI.out); (case side17 => exact cE (Kd.C_below zN.out HB.out)); (case side18 => exact zJ.out); (case side19 => exact cE (Kd.C_below z10.out HB.out)); (case side20 => exact zU.out); (case side21 => exact cE (Kd.C_below zW.out HB.out)); (case side22 => exact zQ.out); rintro e w61 ⟨rfl, hb⟩; refine ⟨_, rfl, ?_⟩; replace ze := rF ze hb; replace zg := rF zg hb; replace z0 := kF z0 hb; replace z1 := kF z1 hb; replace z2 := kF z2 hb; replace HB := hF HB hb; (try clear hb); (try clear hb2); (try clear hk); (try clear hi); obtain ⟨z3o, z3G, z2C⟩ := Kd.R_slice ze.out; subst z2C; obtain ⟨z3p, z3H, z2D⟩ := Kd.R_slice zg.out; subst z2D; obtain ⟨z7q, z7r, z7s, z7t, z7u, z7v, zcE, zcF, zcG, zcH, zcI, zcJ⟩ := bC6 z1) | (go_at_call 16; (with_reducible refine (mean_Passes.calls a1_0 a1_1 a1_2 _ _ zf a1_4 a1_5 z1e t802 _ ?side1 ?side2 A52.out).mono ?_); (case side1 => exact cE (Kd.C_below z1D.out HB.out)); (case side2 => exact z1G.out); rintro e w65 ⟨rfl, hb⟩; replace ze := rF ze hb; replace zg := rF zg hb; replace z0 := kF z0 hb; replace z1 := kF z1 hb; replace z2 := kF z2 hb; replace HB := hF HB hb; (try clear hb); (try clear hb2); (try clear hk); (try clear hi); obtain ⟨z7w, z7x, z7z, z7A, z7B, z7C, z7D, z7E, z7F, z7G, z7y, zcK, zcL, zcN, zcO, zcP, zcQ, zcR, zcS, zcT, zcU, zcM⟩ := bC11 z0; obtain ⟨z7H, z7I, z7J, z7K, z7L, z7M, zcV, zcW, zcX, zcY, zcZ, zd0⟩ := bC6 z1; obtain ⟨z7N, z7O, z7P, zd1, zd2, zd3⟩ := bC3 z2) | (go_at_call 19; (with_reducible refine (mean_Matches.calls _ _ z8 _ _ z3 _ _ za _ _ zb _ _ zc _ _ z6 _ _ z7 _ _ z4 _ _ z5 _ _ zd _ _ z9 a1_0 a1_1 a1_2 _ _ zf a1_4 a1_5 a2_0 a2_1 a2_2 t803 _ ?side1 ?side2 ?side3 ?side4 ?side5 ?side6 ?side7 ?side8 ?side9 ?side10 ?side11 ?side12 ?side13 ?side14 ?side15 ?side16 ?side17 ?side18 ?side19 ?side20 ?side21 ?side22 ?side23 ?side24 A54.out).mono ?_); (case side1 => exact cE (Kd.C_below zV.out HB.out)); (case side2 => exact zO.out); (case side3 => exact cE (Kd.C_below zE.out HB.out)); (case side4 => exact zP.out); (case side5 => exact cE (Kd.C_below zX.out HB.out)); (case side6 => exact zR.out); (case side7 => exact cE (Kd.C_below zY.out HB.out)); (case side8 => exact zS.out); (case side9 => exact cE (Kd.C_below zZ.out HB.out)); (case side10 => exact zT.out); (case side11 => exact cE (Kd.C_below zK.out HB.out)); (case side12 => exact zG.out); (case side13 => exact cE (Kd.C_below zL.out HB.out)); (case side14 => exact zH.out); (case side15 => exact cE (Kd.C_below zM.out HB.out)); (case side16 => exact zI.out); (case side17 => exact cE (Kd.C_below zN.out HB.out)); (case side18 => exact zJ.out); (case side19 => exact cE (Kd.C_below z10.out HB.out)); (case side20 => exact zU.out); (case side21 => exact cE (Kd.C_below zW.out HB.out)); (case side22 => exact zQ.out); (case side23 => exact cE (Kd.C_below z1D.out HB.out)); (case side24 => exact z1G.out); rintro e w69 ⟨rfl, hb⟩; replace ze := rF ze hb; replace zg := rF zg hb; replace z0 := kF z0 hb; replace z1 := kF z1 hb; replace z2 := kF z2 hb; replace HB := hF HB hb; (try clear hb); (try clear hb2); (try clear hk); (try clear hi)))
            go_ret
            exact ⟨by first | rfl | (simp [errW_none, errW_some] <;> rfl) | (simp [*, errW_none, errW_some] <;> rfl), by repeat (first | (with_reducible first | exact HB.out | apply below_alloc | apply pw_below_drewN | apply below_drew1 | refine below_set ?_ z1w.out | refine below_set ?_ z1x.out | refine below_set ?_ z1y.out) | exact HB.out)⟩
           ·replace c53 := Bool.eq_false_iff.mpr c53
            subst c53
            have H1 : (some false) = some r := by rw [if_neg (show ¬ (false = true) by decide)] at H; exact H
            clear H; have H := H1; clear H1
            obtain rfl := Option.some.inj H
            have zeJ := z12.out; have zfn := z11.out; have zeK := z16.out; have zfo := z17.out; obtain ⟨z7Q, z7R, z7S, z7T, z7U, z7V, zd4, zd5, zd6, zd7, zd8, zd9⟩ := bC6 z1; have zeL := z1b.out; have zfp := z1c.out; obtain ⟨z7W, z7X, z7Z, z80, z81, z82, z83, z84, z85, z86, z7Y, zda, zdb, zdd, zde, zdf, zdg, zdh, zdi, zdj, zdk, zdc⟩ := bC11 z0; obtain ⟨z87, z88, z89, zdl, zdm, zdn⟩ := bC3 z2
            go_wp2_with (first | ((with_reducible refine gate_callee (f := 39) rfl ?_); refine goesL_ (some 83) rfl rfl Try.func39 (by kernel_rfl) rfl #[.agg #[.slice zr z8.length zx, .slice zF z3.length zy, .slice zt za.length zA, .slice zu zb.length zB, .slice zv zc.length zC, .slice zi z6.length zm, .slice zj z7.length zn, .slice zk z4.length zo, .slice zl z5.length zp, .slice zw zd.length zD, .slice zs z9.length zz], .agg #[.string a2_0, .string a2_1, .string a2_2]] rfl (by (try simp only [List.map_toArray, List.map_cons, List.map_nil]); first | done | rfl | (simp only [List.length_drop, List.length_take]; rfl)) ?_; (with_reducible refine (gatehouselaw08_there.calls k2 _ _ z8 _ _ z3 _ _ za _ _ zb _ _ zc _ _ z6 _ _ z7 _ _ z4 _ _ z5 _ _ zd _ _ z9 a2_0 a2_1 a2_2 true _ ?side1 ?side2 ?side3 ?side4 ?side5 ?side6 ?side7 ?side8 ?side9 ?side10 ?side11 ?side12 ?side13 ?side14 ?side15 ?side16 ?side17 ?side18 ?side19 ?side20 ?side21 ?side22 A47.out).mono ?_); (case side1 => exact cE (Kd.C_below zV.out HB.out)); (case side2 => exact zO.out); (case side3 => exact cE (Kd.C_below zE.out HB.out)); (case side4 => exact zP.out); (case side5 => exact cE (Kd.C_below zX.out HB.out)); (case side6 => exact zR.out); (case side7 => exact cE (Kd.C_below zY.out HB.out)); (case side8 => exact zS.out); (case side9 => exact cE (Kd.C_below zZ.out HB.out)); (case side10 => exact zT.out); (case side11 => exact cE (Kd.C_below zK.out HB.out)); (case side12 => exact zG.out); (case side13 => exact cE (Kd.C_below zL.out HB.out)); (case side14 => exact zH.out); (case side15 => exact cE (Kd.C_below zM.out HB.out)); (case side16 => exact zI.out); (case side17 => exact cE (Kd.C_below zN.out HB.out)); (case side18 => exact zJ.out); (case side19 => exact cE (Kd.C_below z10.out HB.out)); (case side20 => exact zU.out); (case side21 => exact cE (Kd.C_below zW.out HB.out)); (case side22 => exact zQ.out); rintro e w76 ⟨rfl, hb⟩; refine ⟨_, rfl, ?_⟩; replace ze := rF ze hb; replace zg := rF zg hb; replace z0 := kF z0 hb; replace z1 := kF z1 hb; replace z2 := kF z2 hb; replace HB := hF HB hb; (try clear hb); (try clear hb2); (try clear hk); (try clear hi); obtain ⟨z3q, z3I, z2E⟩ := Kd.R_slice ze.out; subst z2E; obtain ⟨z3r, z3J, z2F⟩ := Kd.R_slice zg.out; subst z2F; obtain ⟨z8a, z8b, z8c, z8d, z8e, z8f, zdo, zdp, zdq, zdr, zds, zdt⟩ := bC6 z1) | (go_at_call 16; (with_reducible refine (mean_Passes.calls a1_0 a1_1 a1_2 _ _ zf a1_4 a1_5 z1e t802 _ ?side1 ?side2 A52.out).mono ?_); (case side1 => exact cE (Kd.C_below z1D.out HB.out)); (case side2 => exact z1G.out); rintro e w80 ⟨rfl, hb⟩; replace ze := rF ze hb; replace zg := rF zg hb; replace z0 := kF z0 hb; replace z1 := kF z1 hb; replace z2 := kF z2 hb; replace HB := hF HB hb; (try clear hb); (try clear hb2); (try clear hk); (try clear hi)))
            go_ret
            exact ⟨by first | rfl | (simp [errW_none, errW_some] <;> rfl) | (simp [*, errW_none, errW_some] <;> rfl), by repeat (first | (with_reducible first | exact HB.out | apply below_alloc | apply pw_below_drewN | apply below_drew1 | refine below_set ?_ z1w.out | refine below_set ?_ z1x.out | refine below_set ?_ z1y.out) | exact HB.out)⟩
          ·replace c51 := Bool.eq_false_iff.mpr c51
           subst c51
           have H1 : (if t785 = true then ((mean_Matches.f z8 z3 za zb zc z6 z7 z4 z5 zd z9 a1_0 a1_1 a1_2 zf a1_4 a1_5 a2_0 a2_1 a2_2).bind fun t804 => (some (t804 == false))) else (some false)) = some r := by rw [if_neg (show ¬ (false = true) by decide)] at H; exact H
           clear H; have H := H1; clear H1
           by_cases c81 : t785 = true
           ·subst c81
            have H1 : ((mean_Matches.f z8 z3 za zb zc z6 z7 z4 z5 zd z9 a1_0 a1_1 a1_2 zf a1_4 a1_5 a2_0 a2_1 a2_2).bind fun t804 => (some (t804 == false))) = some r := by rw [if_pos rfl] at H; exact H
            clear H; have H := H1; clear H1; replace H := Option.bind_eq_some_iff.mp H; obtain ⟨t804, A820, H⟩ := H; replace H : (some (t804 == false)) = some r := H; have A82 := Aside0.mk A820; clear A820
            obtain rfl := Option.some.inj H
            have zeM := z12.out; have zfq := z11.out; have zeN := z16.out; have zfr := z17.out; obtain ⟨z8g, z8h, z8i, z8j, z8k, z8l, zdu, zdv, zdw, zdx, zdy, zdz⟩ := bC6 z1; have zeO := z1b.out; have zfs := z1c.out; obtain ⟨z8m, z8n, z8p, z8q, z8r, z8s, z8t, z8u, z8v, z8w, z8o, zdA, zdB, zdD, zdE, zdF, zdG, zdH, zdI, zdJ, zdK, zdC⟩ := bC11 z0; obtain ⟨z8x, z8y, z8z, zdL, zdM, zdN⟩ := bC3 z2
            go_wp2_with (first | ((with_reducible refine gate_callee (f := 39) rfl ?_); refine goesL_ (some 83) rfl rfl Try.func39 (by kernel_rfl) rfl #[.agg #[.slice zr z8.length zx, .slice zF z3.length zy, .slice zt za.length zA, .slice zu zb.length zB, .slice zv zc.length zC, .slice zi z6.length zm, .slice zj z7.length zn, .slice zk z4.length zo, .slice zl z5.length zp, .slice zw zd.length zD, .slice zs z9.length zz], .agg #[.string a2_0, .string a2_1, .string a2_2]] rfl (by (try simp only [List.map_toArray, List.map_cons, List.map_nil]); first | done | rfl | (simp only [List.length_drop, List.length_take]; rfl)) ?_; (with_reducible refine (gatehouselaw08_there.calls k2 _ _ z8 _ _ z3 _ _ za _ _ zb _ _ zc _ _ z6 _ _ z7 _ _ z4 _ _ z5 _ _ zd _ _ z9 a2_0 a2_1 a2_2 true _ ?side1 ?side2 ?side3 ?side4 ?side5 ?side6 ?side7 ?side8 ?side9 ?side10 ?side11 ?side12 ?side13 ?side14 ?side15 ?side16 ?side17 ?side18 ?side19 ?side20 ?side21 ?side22 A47.out).mono ?_); (case side1 => exact cE (Kd.C_below zV.out HB.out)); (case side2 => exact zO.out); (case side3 => exact cE (Kd.C_below zE.out HB.out)); (case side4 => exact zP.out); (case side5 => exact cE (Kd.C_below zX.out HB.out)); (case side6 => exact zR.out); (case side7 => exact cE (Kd.C_below zY.out HB.out)); (case side8 => exact zS.out); (case side9 => exact cE (Kd.C_below zZ.out HB.out)); (case side10 => exact zT.out); (case side11 => exact cE (Kd.C_below zK.out HB.out)); (case side12 => exact zG.out); (case side13 => exact cE (Kd.C_below zL.out HB.out)); (case side14 => exact zH.out); (case side15 => exact cE (Kd.C_below zM.out HB.out)); (case side16 => exact zI.out); (case side17 => exact cE (Kd.C_below zN.out HB.out)); (case side18 => exact zJ.out); (case side19 => exact cE (Kd.C_below z10.out HB.out)); (case side20 => exact zU.out); (case side21 => exact cE (Kd.C_below zW.out HB.out)); (case side22 => exact zQ.out); rintro e w89 ⟨rfl, hb⟩; refine ⟨_, rfl, ?_⟩; replace ze := rF ze hb; replace zg := rF zg hb; replace z0 := kF z0 hb; replace z1 := kF z1 hb; replace z2 := kF z2 hb; replace HB := hF HB hb; (try clear hb); (try clear hb2); (try clear hk); (try clear hi); obtain ⟨z3s, z3K, z2G⟩ := Kd.R_slice ze.out; subst z2G; obtain ⟨z3t, z3L, z2H⟩ := Kd.R_slice zg.out; subst z2H; obtain ⟨z8A, z8B, z8D, z8E, z8F, z8G, z8H, z8I, z8J, z8K, z8C, zdO, zdP, zdR, zdS, zdT, zdU, zdV, zdW, zdX, zdY, zdQ⟩ := bC11 z0; obtain ⟨z8L, z8M, z8N, z8O, z8P, z8Q, zdZ, ze0, ze1, ze2, ze3, ze4⟩ := bC6 z1; obtain ⟨z8R, z8S, z8T, ze5, ze6, ze7⟩ := bC3 z2) | (go_at_call 19; (with_reducible refine (mean_Matches.calls _ _ z8 _ _ z3 _ _ za _ _ zb _ _ zc _ _ z6 _ _ z7 _ _ z4 _ _ z5 _ _ zd _ _ z9 a1_0 a1_1 a1_2 _ _ zf a1_4 a1_5 a2_0 a2_1 a2_2 t804 _ ?side1 ?side2 ?side3 ?side4 ?side5 ?side6 ?side7 ?side8 ?side9 ?side10 ?side11 ?side12 ?side13 ?side14 ?side15 ?side16 ?side17 ?side18 ?side19 ?side20 ?side21 ?side22 ?side23 ?side24 A82.out).mono ?_); (case side1 => exact cE (Kd.C_below zV.out HB.out)); (case side2 => exact zO.out); (case side3 => exact cE (Kd.C_below zE.out HB.out)); (case side4 => exact zP.out); (case side5 => exact cE (Kd.C_below zX.out HB.out)); (case side6 => exact zR.out); (case side7 => exact cE (Kd.C_below zY.out HB.out)); (case side8 => exact zS.out); (case side9 => exact cE (Kd.C_below zZ.out HB.out)); (case side10 => exact zT.out); (case side11 => exact cE (Kd.C_below zK.out HB.out)); (case side12 => exact zG.out); (case side13 => exact cE (Kd.C_below zL.out HB.out)); (case side14 => exact zH.out); (case side15 => exact cE (Kd.C_below zM.out HB.out)); (case side16 => exact zI.out); (case side17 => exact cE (Kd.C_below zN.out HB.out)); (case side18 => exact zJ.out); (case side19 => exact cE (Kd.C_below z10.out HB.out)); (case side20 => exact zU.out); (case side21 => exact cE (Kd.C_below zW.out HB.out)); (case side22 => exact zQ.out); (case side23 => exact cE (Kd.C_below z1D.out HB.out)); (case side24 => exact z1G.out); rintro e w95 ⟨rfl, hb⟩; replace ze := rF ze hb; replace zg := rF zg hb; replace z0 := kF z0 hb; replace z1 := kF z1 hb; replace z2 := kF z2 hb; replace HB := hF HB hb; (try clear hb); (try clear hb2); (try clear hk); (try clear hi)))
            go_ret
            exact ⟨by first | rfl | (simp [errW_none, errW_some] <;> rfl) | (simp [*, errW_none, errW_some] <;> rfl), by repeat (first | (with_reducible first | exact HB.out | apply below_alloc | apply pw_below_drewN | apply below_drew1 | refine below_set ?_ z1w.out | refine below_set ?_ z1x.out | refine below_set ?_ z1y.out) | exact HB.out)⟩
           ·replace c81 := Bool.eq_false_iff.mpr c81
            subst c81
            have H1 : (some false) = some r := by rw [if_neg (show ¬ (false = true) by decide)] at H; exact H
            clear H; have H := H1; clear H1
            obtain rfl := Option.some.inj H
            have zeP := z12.out; have zft := z11.out; have zeQ := z16.out; have zfu := z17.out; obtain ⟨z8U, z8V, z8W, z8X, z8Y, z8Z, ze8, ze9, zea, zeb, zec, zed⟩ := bC6 z1; have zeR := z1b.out; have zfv := z1c.out; obtain ⟨z3M, z3N, z3P, z3Q, z3R, z3S, z3T, z3U, z3V, z3W, z3O, z90, z91, z93, z94, z95, z96, z97, z98, z99, z9a, z92⟩ := bC11 z0; obtain ⟨z3X, z3Y, z3Z, z9b, z9c, z9d⟩ := bC3 z2
            go_wp2_with (first | ((with_reducible refine gate_callee (f := 39) rfl ?_); refine goesL_ (some 83) rfl rfl Try.func39 (by kernel_rfl) rfl #[.agg #[.slice zr z8.length zx, .slice zF z3.length zy, .slice zt za.length zA, .slice zu zb.length zB, .slice zv zc.length zC, .slice zi z6.length zm, .slice zj z7.length zn, .slice zk z4.length zo, .slice zl z5.length zp, .slice zw zd.length zD, .slice zs z9.length zz], .agg #[.string a2_0, .string a2_1, .string a2_2]] rfl (by (try simp only [List.map_toArray, List.map_cons, List.map_nil]); first | done | rfl | (simp only [List.length_drop, List.length_take]; rfl)) ?_; (with_reducible refine (gatehouselaw08_there.calls k2 _ _ z8 _ _ z3 _ _ za _ _ zb _ _ zc _ _ z6 _ _ z7 _ _ z4 _ _ z5 _ _ zd _ _ z9 a2_0 a2_1 a2_2 true _ ?side1 ?side2 ?side3 ?side4 ?side5 ?side6 ?side7 ?side8 ?side9 ?side10 ?side11 ?side12 ?side13 ?side14 ?side15 ?side16 ?side17 ?side18 ?side19 ?side20 ?side21 ?side22 A47.out).mono ?_); (case side1 => exact cE (Kd.C_below zV.out HB.out)); (case side2 => exact zO.out); (case side3 => exact cE (Kd.C_below zE.out HB.out)); (case side4 => exact zP.out); (case side5 => exact cE (Kd.C_below zX.out HB.out)); (case side6 => exact zR.out); (case side7 => exact cE (Kd.C_below zY.out HB.out)); (case side8 => exact zS.out); (case side9 => exact cE (Kd.C_below zZ.out HB.out)); (case side10 => exact zT.out); (case side11 => exact cE (Kd.C_below zK.out HB.out)); (case side12 => exact zG.out); (case side13 => exact cE (Kd.C_below zL.out HB.out)); (case side14 => exact zH.out); (case side15 => exact cE (Kd.C_below zM.out HB.out)); (case side16 => exact zI.out); (case side17 => exact cE (Kd.C_below zN.out HB.out)); (case side18 => exact zJ.out); (case side19 => exact cE (Kd.C_below z10.out HB.out)); (case side20 => exact zU.out); (case side21 => exact cE (Kd.C_below zW.out HB.out)); (case side22 => exact zQ.out); rintro e w102 ⟨rfl, hb⟩; refine ⟨_, rfl, ?_⟩; replace ze := rF ze hb; replace zg := rF zg hb; replace z0 := kF z0 hb; replace z1 := kF z1 hb; replace z2 := kF z2 hb; replace HB := hF HB hb; (try clear hb); (try clear hb2); (try clear hk); (try clear hi); obtain ⟨z3g, z3y, z2u⟩ := Kd.R_slice ze.out; subst z2u; obtain ⟨z3h, z3z, z2v⟩ := Kd.R_slice zg.out; subst z2v))
            go_ret
            exact ⟨by first | rfl | (simp [errW_none, errW_some] <;> rfl) | (simp [*, errW_none, errW_some] <;> rfl), by repeat (first | (with_reducible first | exact HB.out | apply below_alloc | apply pw_below_drewN | apply below_drew1 | refine below_set ?_ z1w.out | refine below_set ?_ z1x.out | refine below_set ?_ z1y.out) | exact HB.out)⟩
         ·rw [if_neg c50] at H
          have z2q : decide (0 < (t795.length : Int)) = false := decide_eq_false c50; have z2r : decide (0 < t795.length) = false := decide_eq_false (by omega); clear c50
          by_cases c105 : t785 = true
          ·subst c105
           have H1 : ((mean_Matches.f z8 z3 za zb zc z6 z7 z4 z5 zd z9 a1_0 a1_1 a1_2 zf a1_4 a1_5 a2_0 a2_1 a2_2).bind fun t805 => (some (t805 == false))) = some r := by rw [if_pos rfl] at H; exact H
           clear H; have H := H1; clear H1; replace H := Option.bind_eq_some_iff.mp H; obtain ⟨t805, A1060, H⟩ := H; replace H : (some (t805 == false)) = some r := H; have A106 := Aside0.mk A1060; clear A1060
           obtain rfl := Option.some.inj H
           have zee := z12.out; have zeS := z11.out; have zef := z16.out; have zeT := z17.out; obtain ⟨z40, z41, z42, z43, z44, z45, z9e, z9f, z9g, z9h, z9i, z9j⟩ := bC6 z1; have zeg := z1b.out; have zeU := z1c.out; obtain ⟨z46, z47, z49, z4a, z4b, z4c, z4d, z4e, z4f, z4g, z48, z9k, z9l, z9n, z9o, z9p, z9q, z9r, z9s, z9t, z9u, z9m⟩ := bC11 z0; obtain ⟨z4h, z4i, z4j, z9v, z9w, z9x⟩ := bC3 z2
           go_wp2_with (first | ((with_reducible refine gate_callee (f := 39) rfl ?_); refine goesL_ (some 83) rfl rfl Try.func39 (by kernel_rfl) rfl #[.agg #[.slice zr z8.length zx, .slice zF z3.length zy, .slice zt za.length zA, .slice zu zb.length zB, .slice zv zc.length zC, .slice zi z6.length zm, .slice zj z7.length zn, .slice zk z4.length zo, .slice zl z5.length zp, .slice zw zd.length zD, .slice zs z9.length zz], .agg #[.string a2_0, .string a2_1, .string a2_2]] rfl (by (try simp only [List.map_toArray, List.map_cons, List.map_nil]); first | done | rfl | (simp only [List.length_drop, List.length_take]; rfl)) ?_; (with_reducible refine (gatehouselaw08_there.calls k2 _ _ z8 _ _ z3 _ _ za _ _ zb _ _ zc _ _ z6 _ _ z7 _ _ z4 _ _ z5 _ _ zd _ _ z9 a2_0 a2_1 a2_2 true _ ?side1 ?side2 ?side3 ?side4 ?side5 ?side6 ?side7 ?side8 ?side9 ?side10 ?side11 ?side12 ?side13 ?side14 ?side15 ?side16 ?side17 ?side18 ?side19 ?side20 ?side21 ?side22 A47.out).mono ?_); (case side1 => exact cE (Kd.C_below zV.out HB.out)); (case side2 => exact zO.out); (case side3 => exact cE (Kd.C_below zE.out HB.out)); (case side4 => exact zP.out); (case side5 => exact cE (Kd.C_below zX.out HB.out)); (case side6 => exact zR.out); (case side7 => exact cE (Kd.C_below zY.out HB.out)); (case side8 => exact zS.out); (case side9 => exact cE (Kd.C_below zZ.out HB.out)); (case side10 => exact zT.out); (case side11 => exact cE (Kd.C_below zK.out HB.out)); (case side12 => exact zG.out); (case side13 => exact cE (Kd.C_below zL.out HB.out)); (case side14 => exact zH.out); (case side15 => exact cE (Kd.C_below zM.out HB.out)); (case side16 => exact zI.out); (case side17 => exact cE (Kd.C_below zN.out HB.out)); (case side18 => exact zJ.out); (case side19 => exact cE (Kd.C_below z10.out HB.out)); (case side20 => exact zU.out); (case side21 => exact cE (Kd.C_below zW.out HB.out)); (case side22 => exact zQ.out); rintro e w113 ⟨rfl, hb⟩; refine ⟨_, rfl, ?_⟩; replace ze := rF ze hb; replace zg := rF zg hb; replace z0 := kF z0 hb; replace z1 := kF z1 hb; replace z2 := kF z2 hb; replace HB := hF HB hb; (try clear hb); (try clear hb2); (try clear hk); (try clear hi); obtain ⟨z3i, z3A, z2w⟩ := Kd.R_slice ze.out; subst z2w; obtain ⟨z3j, z3B, z2x⟩ := Kd.R_slice zg.out; subst z2x; obtain ⟨z4k, z4l, z4n, z4o, z4p, z4q, z4r, z4s, z4t, z4u, z4m, z9y, z9z, z9B, z9C, z9D, z9E, z9F, z9G, z9H, z9I, z9A⟩ := bC11 z0; obtain ⟨z4v, z4w, z4x, z4y, z4z, z4A, z9J, z9K, z9L, z9M, z9N, z9O⟩ := bC6 z1; obtain ⟨z4B, z4C, z4D, z9P, z9Q, z9R⟩ := bC3 z2) | (go_at_call 19; (with_reducible refine (mean_Matches.calls _ _ z8 _ _ z3 _ _ za _ _ zb _ _ zc _ _ z6 _ _ z7 _ _ z4 _ _ z5 _ _ zd _ _ z9 a1_0 a1_1 a1_2 _ _ zf a1_4 a1_5 a2_0 a2_1 a2_2 t805 _ ?side1 ?side2 ?side3 ?side4 ?side5 ?side6 ?side7 ?side8 ?side9 ?side10 ?side11 ?side12 ?side13 ?side14 ?side15 ?side16 ?side17 ?side18 ?side19 ?side20 ?side21 ?side22 ?side23 ?side24 A106.out).mono ?_); (case side1 => exact cE (Kd.C_below zV.out HB.out)); (case side2 => exact zO.out); (case side3 => exact cE (Kd.C_below zE.out HB.out)); (case side4 => exact zP.out); (case side5 => exact cE (Kd.C_below zX.out HB.out)); (case side6 => exact zR.out); (case side7 => exact cE (Kd.C_below zY.out HB.out)); (case side8 => exact zS.out); (case side9 => exact cE (Kd.C_below zZ.out HB.out)); (case side10 => exact zT.out); (case side11 => exact cE (Kd.C_below zK.out HB.out)); (case side12 => exact zG.out); (case side13 => exact cE (Kd.C_below zL.out HB.out)); (case side14 => exact zH.out); (case side15 => exact cE (Kd.C_below zM.out HB.out)); (case side16 => exact zI.out); (case side17 => exact cE (Kd.C_below zN.out HB.out)); (case side18 => exact zJ.out); (case side19 => exact cE (Kd.C_below z10.out HB.out)); (case side20 => exact zU.out); (case side21 => exact cE (Kd.C_below zW.out HB.out)); (case side22 => exact zQ.out); (case side23 => exact cE (Kd.C_below z1D.out HB.out)); (case side24 => exact z1G.out); rintro e w119 ⟨rfl, hb⟩; replace ze := rF ze hb; replace zg := rF zg hb; replace z0 := kF z0 hb; replace z1 := kF z1 hb; replace z2 := kF z2 hb; replace HB := hF HB hb; (try clear hb); (try clear hb2); (try clear hk); (try clear hi)))
           go_ret
           exact ⟨by first | rfl | (simp [errW_none, errW_some] <;> rfl) | (simp [*, errW_none, errW_some] <;> rfl), by repeat (first | (with_reducible first | exact HB.out | apply below_alloc | apply pw_below_drewN | apply below_drew1 | refine below_set ?_ z1w.out | refine below_set ?_ z1x.out | refine below_set ?_ z1y.out) | exact HB.out)⟩
          ·replace c105 := Bool.eq_false_iff.mpr c105
           subst c105
           have H1 : (some false) = some r := by rw [if_neg (show ¬ (false = true) by decide)] at H; exact H
           clear H; have H := H1; clear H1
           obtain rfl := Option.some.inj H
           have zeh := z12.out; have zeV := z11.out; have zei := z16.out; have zeW := z17.out; obtain ⟨z4E, z4F, z4G, z4H, z4I, z4J, z9S, z9T, z9U, z9V, z9W, z9X⟩ := bC6 z1; have zej := z1b.out; have zeX := z1c.out; obtain ⟨z4K, z4L, z4N, z4O, z4P, z4Q, z4R, z4S, z4T, z4U, z4M, z9Y, z9Z, za1, za2, za3, za4, za5, za6, za7, za8, za0⟩ := bC11 z0; obtain ⟨z4V, z4W, z4X, za9, zaa, zab⟩ := bC3 z2
           go_wp2_with (first | ((with_reducible refine gate_callee (f := 39) rfl ?_); refine goesL_ (some 83) rfl rfl Try.func39 (by kernel_rfl) rfl #[.agg #[.slice zr z8.length zx, .slice zF z3.length zy, .slice zt za.length zA, .slice zu zb.length zB, .slice zv zc.length zC, .slice zi z6.length zm, .slice zj z7.length zn, .slice zk z4.length zo, .slice zl z5.length zp, .slice zw zd.length zD, .slice zs z9.length zz], .agg #[.string a2_0, .string a2_1, .string a2_2]] rfl (by (try simp only [List.map_toArray, List.map_cons, List.map_nil]); first | done | rfl | (simp only [List.length_drop, List.length_take]; rfl)) ?_; (with_reducible refine (gatehouselaw08_there.calls k2 _ _ z8 _ _ z3 _ _ za _ _ zb _ _ zc _ _ z6 _ _ z7 _ _ z4 _ _ z5 _ _ zd _ _ z9 a2_0 a2_1 a2_2 true _ ?side1 ?side2 ?side3 ?side4 ?side5 ?side6 ?side7 ?side8 ?side9 ?side10 ?side11 ?side12 ?side13 ?side14 ?side15 ?side16 ?side17 ?side18 ?side19 ?side20 ?side21 ?side22 A47.out).mono ?_); (case side1 => exact cE (Kd.C_below zV.out HB.out)); (case side2 => exact zO.out); (case side3 => exact cE (Kd.C_below zE.out HB.out)); (case side4 => exact zP.out); (case side5 => exact cE (Kd.C_below zX.out HB.out)); (case side6 => exact zR.out); (case side7 => exact cE (Kd.C_below zY.out HB.out)); (case side8 => exact zS.out); (case side9 => exact cE (Kd.C_below zZ.out HB.out)); (case side10 => exact zT.out); (case side11 => exact cE (Kd.C_below zK.out HB.out)); (case side12 => exact zG.out); (case side13 => exact cE (Kd.C_below zL.out HB.out)); (case side14 => exact zH.out); (case side15 => exact cE (Kd.C_below zM.out HB.out)); (case side16 => exact zI.out); (case side17 => exact cE (Kd.C_below zN.out HB.out)); (case side18 => exact zJ.out); (case side19 => exact cE (Kd.C_below z10.out HB.out)); (case side20 => exact zU.out); (case side21 => exact cE (Kd.C_below zW.out HB.out)); (case side22 => exact zQ.out); rintro e w126 ⟨rfl, hb⟩; refine ⟨_, rfl, ?_⟩; replace ze := rF ze hb; replace zg := rF zg hb; replace z0 := kF z0 hb; replace z1 := kF z1 hb; replace z2 := kF z2 hb; replace HB := hF HB hb; (try clear hb); (try clear hb2); (try clear hk); (try clear hi); obtain ⟨z3k, z3C, z2y⟩ := Kd.R_slice ze.out; subst z2y; obtain ⟨z3l, z3D, z2z⟩ := Kd.R_slice zg.out; subst z2z))
           go_ret
           exact ⟨by first | rfl | (simp [errW_none, errW_some] <;> rfl) | (simp [*, errW_none, errW_some] <;> rfl), by repeat (first | (with_reducible first | exact HB.out | apply below_alloc | apply pw_below_drewN | apply below_drew1 | refine below_set ?_ z1w.out | refine below_set ?_ z1x.out | refine below_set ?_ z1y.out) | exact HB.out)⟩
        ·rw [if_neg c49] at H
         have z2o : decide (0 < (t789.length : Int)) = false := decide_eq_false c49; have z2p : decide (0 < t789.length) = false := decide_eq_false (by omega); clear c49
         by_cases c129 : t785 = true
         ·subst c129
          have H1 : ((mean_Matches.f z8 z3 za zb zc z6 z7 z4 z5 zd z9 a1_0 a1_1 a1_2 zf a1_4 a1_5 a2_0 a2_1 a2_2).bind fun t806 => (some (t806 == false))) = some r := by rw [if_pos rfl] at H; exact H
          clear H; have H := H1; clear H1; replace H := Option.bind_eq_some_iff.mp H; obtain ⟨t806, A1300, H⟩ := H; replace H : (some (t806 == false)) = some r := H; have A130 := Aside0.mk A1300; clear A1300
          obtain rfl := Option.some.inj H
          have zek := z12.out; have zeY := z11.out; have zel := z16.out; have zeZ := z17.out; obtain ⟨z4Y, z4Z, z50, z51, z52, z53, zac, zad, zae, zaf, zag, zah⟩ := bC6 z1; have zem := z1b.out; have zf0 := z1c.out; obtain ⟨z54, z55, z57, z58, z59, z5a, z5b, z5c, z5d, z5e, z56, zai, zaj, zal, zam, zan, zao, zap, zaq, zar, zas, zak⟩ := bC11 z0; obtain ⟨z5f, z5g, z5h, zat, zau, zav⟩ := bC3 z2
          go_wp2_with (first | ((with_reducible refine gate_callee (f := 39) rfl ?_); refine goesL_ (some 83) rfl rfl Try.func39 (by kernel_rfl) rfl #[.agg #[.slice zr z8.length zx, .slice zF z3.length zy, .slice zt za.length zA, .slice zu zb.length zB, .slice zv zc.length zC, .slice zi z6.length zm, .slice zj z7.length zn, .slice zk z4.length zo, .slice zl z5.length zp, .slice zw zd.length zD, .slice zs z9.length zz], .agg #[.string a2_0, .string a2_1, .string a2_2]] rfl (by (try simp only [List.map_toArray, List.map_cons, List.map_nil]); first | done | rfl | (simp only [List.length_drop, List.length_take]; rfl)) ?_; (with_reducible refine (gatehouselaw08_there.calls k2 _ _ z8 _ _ z3 _ _ za _ _ zb _ _ zc _ _ z6 _ _ z7 _ _ z4 _ _ z5 _ _ zd _ _ z9 a2_0 a2_1 a2_2 true _ ?side1 ?side2 ?side3 ?side4 ?side5 ?side6 ?side7 ?side8 ?side9 ?side10 ?side11 ?side12 ?side13 ?side14 ?side15 ?side16 ?side17 ?side18 ?side19 ?side20 ?side21 ?side22 A47.out).mono ?_); (case side1 => exact cE (Kd.C_below zV.out HB.out)); (case side2 => exact zO.out); (case side3 => exact cE (Kd.C_below zE.out HB.out)); (case side4 => exact zP.out); (case side5 => exact cE (Kd.C_below zX.out HB.out)); (case side6 => exact zR.out); (case side7 => exact cE (Kd.C_below zY.out HB.out)); (case side8 => exact zS.out); (case side9 => exact cE (Kd.C_below zZ.out HB.out)); (case side10 => exact zT.out); (case side11 => exact cE (Kd.C_below zK.out HB.out)); (case side12 => exact zG.out); (case side13 => exact cE (Kd.C_below zL.out HB.out)); (case side14 => exact zH.out); (case side15 => exact cE (Kd.C_below zM.out HB.out)); (case side16 => exact zI.out); (case side17 => exact cE (Kd.C_below zN.out HB.out)); (case side18 => exact zJ.out); (case side19 => exact cE (Kd.C_below z10.out HB.out)); (case side20 => exact zU.out); (case side21 => exact cE (Kd.C_below zW.out HB.out)); (case side22 => exact zQ.out); rintro e w137 ⟨rfl, hb⟩; refine ⟨_, rfl, ?_⟩; replace ze := rF ze hb; replace zg := rF zg hb; replace z0 := kF z0 hb; replace z1 := kF z1 hb; replace z2 := kF z2 hb; replace HB := hF HB hb; (try clear hb); (try clear hb2); (try clear hk); (try clear hi); obtain ⟨z3m, z3E, z2A⟩ := Kd.R_slice ze.out; subst z2A; obtain ⟨z5i, z5j, z5l, z5m, z5n, z5o, z5p, z5q, z5r, z5s, z5k, zaw, zax, zaz, zaA, zaB, zaC, zaD, zaE, zaF, zaG, zay⟩ := bC11 z0; obtain ⟨z5t, z5u, z5v, z5w, z5x, z5y, zaH, zaI, zaJ, zaK, zaL, zaM⟩ := bC6 z1; obtain ⟨z5z, z5A, z5B, zaN, zaO, zaP⟩ := bC3 z2) | (go_at_call 19; (with_reducible refine (mean_Matches.calls _ _ z8 _ _ z3 _ _ za _ _ zb _ _ zc _ _ z6 _ _ z7 _ _ z4 _ _ z5 _ _ zd _ _ z9 a1_0 a1_1 a1_2 _ _ zf a1_4 a1_5 a2_0 a2_1 a2_2 t806 _ ?side1 ?side2 ?side3 ?side4 ?side5 ?side6 ?side7 ?side8 ?side9 ?side10 ?side11 ?side12 ?side13 ?side14 ?side15 ?side16 ?side17 ?side18 ?side19 ?side20 ?side21 ?side22 ?side23 ?side24 A130.out).mono ?_); (case side1 => exact cE (Kd.C_below zV.out HB.out)); (case side2 => exact zO.out); (case side3 => exact cE (Kd.C_below zE.out HB.out)); (case side4 => exact zP.out); (case side5 => exact cE (Kd.C_below zX.out HB.out)); (case side6 => exact zR.out); (case side7 => exact cE (Kd.C_below zY.out HB.out)); (case side8 => exact zS.out); (case side9 => exact cE (Kd.C_below zZ.out HB.out)); (case side10 => exact zT.out); (case side11 => exact cE (Kd.C_below zK.out HB.out)); (case side12 => exact zG.out); (case side13 => exact cE (Kd.C_below zL.out HB.out)); (case side14 => exact zH.out); (case side15 => exact cE (Kd.C_below zM.out HB.out)); (case side16 => exact zI.out); (case side17 => exact cE (Kd.C_below zN.out HB.out)); (case side18 => exact zJ.out); (case side19 => exact cE (Kd.C_below z10.out HB.out)); (case side20 => exact zU.out); (case side21 => exact cE (Kd.C_below zW.out HB.out)); (case side22 => exact zQ.out); (case side23 => exact cE (Kd.C_below z1D.out HB.out)); (case side24 => exact z1G.out); rintro e w142 ⟨rfl, hb⟩; replace ze := rF ze hb; replace zg := rF zg hb; replace z0 := kF z0 hb; replace z1 := kF z1 hb; replace z2 := kF z2 hb; replace HB := hF HB hb; (try clear hb); (try clear hb2); (try clear hk); (try clear hi)))
          go_ret
          exact ⟨by first | rfl | (simp [errW_none, errW_some] <;> rfl) | (simp [*, errW_none, errW_some] <;> rfl), by repeat (first | (with_reducible first | exact HB.out | apply below_alloc | apply pw_below_drewN | apply below_drew1 | refine below_set ?_ z1w.out | refine below_set ?_ z1x.out | refine below_set ?_ z1y.out) | exact HB.out)⟩
         ·replace c129 := Bool.eq_false_iff.mpr c129
          subst c129
          have H1 : (some false) = some r := by rw [if_neg (show ¬ (false = true) by decide)] at H; exact H
          clear H; have H := H1; clear H1
          obtain rfl := Option.some.inj H
          have zen := z12.out; have zf1 := z11.out; have zeo := z16.out; have zf2 := z17.out; obtain ⟨z5C, z5D, z5E, z5F, z5G, z5H, zaQ, zaR, zaS, zaT, zaU, zaV⟩ := bC6 z1; have zep := z1b.out; have zf3 := z1c.out; obtain ⟨z5I, z5J, z5L, z5M, z5N, z5O, z5P, z5Q, z5R, z5S, z5K, zaW, zaX, zaZ, zb0, zb1, zb2, zb3, zb4, zb5, zb6, zaY⟩ := bC11 z0; obtain ⟨z5T, z5U, z5V, zb7, zb8, zb9⟩ := bC3 z2
          go_wp2_with (first | ((with_reducible refine gate_callee (f := 39) rfl ?_); refine goesL_ (some 83) rfl rfl Try.func39 (by kernel_rfl) rfl #[.agg #[.slice zr z8.length zx, .slice zF z3.length zy, .slice zt za.length zA, .slice zu zb.length zB, .slice zv zc.length zC, .slice zi z6.length zm, .slice zj z7.length zn, .slice zk z4.length zo, .slice zl z5.length zp, .slice zw zd.length zD, .slice zs z9.length zz], .agg #[.string a2_0, .string a2_1, .string a2_2]] rfl (by (try simp only [List.map_toArray, List.map_cons, List.map_nil]); first | done | rfl | (simp only [List.length_drop, List.length_take]; rfl)) ?_; (with_reducible refine (gatehouselaw08_there.calls k2 _ _ z8 _ _ z3 _ _ za _ _ zb _ _ zc _ _ z6 _ _ z7 _ _ z4 _ _ z5 _ _ zd _ _ z9 a2_0 a2_1 a2_2 true _ ?side1 ?side2 ?side3 ?side4 ?side5 ?side6 ?side7 ?side8 ?side9 ?side10 ?side11 ?side12 ?side13 ?side14 ?side15 ?side16 ?side17 ?side18 ?side19 ?side20 ?side21 ?side22 A47.out).mono ?_); (case side1 => exact cE (Kd.C_below zV.out HB.out)); (case side2 => exact zO.out); (case side3 => exact cE (Kd.C_below zE.out HB.out)); (case side4 => exact zP.out); (case side5 => exact cE (Kd.C_below zX.out HB.out)); (case side6 => exact zR.out); (case side7 => exact cE (Kd.C_below zY.out HB.out)); (case side8 => exact zS.out); (case side9 => exact cE (Kd.C_below zZ.out HB.out)); (case side10 => exact zT.out); (case side11 => exact cE (Kd.C_below zK.out HB.out)); (case side12 => exact zG.out); (case side13 => exact cE (Kd.C_below zL.out HB.out)); (case side14 => exact zH.out); (case side15 => exact cE (Kd.C_below zM.out HB.out)); (case side16 => exact zI.out); (case side17 => exact cE (Kd.C_below zN.out HB.out)); (case side18 => exact zJ.out); (case side19 => exact cE (Kd.C_below z10.out HB.out)); (case side20 => exact zU.out); (case side21 => exact cE (Kd.C_below zW.out HB.out)); (case side22 => exact zQ.out); rintro e w149 ⟨rfl, hb⟩; refine ⟨_, rfl, ?_⟩; replace ze := rF ze hb; replace zg := rF zg hb; replace z0 := kF z0 hb; replace z1 := kF z1 hb; replace z2 := kF z2 hb; replace HB := hF HB hb; (try clear hb); (try clear hb2); (try clear hk); (try clear hi); obtain ⟨z3n, z3F, z2B⟩ := Kd.R_slice ze.out; subst z2B))
          go_ret
          exact ⟨by first | rfl | (simp [errW_none, errW_some] <;> rfl) | (simp [*, errW_none, errW_some] <;> rfl), by repeat (first | (with_reducible first | exact HB.out | apply below_alloc | apply pw_below_drewN | apply below_drew1 | refine below_set ?_ z1w.out | refine below_set ?_ z1x.out | refine below_set ?_ z1y.out) | exact HB.out)⟩
       ·replace c48 := Bool.eq_false_iff.mpr c48
        subst c48
        have H1 : (if t785 = true then ((mean_Matches.f z8 z3 za zb zc z6 z7 z4 z5 zd z9 a1_0 a1_1 a1_2 zf a1_4 a1_5 a2_0 a2_1 a2_2).bind fun t807 => (some (t807 == false))) else (some false)) = some r := by rw [if_neg (show ¬ (false = true) by decide)] at H; exact H
        clear H; have H := H1; clear H1
        by_cases c151 : t785 = true
        ·subst c151
         have H1 : ((mean_Matches.f z8 z3 za zb zc z6 z7 z4 z5 zd z9 a1_0 a1_1 a1_2 zf a1_4 a1_5 a2_0 a2_1 a2_2).bind fun t807 => (some (t807 == false))) = some r := by rw [if_pos rfl] at H; exact H
         clear H; have H := H1; clear H1; replace H := Option.bind_eq_some_iff.mp H; obtain ⟨t807, A1520, H⟩ := H; replace H : (some (t807 == false)) = some r := H; have A152 := Aside0.mk A1520; clear A1520
         obtain rfl := Option.some.inj H
         have zeq := z12.out; have zf4 := z11.out; have zer := z16.out; have zf5 := z17.out; obtain ⟨z5W, z5X, z5Y, z5Z, z60, z61, zba, zbb, zbc, zbd, zbe, zbf⟩ := bC6 z1; have zes := z1b.out; have zf6 := z1c.out; obtain ⟨z62, z63, z65, z66, z67, z68, z69, z6a, z6b, z6c, z64, zbg, zbh, zbj, zbk, zbl, zbm, zbn, zbo, zbp, zbq, zbi⟩ := bC11 z0; obtain ⟨z6d, z6e, z6f, zbr, zbs, zbt⟩ := bC3 z2
         go_wp2_with (first | ((with_reducible refine gate_callee (f := 39) rfl ?_); refine goesL_ (some 83) rfl rfl Try.func39 (by kernel_rfl) rfl #[.agg #[.slice zr z8.length zx, .slice zF z3.length zy, .slice zt za.length zA, .slice zu zb.length zB, .slice zv zc.length zC, .slice zi z6.length zm, .slice zj z7.length zn, .slice zk z4.length zo, .slice zl z5.length zp, .slice zw zd.length zD, .slice zs z9.length zz], .agg #[.string a2_0, .string a2_1, .string a2_2]] rfl (by (try simp only [List.map_toArray, List.map_cons, List.map_nil]); first | done | rfl | (simp only [List.length_drop, List.length_take]; rfl)) ?_; (with_reducible refine (gatehouselaw08_there.calls k2 _ _ z8 _ _ z3 _ _ za _ _ zb _ _ zc _ _ z6 _ _ z7 _ _ z4 _ _ z5 _ _ zd _ _ z9 a2_0 a2_1 a2_2 false _ ?side1 ?side2 ?side3 ?side4 ?side5 ?side6 ?side7 ?side8 ?side9 ?side10 ?side11 ?side12 ?side13 ?side14 ?side15 ?side16 ?side17 ?side18 ?side19 ?side20 ?side21 ?side22 A47.out).mono ?_); (case side1 => exact cE (Kd.C_below zV.out HB.out)); (case side2 => exact zO.out); (case side3 => exact cE (Kd.C_below zE.out HB.out)); (case side4 => exact zP.out); (case side5 => exact cE (Kd.C_below zX.out HB.out)); (case side6 => exact zR.out); (case side7 => exact cE (Kd.C_below zY.out HB.out)); (case side8 => exact zS.out); (case side9 => exact cE (Kd.C_below zZ.out HB.out)); (case side10 => exact zT.out); (case side11 => exact cE (Kd.C_below zK.out HB.out)); (case side12 => exact zG.out); (case side13 => exact cE (Kd.C_below zL.out HB.out)); (case side14 => exact zH.out); (case side15 => exact cE (Kd.C_below zM.out HB.out)); (case side16 => exact zI.out); (case side17 => exact cE (Kd.C_below zN.out HB.out)); (case side18 => exact zJ.out); (case side19 => exact cE (Kd.C_below z10.out HB.out)); (case side20 => exact zU.out); (case side21 => exact cE (Kd.C_below zW.out HB.out)); (case side22 => exact zQ.out); rintro e w159 ⟨rfl, hb⟩; refine ⟨_, rfl, ?_⟩; replace ze := rF ze hb; replace zg := rF zg hb; replace z0 := kF z0 hb; replace z1 := kF z1 hb; replace z2 := kF z2 hb; replace HB := hF HB hb; (try clear hb); (try clear hb2); (try clear hk); (try clear hi); obtain ⟨z6g, z6h, z6j, z6k, z6l, z6m, z6n, z6o, z6p, z6q, z6i, zbu, zbv, zbx, zby, zbz, zbA, zbB, zbC, zbD, zbE, zbw⟩ := bC11 z0; obtain ⟨z6r, z6s, z6t, z6u, z6v, z6w, zbF, zbG, zbH, zbI, zbJ, zbK⟩ := bC6 z1; obtain ⟨z6x, z6y, z6z, zbL, zbM, zbN⟩ := bC3 z2) | (go_at_call 19; (with_reducible refine (mean_Matches.calls _ _ z8 _ _ z3 _ _ za _ _ zb _ _ zc _ _ z6 _ _ z7 _ _ z4 _ _ z5 _ _ zd _ _ z9 a1_0 a1_1 a1_2 _ _ zf a1_4 a1_5 a2_0 a2_1 a2_2 t807 _ ?side1 ?side2 ?side3 ?side4 ?side5 ?side6 ?side7 ?side8 ?side9 ?side10 ?side11 ?side12 ?side13 ?side14 ?side15 ?side16 ?side17 ?side18 ?side19 ?side20 ?side21 ?side22 ?side23 ?side24 A152.out).mono ?_); (case side1 => exact cE (Kd.C_below zV.out HB.out)); (case side2 => exact zO.out); (case side3 => exact cE (Kd.C_below zE.out HB.out)); (case side4 => exact zP.out); (case side5 => exact cE (Kd.C_below zX.out HB.out)); (case side6 => exact zR.out); (case side7 => exact cE (Kd.C_below zY.out HB.out)); (case side8 => exact zS.out); (case side9 => exact cE (Kd.C_below zZ.out HB.out)); (case side10 => exact zT.out); (case side11 => exact cE (Kd.C_below zK.out HB.out)); (case side12 => exact zG.out); (case side13 => exact cE (Kd.C_below zL.out HB.out)); (case side14 => exact zH.out); (case side15 => exact cE (Kd.C_below zM.out HB.out)); (case side16 => exact zI.out); (case side17 => exact cE (Kd.C_below zN.out HB.out)); (case side18 => exact zJ.out); (case side19 => exact cE (Kd.C_below z10.out HB.out)); (case side20 => exact zU.out); (case side21 => exact cE (Kd.C_below zW.out HB.out)); (case side22 => exact zQ.out); (case side23 => exact cE (Kd.C_below z1D.out HB.out)); (case side24 => exact z1G.out); rintro e w163 ⟨rfl, hb⟩; replace ze := rF ze hb; replace zg := rF zg hb; replace z0 := kF z0 hb; replace z1 := kF z1 hb; replace z2 := kF z2 hb; replace HB := hF HB hb; (try clear hb); (try clear hb2); (try clear hk); (try clear hi)))
         go_ret
         exact ⟨by first | rfl | (simp [errW_none, errW_some] <;> rfl) | (simp [*, errW_none, errW_some] <;> rfl), by repeat (first | (with_reducible first | exact HB.out | apply below_alloc | apply pw_below_drewN | apply below_drew1 | refine below_set ?_ z1w.out | refine below_set ?_ z1x.out | refine below_set ?_ z1y.out) | exact HB.out)⟩
        ·replace c151 := Bool.eq_false_iff.mpr c151
         subst c151
         have H1 : (some false) = some r := by rw [if_neg (show ¬ (false = true) by decide)] at H; exact H
         clear H; have H := H1; clear H1
         obtain rfl := Option.some.inj H
         have zet := z12.out; have zf7 := z11.out; have zeu := z16.out; have zf8 := z17.out; obtain ⟨z6A, z6B, z6C, z6D, z6E, z6F, zbO, zbP, zbQ, zbR, zbS, zbT⟩ := bC6 z1; have zev := z1b.out; have zf9 := z1c.out; obtain ⟨z6G, z6H, z6J, z6K, z6L, z6M, z6N, z6O, z6P, z6Q, z6I, zbU, zbV, zbX, zbY, zbZ, zc0, zc1, zc2, zc3, zc4, zbW⟩ := bC11 z0; obtain ⟨z6R, z6S, z6T, zc5, zc6, zc7⟩ := bC3 z2
         go_wp2_with (first | ((with_reducible refine gate_callee (f := 39) rfl ?_); refine goesL_ (some 83) rfl rfl Try.func39 (by kernel_rfl) rfl #[.agg #[.slice zr z8.length zx, .slice zF z3.length zy, .slice zt za.length zA, .slice zu zb.length zB, .slice zv zc.length zC, .slice zi z6.length zm, .slice zj z7.length zn, .slice zk z4.length zo, .slice zl z5.length zp, .slice zw zd.length zD, .slice zs z9.length zz], .agg #[.string a2_0, .string a2_1, .string a2_2]] rfl (by (try simp only [List.map_toArray, List.map_cons, List.map_nil]); first | done | rfl | (simp only [List.length_drop, List.length_take]; rfl)) ?_; (with_reducible refine (gatehouselaw08_there.calls k2 _ _ z8 _ _ z3 _ _ za _ _ zb _ _ zc _ _ z6 _ _ z7 _ _ z4 _ _ z5 _ _ zd _ _ z9 a2_0 a2_1 a2_2 false _ ?side1 ?side2 ?side3 ?side4 ?side5 ?side6 ?side7 ?side8 ?side9 ?side10 ?side11 ?side12 ?side13 ?side14 ?side15 ?side16 ?side17 ?side18 ?side19 ?side20 ?side21 ?side22 A47.out).mono ?_); (case side1 => exact cE (Kd.C_below zV.out HB.out)); (case side2 => exact zO.out); (case side3 => exact cE (Kd.C_below zE.out HB.out)); (case side4 => exact zP.out); (case side5 => exact cE (Kd.C_below zX.out HB.out)); (case side6 => exact zR.out); (case side7 => exact cE (Kd.C_below zY.out HB.out)); (case side8 => exact zS.out); (case side9 => exact cE (Kd.C_below zZ.out HB.out)); (case side10 => exact zT.out); (case side11 => exact cE (Kd.C_below zK.out HB.out)); (case side12 => exact zG.out); (case side13 => exact cE (Kd.C_below zL.out HB.out)); (case side14 => exact zH.out); (case side15 => exact cE (Kd.C_below zM.out HB.out)); (case side16 => exact zI.out); (case side17 => exact cE (Kd.C_below zN.out HB.out)); (case side18 => exact zJ.out); (case side19 => exact cE (Kd.C_below z10.out HB.out)); (case side20 => exact zU.out); (case side21 => exact cE (Kd.C_below zW.out HB.out)); (case side22 => exact zQ.out); rintro e w170 ⟨rfl, hb⟩; refine ⟨_, rfl, ?_⟩; replace ze := rF ze hb; replace zg := rF zg hb; replace z0 := kF z0 hb; replace z1 := kF z1 hb; replace z2 := kF z2 hb; replace HB := hF HB hb; (try clear hb); (try clear hb2); (try clear hk); (try clear hi)))
         go_ret
         exact ⟨by first | rfl | (simp [errW_none, errW_some] <;> rfl) | (simp [*, errW_none, errW_some] <;> rfl), by repeat (first | (with_reducible first | exact HB.out | apply below_alloc | apply pw_below_drewN | apply below_drew1 | refine below_set ?_ z1w.out | refine below_set ?_ z1x.out | refine below_set ?_ z1y.out) | exact HB.out)⟩

/-! ### gatehouseref08_first: function 60 -/
end Go.Proofs.Ytnkdcekddhmjnaa.F
