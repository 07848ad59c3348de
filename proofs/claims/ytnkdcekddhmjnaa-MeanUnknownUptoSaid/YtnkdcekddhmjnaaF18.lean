-- Written by a program of this session (mk.py over the kit's print, turned for floats and for contracts given by hand). Not trusted: Lean checks it.
import Derived.Test.YtnkdcekddhmjnaaF0
import Derived.Test.YtnkdcekddhmjnaaF6
import Derived.Test.YtnkdcekddhmjnaaAx
import Derived.Test.YtnkdcekddhmjnaaSC
import Derived.Test.YtnkdcekddhmjnaaPC
import Derived.Test.YtnkdcekddhmjnaaPA
namespace Go.Proofs.Ytnkdcekddhmjnaa.F
open Go.RowKit Go.Proofs.YtnkdcekddhmjnaaW.PrintWords Go.Proofs.YtnkdcekddhmjnaaW.PrintLast Go.Proofs.YtnkdcekddhmjnaaW.PrintMore
attribute [local go_sem] max2_int min2_int max_two min_two max_three min_three max_four min_four   -- for this text's walks alone
attribute [local go_sem] flt_eql flt_neq flt_lss flt_leq flt_gtr flt_geq run_store_float
set_option linter.unusedVariables false
set_option linter.unusedSimpArgs false

/-! ### gatehouselaw08_there: function 39 -/
mutual
def gatehouselaw08_there.l0 : Nat → Bool → Bool → Bool → Int → List ByteArray → List (S57) → List ByteArray → List ByteArray → List ByteArray → List (S86) → List (S86) → List (S86) → List (S86) → List (S27) → List (S36) → ByteArray → ByteArray → ByteArray → Option (Bool)
 | 0, _, _, _, _, _, _, _, _, _, _, _, _, _, _, _, _, _, _ => none
 | k + 1, x5, x6, x7, x8, zk, zl, zr, zm, zs, zt, zu, zv, zw, zx, zy, zo, zp, zq => if x8 < (zl.length : Int) then (if x5 = true then (gatehouselaw08_there.l0 k true x6 x7 (wrap64 (x8 + 1)) zk zl zr zm zs zt zu zv zw zx zy zo zp zq) else (if 0 ≤ x8 then (gatehouselaw08_there.l0 k (((rd_T57 zl x8).f0).toList == zo.toList) x6 x7 (wrap64 (x8 + 1)) zk zl zr zm zs zt zu zv zw zx zy zo zp zq) else (none))) else (gatehouselaw08_there.l1 k x5 x6 x7 0 zk zl zr zm zs zt zu zv zw zx zy zo zp zq)
def gatehouselaw08_there.l1 : Nat → Bool → Bool → Bool → Int → List ByteArray → List (S57) → List ByteArray → List ByteArray → List ByteArray → List (S86) → List (S86) → List (S86) → List (S86) → List (S27) → List (S36) → ByteArray → ByteArray → ByteArray → Option (Bool)
 | 0, _, _, _, _, _, _, _, _, _, _, _, _, _, _, _, _, _, _ => none
 | k + 1, x5, x6, x7, x9, zk, zl, zr, zm, zs, zt, zu, zv, zw, zx, zy, zo, zp, zq => if x9 < (zm.length : Int) then (if x6 = true then (gatehouselaw08_there.l1 k x5 true x7 (wrap64 (x9 + 1)) zk zl zr zm zs zt zu zv zw zx zy zo zp zq) else (if 0 ≤ x9 then (gatehouselaw08_there.l1 k x5 ((rdOf ByteArray.empty zm x9).toList == zp.toList) x7 (wrap64 (x9 + 1)) zk zl zr zm zs zt zu zv zw zx zy zo zp zq) else (none))) else (gatehouselaw08_there.l2 k x5 x6 x7 0 zk zl zr zm zs zt zu zv zw zx zy zo zp zq)
def gatehouselaw08_there.l2 : Nat → Bool → Bool → Bool → Int → List ByteArray → List (S57) → List ByteArray → List ByteArray → List ByteArray → List (S86) → List (S86) → List (S86) → List (S86) → List (S27) → List (S36) → ByteArray → ByteArray → ByteArray → Option (Bool)
 | 0, _, _, _, _, _, _, _, _, _, _, _, _, _, _, _, _, _, _ => none
 | k + 1, x5, x6, x7, x10, zk, zl, zr, zm, zs, zt, zu, zv, zw, zx, zy, zo, zp, zq => if x10 < (zk.length : Int) then (if x7 = true then (gatehouselaw08_there.l2 k x5 x6 true (wrap64 (x10 + 1)) zk zl zr zm zs zt zu zv zw zx zy zo zp zq) else (if 0 ≤ x10 then (gatehouselaw08_there.l2 k x5 x6 ((rdOf ByteArray.empty zk x10).toList == zq.toList) (wrap64 (x10 + 1)) zk zl zr zm zs zt zu zv zw zx zy zo zp zq) else (none))) else (if x5 = true then (if x6 = true then (some x7) else (some false)) else (some false))
end
def gatehouselaw08_there.f (k : Nat) (z1 : List ByteArray) (z2 : List (S57)) (z5 : List ByteArray) (z3 : List ByteArray) (z6 : List ByteArray) (z7 : List (S86)) (z8 : List (S86)) (z9 : List (S86)) (za : List (S86)) (zb : List (S27)) (z4 : List (S36)) (a1_0 : ByteArray) (a1_1 : ByteArray) (a1_2 : ByteArray) : Option (Bool) := gatehouselaw08_there.l0 k false false false 0 z1 z2 z5 z3 z6 z7 z8 z9 za zb z4 a1_0 a1_1 a1_2
set_option maxHeartbeats 8000000 in
set_option maxRecDepth 100000 in
theorem gatehouselaw08_there.calls (k : Nat) (zA : Option Addr) (zL : Nat) (z1 : List ByteArray) (zB : Option Addr) (zM : Nat) (z2 : List (S57)) (zD : Option Addr) (zO : Nat) (z5 : List ByteArray) (zE : Option Addr) (zP : Nat) (z3 : List ByteArray) (zF : Option Addr) (zQ : Nat) (z6 : List ByteArray) (zG : Option Addr) (zR : Nat) (z7 : List (S86)) (zH : Option Addr) (zS : Nat) (z8 : List (S86)) (zI : Option Addr) (zT : Nat) (z9 : List (S86)) (zJ : Option Addr) (zU : Nat) (za : List (S86)) (zK : Option Addr) (zV : Nat) (zb : List (S27)) (zC : Option Addr) (zN : Nat) (z4 : List (S36)) (a1_0 : ByteArray) (a1_1 : ByteArray) (a1_2 : ByteArray) (r : Bool) (w : World) (hr0_0 : Kd.C Kd.string w zA z1.length z1) (hc0_0 : z1.length ≤ zL) (hr0_1 : Kd.C k57 w zB z2.length z2) (hc0_1 : z2.length ≤ zM) (hr0_2 : Kd.C Kd.string w zD z5.length z5) (hc0_2 : z5.length ≤ zO) (hr0_3 : Kd.C Kd.string w zE z3.length z3) (hc0_3 : z3.length ≤ zP) (hr0_4 : Kd.C Kd.string w zF z6.length z6) (hc0_4 : z6.length ≤ zQ) (hr0_5 : Kd.C k86 w zG z7.length z7) (hc0_5 : z7.length ≤ zR) (hr0_6 : Kd.C k86 w zH z8.length z8) (hc0_6 : z8.length ≤ zS) (hr0_7 : Kd.C k86 w zI z9.length z9) (hc0_7 : z9.length ≤ zT) (hr0_8 : Kd.C k86 w zJ za.length za) (hc0_8 : za.length ≤ zU) (hr0_9 : Kd.C k27 w zK zb.length zb) (hc0_9 : zb.length ≤ zV) (hr0_10 : Kd.C k36 w zC z4.length z4) (hc0_10 : z4.length ≤ zN) (h : gatehouselaw08_there.f k z1 z2 z5 z3 z6 z7 z8 z9 za zb z4 a1_0 a1_1 a1_2 = some r) :
  Calls Try.prog 39 #[.agg #[.slice zA z1.length zL, .slice zB z2.length zM, .slice zD z5.length zO, .slice zE z3.length zP, .slice zF z6.length zQ, .slice zG z7.length zR, .slice zH z8.length zS, .slice zI z9.length zT, .slice zJ za.length zU, .slice zK zb.length zV, .slice zC z4.length zN], .agg #[.string a1_0, .string a1_1, .string a1_2]] w fun e w' => e = .returned (.bool r) ∧ Below w.heap.size w w' := by
 have hu34 := Try.underlying34; have hu36 := Try.underlying36; have z2i := Aside0.mk hr0_0; have z3x := Aside0.mk hc0_0; clear hr0_0 hc0_0; have z2j := Aside0.mk hr0_1; have z3y := Aside0.mk hc0_1; clear hr0_1 hc0_1; have z3J := Aside0.mk hr0_2; have z3A := Aside0.mk hc0_2; clear hr0_2 hc0_2; have z2k := Aside0.mk hr0_3; have z3B := Aside0.mk hc0_3; clear hr0_3 hc0_3; have z3K := Aside0.mk hr0_4; have z3C := Aside0.mk hc0_4; clear hr0_4 hc0_4; have z3L := Aside0.mk hr0_5; have z3D := Aside0.mk hc0_5; clear hr0_5 hc0_5; have z3M := Aside0.mk hr0_6; have z3E := Aside0.mk hc0_6; clear hr0_6 hc0_6; have z3N := Aside0.mk hr0_7; have z3F := Aside0.mk hc0_7; clear hr0_7 hc0_7; have z3O := Aside0.mk hr0_8; have z3G := Aside0.mk hc0_8; clear hr0_8 hc0_8; have z3P := Aside0.mk hr0_9; have z3H := Aside0.mk hc0_9; clear hr0_9 hc0_9; have z3I := Aside0.mk hr0_10; have z3z := Aside0.mk hc0_10; clear hr0_10 hc0_10; have HB := Aside0.mk (Below.refl w.heap.size w); have H : (gatehouselaw08_there.l0 k false false false 0 z1 z2 z5 z3 z6 z7 z8 z9 za zb z4 a1_0 a1_1 a1_2) = some r := h; clear h; have H' := Aside0.mk H; clear H
 go_enter Try.func39, Try.ntmps39
 go_wp2_with (first | ((with_reducible refine gate_dst (N := 2) rfl ?_); refine box_event ?hg (N := 2) ?hd (cs := #[.slice zA z1.length zL, .slice zB z2.length zM, .slice zD z5.length zO, .slice zE z3.length zP, .slice zF z6.length zQ, .slice zG z7.length zR, .slice zH z8.length zS, .slice zI z9.length zT, .slice zJ za.length zU, .slice zK zb.length zV, .slice zC z4.length zN]) (t := 34) ?hr ?_; (case hd => rfl); (case hg => rfl); (case hr => first | (go_simp; done) | (go_simp; rfl)); intro zg hg w3 hbox hb; have z0 := Aside0.mk (hbox); have z13 := Aside0.mk ((by rw [hg]; exact (below_size (hW HB)) : w.heap.size ≤ zg)); have zX := Aside0.mk ((by rw [hg]; exact (below_size (hW HB)) : w.heap.size ≤ zg)); replace HB := hF HB hb; clear hb hbox hg) | ((with_reducible refine gate_dst (N := 3) rfl ?_); refine box_event ?hg (N := 3) ?hd (cs := #[.string a1_0, .string a1_1, .string a1_2]) (t := 36) ?hr ?_; (case hd => rfl); (case hg => rfl); (case hr => first | (go_simp; done) | (go_simp; rfl)); intro zh hg w4 hbox hb; have zf := Aside0.mk (hbox); have z14 := Aside0.mk ((by rw [hg]; exact (below_size (hW HB)) : w.heap.size ≤ zh)); have zY := Aside0.mk ((by rw [hg]; exact (below_size (hW HB)) : w.heap.size ≤ zh)); replace HB := hF HB hb; have zi := Aside0.mk ((by rw [hg]; exact Nat.ne_of_lt (bL z0) : zg ≠ zh)); have zj := Aside0.mk ((by rw [hg]; exact Nat.ne_of_gt (bL z0) : zh ≠ zg)); replace z0 := kF z0 hb; clear hb hbox hg))
 repeat (go_quiet (first | ((with_reducible refine gate_dst (N := 2) rfl ?_); refine box_event ?hg (N := 2) ?hd (cs := #[.slice zA z1.length zL, .slice zB z2.length zM, .slice zD z5.length zO, .slice zE z3.length zP, .slice zF z6.length zQ, .slice zG z7.length zR, .slice zH z8.length zS, .slice zI z9.length zT, .slice zJ za.length zU, .slice zK zb.length zV, .slice zC z4.length zN]) (t := 34) ?hr ?_; (case hd => rfl); (case hg => rfl); (case hr => first | (go_simp; done) | (go_simp; rfl)); intro zg hg w3 hbox hb; have z0 := Aside0.mk (hbox); have z13 := Aside0.mk ((by rw [hg]; exact (below_size (hW HB)) : w.heap.size ≤ zg)); have zX := Aside0.mk ((by rw [hg]; exact (below_size (hW HB)) : w.heap.size ≤ zg)); replace HB := hF HB hb; clear hb hbox hg) | ((with_reducible refine gate_dst (N := 3) rfl ?_); refine box_event ?hg (N := 3) ?hd (cs := #[.string a1_0, .string a1_1, .string a1_2]) (t := 36) ?hr ?_; (case hd => rfl); (case hg => rfl); (case hr => first | (go_simp; done) | (go_simp; rfl)); intro zh hg w4 hbox hb; have zf := Aside0.mk (hbox); have z14 := Aside0.mk ((by rw [hg]; exact (below_size (hW HB)) : w.heap.size ≤ zh)); have zY := Aside0.mk ((by rw [hg]; exact (below_size (hW HB)) : w.heap.size ≤ zh)); replace HB := hF HB hb; have zi := Aside0.mk ((by rw [hg]; exact Nat.ne_of_lt (bL z0) : zg ≠ zh)); have zj := Aside0.mk ((by rw [hg]; exact Nat.ne_of_gt (bL z0) : zh ≠ zg)); replace z0 := kF z0 hb; clear hb hbox hg)); try go_wp2_with (first | ((with_reducible refine gate_dst (N := 2) rfl ?_); refine box_event ?hg (N := 2) ?hd (cs := #[.slice zA z1.length zL, .slice zB z2.length zM, .slice zD z5.length zO, .slice zE z3.length zP, .slice zF z6.length zQ, .slice zG z7.length zR, .slice zH z8.length zS, .slice zI z9.length zT, .slice zJ za.length zU, .slice zK zb.length zV, .slice zC z4.length zN]) (t := 34) ?hr ?_; (case hd => rfl); (case hg => rfl); (case hr => first | (go_simp; done) | (go_simp; rfl)); intro zg hg w3 hbox hb; have z0 := Aside0.mk (hbox); have z13 := Aside0.mk ((by rw [hg]; exact (below_size (hW HB)) : w.heap.size ≤ zg)); have zX := Aside0.mk ((by rw [hg]; exact (below_size (hW HB)) : w.heap.size ≤ zg)); replace HB := hF HB hb; clear hb hbox hg) | ((with_reducible refine gate_dst (N := 3) rfl ?_); refine box_event ?hg (N := 3) ?hd (cs := #[.string a1_0, .string a1_1, .string a1_2]) (t := 36) ?hr ?_; (case hd => rfl); (case hg => rfl); (case hr => first | (go_simp; done) | (go_simp; rfl)); intro zh hg w4 hbox hb; have zf := Aside0.mk (hbox); have z14 := Aside0.mk ((by rw [hg]; exact (below_size (hW HB)) : w.heap.size ≤ zh)); have zY := Aside0.mk ((by rw [hg]; exact (below_size (hW HB)) : w.heap.size ≤ zh)); replace HB := hF HB hb; have zi := Aside0.mk ((by rw [hg]; exact Nat.ne_of_lt (bL z0) : zg ≠ zh)); have zj := Aside0.mk ((by rw [hg]; exact Nat.ne_of_gt (bL z0) : zh ≠ zg)); replace z0 := kF z0 hb; clear hb hbox hg)))
 go_loopg [5, 8] k (fun kq v5 v8 w' => ∃ (zn : Bool) (zd : Int), v5 = .bool zn ∧ v8 = .int .i64 zd ∧ Aside0 (gatehouselaw08_there.l0 kq zn false false zd z1 z2 z5 z3 z6 z7 z8 z9 za zb z4 a1_0 a1_1 a1_2 = some r) ∧ Aside0 (kq ≤ k) ∧ Aside0 (w'.heap[zg]? = some (.cells #[(.slice zA z1.length zL), (.slice zB z2.length zM), (.slice zD z5.length zO), (.slice zE z3.length zP), (.slice zF z6.length zQ), (.slice zG z7.length zR), (.slice zH z8.length zS), (.slice zI z9.length zT), (.slice zJ za.length zU), (.slice zK zb.length zV), (.slice zC z4.length zN)] 34 (0, 0))) ∧ Aside0 (w'.heap[zh]? = some (.cells #[.string a1_0, .string a1_1, .string a1_2] 36 (0, 0))) ∧ Aside0 (Below w.heap.size w w'))
 case atStart => exact ⟨(false), (0), (by first | rfl | (simp; done) | (simp [*]; done)), (by first | rfl | (simp; done) | (simp [*]; done)), H', ⟨Nat.le_refl _⟩, ⟨bE z0⟩, ⟨bE zf⟩, ⟨hW HB⟩⟩
 case round =>
  clear H'
  try clear p2
  try clear c3
  obtain ⟨zn, zd, rfl, rfl, HA, HK1, z0, zf, HB⟩ := hrel
  cases gk with
  | zero => exact absurd HA.out (by simp [gatehouselaw08_there.l0])
  | succ k1 =>
   have H := HA.out; clear HA
   simp only [gatehouselaw08_there.l0] at H
   by_cases c5 : zd < (z2.length : Int)
   ·rw [if_pos c5] at H
    have z11 : decide (zd < (z2.length : Int)) = true := decide_eq_true c5; clear c5
    by_cases c6 : zn = true
    ·subst c6
     have H1 : (gatehouselaw08_there.l0 k1 true false false (wrap64 (zd + 1)) z1 z2 z5 z3 z6 z7 z8 z9 za zb z4 a1_0 a1_1 a1_2) = some r := by rw [if_pos rfl] at H; exact H
     clear H; have H := H1; clear H1; have H' := Aside0.mk H; clear H; have z5W := zi.out; have z67 := zj.out; obtain ⟨z1w, z1x, z1z, z1A, z1B, z1C, z1D, z1E, z1F, z1G, z1y, z26, z27, z29, z2a, z2b, z2c, z2d, z2e, z2f, z2g, z28⟩ := bC11 z0
     go_wp2
     repeat (go_quiet (fail); try go_wp2)
     go_roundg k1
     case measure => have := HK1.out; omega
     case rel => exact ⟨(true), (wrap64 (zd + 1)), (by first | rfl | (simp; done) | (simp [*]; done)), (by first | rfl | (simp; done) | (simp [*]; done)), H', ⟨by have := HK1.out; omega⟩, ⟨bE z0⟩, ⟨bE zf⟩, ⟨hW HB⟩⟩
    ·replace c6 := Bool.eq_false_iff.mpr c6
     subst c6
     have H1 : (if 0 ≤ zd then (gatehouselaw08_there.l0 k1 (((rd_T57 z2 zd).f0).toList == a1_0.toList) false false (wrap64 (zd + 1)) z1 z2 z5 z3 z6 z7 z8 z9 za zb z4 a1_0 a1_1 a1_2) else (none)) = some r := by rw [if_neg (show ¬ (false = true) by decide)] at H; exact H
     clear H; have H := H1; clear H1
     by_cases c9 : 0 ≤ zd
     ·rw [if_pos c9] at H
      have z16 : decide (0 ≤ zd) = true := decide_eq_true c9; clear c9; have H' := Aside0.mk H; clear H; have z5M := zi.out; have z5X := zj.out; obtain ⟨z17, z18, z1a, z1b, z1c, z1d, z1e, z1f, z1g, z1h, z19, z1H, z1I, z1K, z1L, z1M, z1N, z1O, z1P, z1Q, z1R, z1J⟩ := bC11 z0; have p773 : 0 ≤ (zd : Int) := of_decide_eq_true (by first | (with_reducible assumption) | assumption); have q773 : zd < (z2.length : Int) := of_decide_eq_true (by first | (with_reducible assumption) | assumption); obtain ⟨z3Q, e773, zZ, z10⟩ := at_T57 z2j.out zd p773 q773
      cases e773
      replace zZ := hC HB zZ; replace z10 := hC HB z10; replace p773 := eq_true p773; replace q773 := eq_true q773; obtain ⟨z1i, z1j, z1k, z1S, z1T, z1U⟩ := bC3 zf
      go_wp2
      repeat (go_quiet (fail); try go_wp2)
      go_roundg k1
      case measure => have := HK1.out; omega
      case rel => exact ⟨((((rd_T57 z2 zd).f0).toList == a1_0.toList)), (wrap64 (zd + 1)), (by first | rfl | (simp; done) | (simp [*]; done)), (by first | rfl | (simp; done) | (simp [*]; done)), H', ⟨by have := HK1.out; omega⟩, ⟨bE z0⟩, ⟨bE zf⟩, ⟨hW HB⟩⟩
     ·rw [if_neg c9] at H
      exact absurd H (by simp)
   ·rw [if_neg c5] at H
    have z11 : decide (zd < (z2.length : Int)) = false := decide_eq_false c5; clear c5; have H' := Aside0.mk H; clear H; have z5N := zi.out; have z5Y := zj.out; obtain ⟨z1l, z1m, z1o, z1p, z1q, z1r, z1s, z1t, z1u, z1v, z1n, z1V, z1W, z1Y, z1Z, z20, z21, z22, z23, z24, z25, z1X⟩ := bC11 z0
    go_wp2
    repeat (go_quiet (fail); try go_wp2)
    go_loopg [6, 9] k1 (fun kq v6 v9 w' => ∃ (zz : Bool) (ze : Int), v6 = .bool zz ∧ v9 = .int .i64 ze ∧ Aside0 (gatehouselaw08_there.l1 kq zn zz false ze z1 z2 z5 z3 z6 z7 z8 z9 za zb z4 a1_0 a1_1 a1_2 = some r) ∧ Aside0 (kq ≤ k1) ∧ Aside0 (w'.heap[zg]? = some (.cells #[(.slice zA z1.length zL), (.slice zB z2.length zM), (.slice zD z5.length zO), (.slice zE z3.length zP), (.slice zF z6.length zQ), (.slice zG z7.length zR), (.slice zH z8.length zS), (.slice zI z9.length zT), (.slice zJ za.length zU), (.slice zK zb.length zV), (.slice zC z4.length zN)] 34 (0, 0))) ∧ Aside0 (w'.heap[zh]? = some (.cells #[.string a1_0, .string a1_1, .string a1_2] 36 (0, 0))) ∧ Aside0 (Below w.heap.size w w'))
    case atStart => exact ⟨(false), (0), (by first | rfl | (simp; done) | (simp [*]; done)), (by first | rfl | (simp; done) | (simp [*]; done)), H', ⟨Nat.le_refl _⟩, ⟨bE z0⟩, ⟨bE zf⟩, ⟨hW HB⟩⟩
    case round =>
     clear H'
     try clear c1
     try clear p2
     try clear c3
     try clear c5
     try clear z11
     try clear c6
     try clear p6
     try clear c7
     try clear p7
     try clear q7
     try clear hx7
     try clear c9
     try clear z16
     try clear c10
     try clear c13
     try clear z17 z18 z19 z1a z1b z1c z1d z1e z1f z1g z1h z1i z1j z1k z1l z1m z1n z1o z1p z1q z1r z1s z1t z1u z1v z1w z1x z1y z1z z1A z1B z1C z1D z1E z1F z1G z1H z1I z1J z1K z1L z1M z1N z1O z1P z1Q z1R z1S z1T z1U z1V z1W z1X z1Y z1Z z20 z21 z22 z23 z24 z25 z26 z27 z28 z29 z2a z2b z2c z2d z2e z2f z2g
     try clear zZ
     try clear z10
     try clear p2
     try clear p773
     try clear q773
     obtain ⟨zz, ze, rfl, rfl, HA, HK2, z0, zf, HB⟩ := hrel
     cases gk with
     | zero => exact absurd HA.out (by simp [gatehouselaw08_there.l1])
     | succ k2 =>
      have H := HA.out; clear HA
      simp only [gatehouselaw08_there.l1] at H
      by_cases c15 : ze < (z3.length : Int)
      ·rw [if_pos c15] at H
       have z15 : decide (ze < (z3.length : Int)) = true := decide_eq_true c15; clear c15
       by_cases c16 : zz = true
       ·subst c16
        have H1 : (gatehouselaw08_there.l1 k2 zn true false (wrap64 (ze + 1)) z1 z2 z5 z3 z6 z7 z8 z9 za zb z4 a1_0 a1_1 a1_2) = some r := by rw [if_pos rfl] at H; exact H
        clear H; have H := H1; clear H1; have H' := Aside0.mk H; clear H; have z5O := zi.out; have z5Z := zj.out; obtain ⟨z2n, z2o, z2q, z2r, z2s, z2t, z2u, z2v, z2w, z2x, z2p, z2X, z2Y, z30, z31, z32, z33, z34, z35, z36, z37, z2Z⟩ := bC11 z0
        go_wp2
        repeat (go_quiet (fail); try go_wp2)
        go_roundg k2
        case measure => have := HK1.out; have := HK2.out; omega
        case rel => exact ⟨(true), (wrap64 (ze + 1)), (by first | rfl | (simp; done) | (simp [*]; done)), (by first | rfl | (simp; done) | (simp [*]; done)), H', ⟨by have := HK1.out; have := HK2.out; omega⟩, ⟨bE z0⟩, ⟨bE zf⟩, ⟨hW HB⟩⟩
       ·replace c16 := Bool.eq_false_iff.mpr c16
        subst c16
        have H1 : (if 0 ≤ ze then (gatehouselaw08_there.l1 k2 zn ((rdOf ByteArray.empty z3 ze).toList == a1_1.toList) false (wrap64 (ze + 1)) z1 z2 z5 z3 z6 z7 z8 z9 za zb z4 a1_0 a1_1 a1_2) else (none)) = some r := by rw [if_neg (show ¬ (false = true) by decide)] at H; exact H
        clear H; have H := H1; clear H1
        by_cases c19 : 0 ≤ ze
        ·rw [if_pos c19] at H
         have z2l : decide (0 ≤ ze) = true := decide_eq_true c19; clear c19; have H' := Aside0.mk H; clear H; have z5P := zi.out; have z60 := zj.out; obtain ⟨z2y, z2z, z2B, z2C, z2D, z2E, z2F, z2G, z2H, z2I, z2A, z38, z39, z3b, z3c, z3d, z3e, z3f, z3g, z3h, z3i, z3a⟩ := bC11 z0; have p774 : 0 ≤ (ze : Int) := of_decide_eq_true (by first | (with_reducible assumption) | assumption); have q774 : ze < (z3.length : Int) := of_decide_eq_true (by first | (with_reducible assumption) | assumption); obtain ⟨z3R, e774, z12⟩ := Kd.at_string z2k.out ze p774 q774
         cases e774
         replace z12 := hC HB z12; replace p774 := eq_true p774; replace q774 := eq_true q774; obtain ⟨z2J, z2K, z2L, z3j, z3k, z3l⟩ := bC3 zf
         go_wp2
         repeat (go_quiet (fail); try go_wp2)
         go_roundg k2
         case measure => have := HK1.out; have := HK2.out; omega
         case rel => exact ⟨(((rdOf ByteArray.empty z3 ze).toList == a1_1.toList)), (wrap64 (ze + 1)), (by first | rfl | (simp; done) | (simp [*]; done)), (by first | rfl | (simp; done) | (simp [*]; done)), H', ⟨by have := HK1.out; have := HK2.out; omega⟩, ⟨bE z0⟩, ⟨bE zf⟩, ⟨hW HB⟩⟩
        ·rw [if_neg c19] at H
         exact absurd H (by simp)
      ·rw [if_neg c15] at H
       have z15 : decide (ze < (z3.length : Int)) = false := decide_eq_false c15; clear c15; have H' := Aside0.mk H; clear H; have z5Q := zi.out; have z61 := zj.out; obtain ⟨z2M, z2N, z2P, z2Q, z2R, z2S, z2T, z2U, z2V, z2W, z2O, z3m, z3n, z3p, z3q, z3r, z3s, z3t, z3u, z3v, z3w, z3o⟩ := bC11 z0
       go_wp2
       repeat (go_quiet (fail); try go_wp2)
       go_loopg [7, 10] k2 (fun kq v7 v10 w' => ∃ (zW : Bool) (zc : Int), v7 = .bool zW ∧ v10 = .int .i64 zc ∧ Aside0 (gatehouselaw08_there.l2 kq zn zz zW zc z1 z2 z5 z3 z6 z7 z8 z9 za zb z4 a1_0 a1_1 a1_2 = some r) ∧ Aside0 (kq ≤ k2) ∧ Aside0 (w'.heap[zg]? = some (.cells #[(.slice zA z1.length zL), (.slice zB z2.length zM), (.slice zD z5.length zO), (.slice zE z3.length zP), (.slice zF z6.length zQ), (.slice zG z7.length zR), (.slice zH z8.length zS), (.slice zI z9.length zT), (.slice zJ za.length zU), (.slice zK zb.length zV), (.slice zC z4.length zN)] 34 (0, 0))) ∧ Aside0 (w'.heap[zh]? = some (.cells #[.string a1_0, .string a1_1, .string a1_2] 36 (0, 0))) ∧ Aside0 (Below w.heap.size w w'))
       case atStart => exact ⟨(false), (0), (by first | rfl | (simp; done) | (simp [*]; done)), (by first | rfl | (simp; done) | (simp [*]; done)), H', ⟨Nat.le_refl _⟩, ⟨bE z0⟩, ⟨bE zf⟩, ⟨hW HB⟩⟩
       case round =>
        clear H'
        try clear c1
        try clear c2
        try clear p2
        try clear c3
        try clear c5
        try clear z11
        try clear c6
        try clear p6
        try clear c7
        try clear p7
        try clear q7
        try clear hx7
        try clear c9
        try clear z16
        try clear c10
        try clear c13
        try clear c15
        try clear z15
        try clear c16
        try clear c17
        try clear c19
        try clear z2l
        try clear c20
        try clear c23
        try clear z17 z18 z19 z1a z1b z1c z1d z1e z1f z1g z1h z1i z1j z1k z1l z1m z1n z1o z1p z1q z1r z1s z1t z1u z1v z2n z2o z2p z2q z2r z2s z2t z2u z2v z2w z2x z2y z2z z2A z2B z2C z2D z2E z2F z2G z2H z2I z2J z2K z2L z2M z2N z2O z2P z2Q z2R z2S z2T z2U z2V z2W z1w z1x z1y z1z z1A z1B z1C z1D z1E z1F z1G z1H z1I z1J z1K z1L z1M z1N z1O z1P z1Q z1R z1S z1T z1U z1V z1W z1X z1Y z1Z z20 z21 z22 z23 z24 z25 z2X z2Y z2Z z30 z31 z32 z33 z34 z35 z36 z37 z38 z39 z3a z3b z3c z3d z3e z3f z3g z3h z3i z3j z3k z3l z3m z3n z3o z3p z3q z3r z3s z3t z3u z3v z3w z26 z27 z28 z29 z2a z2b z2c z2d z2e z2f z2g
        try clear zZ
        try clear z10
        try clear z12
        try clear p2
        try clear p6
        try clear p7
        try clear p773
        try clear p774
        try clear q7
        try clear q773
        try clear q774
        obtain ⟨zW, zc, rfl, rfl, HA, HK3, z0, zf, HB⟩ := hrel
        cases gk with
        | zero => exact absurd HA.out (by simp [gatehouselaw08_there.l2])
        | succ k3 =>
         have H := HA.out; clear HA
         simp only [gatehouselaw08_there.l2] at H
         by_cases c25 : zc < (z1.length : Int)
         ·rw [if_pos c25] at H
          have z2m : decide (zc < (z1.length : Int)) = true := decide_eq_true c25; clear c25
          by_cases c26 : zW = true
          ·subst c26
           have H1 : (gatehouselaw08_there.l2 k3 zn zz true (wrap64 (zc + 1)) z1 z2 z5 z3 z6 z7 z8 z9 za zb z4 a1_0 a1_1 a1_2) = some r := by rw [if_pos rfl] at H; exact H
           clear H; have H := H1; clear H1; have H' := Aside0.mk H; clear H; have z5R := zi.out; have z62 := zj.out; obtain ⟨z3U, z3V, z3X, z3Y, z3Z, z40, z41, z42, z43, z44, z3W, z4Q, z4R, z4T, z4U, z4V, z4W, z4X, z4Y, z4Z, z50, z4S⟩ := bC11 z0
           go_wp2
           repeat (go_quiet (fail); try go_wp2)
           go_roundg k3
           case measure => have := HK1.out; have := HK2.out; have := HK3.out; omega
           case rel => exact ⟨(true), (wrap64 (zc + 1)), (by first | rfl | (simp; done) | (simp [*]; done)), (by first | rfl | (simp; done) | (simp [*]; done)), H', ⟨by have := HK1.out; have := HK2.out; have := HK3.out; omega⟩, ⟨bE z0⟩, ⟨bE zf⟩, ⟨hW HB⟩⟩
          ·replace c26 := Bool.eq_false_iff.mpr c26
           subst c26
           have H1 : (if 0 ≤ zc then (gatehouselaw08_there.l2 k3 zn zz ((rdOf ByteArray.empty z1 zc).toList == a1_2.toList) (wrap64 (zc + 1)) z1 z2 z5 z3 z6 z7 z8 z9 za zb z4 a1_0 a1_1 a1_2) else (none)) = some r := by rw [if_neg (show ¬ (false = true) by decide)] at H; exact H
           clear H; have H := H1; clear H1
           by_cases c29 : 0 ≤ zc
           ·rw [if_pos c29] at H
            have z3T : decide (0 ≤ zc) = true := decide_eq_true c29; clear c29; have H' := Aside0.mk H; clear H; have z5S := zi.out; have z63 := zj.out; obtain ⟨z45, z46, z48, z49, z4a, z4b, z4c, z4d, z4e, z4f, z47, z51, z52, z54, z55, z56, z57, z58, z59, z5a, z5b, z53⟩ := bC11 z0; have p775 : 0 ≤ (zc : Int) := of_decide_eq_true (by first | (with_reducible assumption) | assumption); have q775 : zc < (z1.length : Int) := of_decide_eq_true (by first | (with_reducible assumption) | assumption); obtain ⟨z3S, e775, z2h⟩ := Kd.at_string z2i.out zc p775 q775
            cases e775
            replace z2h := hC HB z2h; replace p775 := eq_true p775; replace q775 := eq_true q775; obtain ⟨z4g, z4h, z4i, z5c, z5d, z5e⟩ := bC3 zf
            go_wp2
            repeat (go_quiet (fail); try go_wp2)
            go_roundg k3
            case measure => have := HK1.out; have := HK2.out; have := HK3.out; omega
            case rel => exact ⟨(((rdOf ByteArray.empty z1 zc).toList == a1_2.toList)), (wrap64 (zc + 1)), (by first | rfl | (simp; done) | (simp [*]; done)), (by first | rfl | (simp; done) | (simp [*]; done)), H', ⟨by have := HK1.out; have := HK2.out; have := HK3.out; omega⟩, ⟨bE z0⟩, ⟨bE zf⟩, ⟨hW HB⟩⟩
           ·rw [if_neg c29] at H
            exact absurd H (by simp)
         ·rw [if_neg c25] at H
          have z2m : decide (zc < (z1.length : Int)) = false := decide_eq_false c25; clear c25
          by_cases c33 : zn = true
          ·subst c33
           have H1 : (if zz = true then (some zW) else (some false)) = some r := by rw [if_pos rfl] at H; exact H
           clear H; have H := H1; clear H1
           by_cases c34 : zz = true
           ·subst c34
            have H1 : (some zW) = some r := by rw [if_pos rfl] at H; exact H
            clear H; have H := H1; clear H1
            obtain rfl := Option.some.inj H
            have z5T := zi.out; have z64 := zj.out; obtain ⟨z4j, z4k, z4m, z4n, z4o, z4p, z4q, z4r, z4s, z4t, z4l, z5f, z5g, z5i, z5j, z5k, z5l, z5m, z5n, z5o, z5p, z5h⟩ := bC11 z0
            go_wp2
            repeat (go_quiet (fail); try go_wp2)
            go_ret
            exact ⟨by first | rfl | (simp [errW_none, errW_some] <;> rfl) | (simp [*, errW_none, errW_some] <;> rfl), by repeat (first | (with_reducible first | exact HB.out | apply below_alloc | apply pw_below_drewN | apply below_drew1 | refine below_set ?_ zX.out | refine below_set ?_ zY.out) | exact HB.out)⟩
           ·replace c34 := Bool.eq_false_iff.mpr c34
            subst c34
            have H1 : (some false) = some r := by rw [if_neg (show ¬ (false = true) by decide)] at H; exact H
            clear H; have H := H1; clear H1
            obtain rfl := Option.some.inj H
            have z5U := zi.out; have z65 := zj.out; obtain ⟨z4u, z4v, z4x, z4y, z4z, z4A, z4B, z4C, z4D, z4E, z4w, z5q, z5r, z5t, z5u, z5v, z5w, z5x, z5y, z5z, z5A, z5s⟩ := bC11 z0
            go_wp2
            repeat (go_quiet (fail); try go_wp2)
            go_ret
            exact ⟨by first | rfl | (simp [errW_none, errW_some] <;> rfl) | (simp [*, errW_none, errW_some] <;> rfl), by repeat (first | (with_reducible first | exact HB.out | apply below_alloc | apply pw_below_drewN | apply below_drew1 | refine below_set ?_ zX.out | refine below_set ?_ zY.out) | exact HB.out)⟩
          ·replace c33 := Bool.eq_false_iff.mpr c33
           subst c33
           have H1 : (some false) = some r := by rw [if_neg (show ¬ (false = true) by decide)] at H; exact H
           clear H; have H := H1; clear H1
           obtain rfl := Option.some.inj H
           have z5V := zi.out; have z66 := zj.out; obtain ⟨z4F, z4G, z4I, z4J, z4K, z4L, z4M, z4N, z4O, z4P, z4H, z5B, z5C, z5E, z5F, z5G, z5H, z5I, z5J, z5K, z5L, z5D⟩ := bC11 z0
           go_wp2
           repeat (go_quiet (fail); try go_wp2)
           go_ret
           exact ⟨by first | rfl | (simp [errW_none, errW_some] <;> rfl) | (simp [*, errW_none, errW_some] <;> rfl), by repeat (first | (with_reducible first | exact HB.out | apply below_alloc | apply pw_below_drewN | apply below_drew1 | refine below_set ?_ zX.out | refine below_set ?_ zY.out) | exact HB.out)⟩

-- by hand: function 41 (reach_Path)

/-! ### gatehouselaw08_joined: function 42 -/
/-! ### gatehouselaw08_MeanReach: function 15 -/
def gatehouselaw08_MeanReach.T2 : Bool × List (List Nat × List Nat) := (true, [([], []), ([0], [0]), ([], []), ([2], [2]), ([1, 3], [1, 3]), ([], []), ([5], [5]), ([], []), ([7], [7]), ([4, 6, 8, 4], [4, 6, 8]), ([9, 9, 0, 1, 2, 3, 4, 5, 6, 7, 8, 9], [9])])
def gatehouselaw08_MeanReach.B2 : List Nat := [0, 1, 0, 4, 15, 0, 32, 0, 128, 511, 1023]
def gatehouselaw08_MeanReach.T3 : Bool × List (List Nat × List Nat) := (true, [([], []), ([0], [0]), ([], []), ([2], [2]), ([1, 3], [1, 3]), ([], []), ([5], [5]), ([], []), ([7], [7]), ([4, 6, 8, 4], [4, 6, 8]), ([9, 9, 0, 1, 2, 3, 4, 5, 6, 7, 8, 9], [9])])
def gatehouselaw08_MeanReach.B3 : List Nat := [0, 1, 0, 4, 15, 0, 32, 0, 128, 511, 1023]
def gatehouselaw08_MeanReach.T8 : Bool × List (List Nat × List Nat) := (true, [([], []), ([0], [0]), ([], []), ([1, 2], [1, 2]), ([3], [3]), ([4], [4]), ([], []), ([6], [6]), ([5, 7], [5, 7])])
def gatehouselaw08_MeanReach.B8 : List Nat := [0, 1, 0, 7, 15, 31, 0, 64, 255]
/-! ### gatehouseref08_first: function 60 -/
end Go.Proofs.Ytnkdcekddhmjnaa.F
