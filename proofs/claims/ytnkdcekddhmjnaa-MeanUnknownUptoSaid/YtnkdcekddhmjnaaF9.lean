-- Written by a program of this session (mk.py over the kit's print, turned for floats and for contracts given by hand). Not trusted: Lean checks it.
import Derived.Test.YtnkdcekddhmjnaaF0
import Derived.Test.YtnkdcekddhmjnaaF1
import Derived.Test.YtnkdcekddhmjnaaF8
namespace Go.Proofs.Ytnkdcekddhmjnaa.F
open Go.RowKit Go.Proofs.YtnkdcekddhmjnaaW.PrintWords Go.Proofs.YtnkdcekddhmjnaaW.PrintLast Go.Proofs.YtnkdcekddhmjnaaW.PrintMore
attribute [local go_sem] max2_int min2_int max_two min_two max_three min_three max_four min_four   -- for this text's walks alone
attribute [local go_sem] flt_eql flt_neq flt_lss flt_leq flt_gtr flt_geq run_store_float
set_option linter.unusedVariables false
set_option linter.unusedSimpArgs false

attribute [local go_sem high] eqA36
/-! ### gatehouselaw08_only: function 31 -/
/-! ### gatehouselaw08_has: function 32 -/
def gatehouselaw08_has.l0 : Nat → List (S36) → Int → ByteArray → ByteArray → ByteArray → Option (Bool)
 | 0, _, _, _, _, _ => none
 | k + 1, x0, x5, z8, z9, za => if x5 < (x0.length : Int) then (if 0 ≤ x5 then (if ((((rd_T36 x0 x5).f0).toList) == z8.toList && ((((rd_T36 x0 x5).f1).toList) == z9.toList && ((((rd_T36 x0 x5).f2).toList) == za.toList))) = true then (some true) else (gatehouselaw08_has.l0 k x0 (wrap64 (x5 + 1)) z8 z9 za)) else (none)) else (some false)
def gatehouselaw08_has.f (k : Nat) (l0 : List (S36)) (a1_0 : ByteArray) (a1_1 : ByteArray) (a1_2 : ByteArray) : Option (Bool) := gatehouselaw08_has.l0 k l0 0 a1_0 a1_1 a1_2
set_option maxHeartbeats 8000000 in
set_option maxRecDepth 100000 in
theorem gatehouselaw08_has.calls (k : Nat) (A0 : Option Addr) (c0 : Nat) (l0 : List (S36)) (a1_0 : ByteArray) (a1_1 : ByteArray) (a1_2 : ByteArray) (r : Bool) (w : World) (hr0 : Kd.C k36 w A0 l0.length l0) (hc0 : l0.length ≤ c0) (h : gatehouselaw08_has.f k l0 a1_0 a1_1 a1_2 = some r) :
  Calls Try.prog 32 #[.slice A0 l0.length c0, .agg #[.string a1_0, .string a1_1, .string a1_2]] w fun e w' => e = .returned (.bool r) ∧ Below w.heap.size w w' := by
 have hu36 := Try.underlying36; have HR0 := Aside0.mk hr0; have HC0 := Aside0.mk hc0; clear hr0 hc0; have HB := Aside0.mk (Below.refl w.heap.size w); have H : (gatehouselaw08_has.l0 k l0 0 a1_0 a1_1 a1_2) = some r := h; clear h; have H' := Aside0.mk H; clear H
 go_enter Try.func32, Try.ntmps32
 go_wp2_with (first | ((with_reducible refine gate_dst (N := 3) rfl ?_); refine box_event ?hg (N := 3) ?hd (cs := #[.string a1_0, .string a1_1, .string a1_2]) (t := 36) ?hr ?_; (case hd => rfl); (case hg => rfl); (case hr => first | (go_simp; done) | (go_simp; rfl)); intro z1 hg w3 hbox hb; have z2 := Aside0.mk (hbox); have z7 := Aside0.mk ((by rw [hg]; exact (below_size (hW HB)) : w.heap.size ≤ z1)); have z6 := Aside0.mk ((by rw [hg]; exact (below_size (hW HB)) : w.heap.size ≤ z1)); replace HB := hF HB hb; clear hb hbox hg))
 repeat (go_quiet (first | ((with_reducible refine gate_dst (N := 3) rfl ?_); refine box_event ?hg (N := 3) ?hd (cs := #[.string a1_0, .string a1_1, .string a1_2]) (t := 36) ?hr ?_; (case hd => rfl); (case hg => rfl); (case hr => first | (go_simp; done) | (go_simp; rfl)); intro z1 hg w3 hbox hb; have z2 := Aside0.mk (hbox); have z7 := Aside0.mk ((by rw [hg]; exact (below_size (hW HB)) : w.heap.size ≤ z1)); have z6 := Aside0.mk ((by rw [hg]; exact (below_size (hW HB)) : w.heap.size ≤ z1)); replace HB := hF HB hb; clear hb hbox hg)); try go_wp2_with (first | ((with_reducible refine gate_dst (N := 3) rfl ?_); refine box_event ?hg (N := 3) ?hd (cs := #[.string a1_0, .string a1_1, .string a1_2]) (t := 36) ?hr ?_; (case hd => rfl); (case hg => rfl); (case hr => first | (go_simp; done) | (go_simp; rfl)); intro z1 hg w3 hbox hb; have z2 := Aside0.mk (hbox); have z7 := Aside0.mk ((by rw [hg]; exact (below_size (hW HB)) : w.heap.size ≤ z1)); have z6 := Aside0.mk ((by rw [hg]; exact (below_size (hW HB)) : w.heap.size ≤ z1)); replace HB := hF HB hb; clear hb hbox hg)))
 go_loopg [5] k (fun kq v5 w' => ∃ (z0 : Int), v5 = .int .i64 z0 ∧ Aside0 (gatehouselaw08_has.l0 kq l0 z0 a1_0 a1_1 a1_2 = some r) ∧ Aside0 (kq ≤ k) ∧ Aside0 (w'.heap[z1]? = some (.cells #[.string a1_0, .string a1_1, .string a1_2] 36 (0, 0))) ∧ Aside0 (Below w.heap.size w w'))
 case atStart => exact ⟨(0), (by first | rfl | (simp; done) | (simp [*]; done)), H', ⟨Nat.le_refl _⟩, ⟨bE z2⟩, ⟨hW HB⟩⟩
 case round =>
  clear H'
  try clear p2
  try clear c3
  obtain ⟨z0, rfl, HA, HK1, z2, HB⟩ := hrel
  cases gk with
  | zero => exact absurd HA.out (by simp [gatehouselaw08_has.l0])
  | succ k1 =>
   have H := HA.out; clear HA
   simp only [gatehouselaw08_has.l0] at H
   by_cases c4 : z0 < (l0.length : Int)
   ·rw [if_pos c4] at H
    have zc : decide (z0 < (l0.length : Int)) = true := decide_eq_true c4; clear c4
    by_cases c5 : 0 ≤ z0
    ·rw [if_pos c5] at H
     have zg : decide (0 ≤ z0) = true := decide_eq_true c5; clear c5
     by_cases c6 : ((((rd_T36 l0 z0).f0).toList) == a1_0.toList && ((((rd_T36 l0 z0).f1).toList) == a1_1.toList && ((((rd_T36 l0 z0).f2).toList) == a1_2.toList))) = true
     ·rw [if_pos c6] at H
      have zd : ((((rd_T36 l0 z0).f0).toList) == a1_0.toList && ((((rd_T36 l0 z0).f1).toList) == a1_1.toList && ((((rd_T36 l0 z0).f2).toList) == a1_2.toList))) = true := c6
      (try (have ze : decide ((((rd_T36 l0 z0).f0).toList) = a1_0.toList && ((((rd_T36 l0 z0).f1).toList) == a1_1.toList && ((((rd_T36 l0 z0).f2).toList) == a1_2.toList))) = true := by simpa using c6))
      (try (have zf : ((((rd_T36 l0 z0).f0).toList) == a1_0.toList && ((((rd_T36 l0 z0).f1).toList) == a1_1.toList && ((((rd_T36 l0 z0).f2).toList) == a1_2.toList))) = true := by simpa using c6))
      clear c6
      obtain rfl := Option.some.inj H
      have p414 : 0 ≤ (z0 : Int) := of_decide_eq_true (by first | (with_reducible assumption) | assumption); have q414 : z0 < (l0.length : Int) := of_decide_eq_true (by first | (with_reducible assumption) | assumption); obtain ⟨zb, e414, z3, z4, z5⟩ := at_T36 HR0.out z0 p414 q414
      cases e414
      replace z3 := hC HB z3; replace z4 := hC HB z4; replace z5 := hC HB z5; replace p414 := eq_true p414; replace q414 := eq_true q414; obtain ⟨zi, zj, zk, zo, zp, zq⟩ := bC3 z2
      go_wp2
      repeat (go_quiet (fail); try go_wp2)
      go_ret
      exact ⟨by first | rfl | (simp [errW_none, errW_some] <;> rfl) | (simp [*, errW_none, errW_some] <;> rfl), by repeat (first | (with_reducible first | exact HB.out | apply below_alloc | apply pw_below_drewN | apply below_drew1 | refine below_set ?_ z6.out) | exact HB.out)⟩
     ·rw [if_neg c6] at H
      have zd : ((((rd_T36 l0 z0).f0).toList) == a1_0.toList && ((((rd_T36 l0 z0).f1).toList) == a1_1.toList && ((((rd_T36 l0 z0).f2).toList) == a1_2.toList))) = false := by simpa using c6
      (try (have ze : decide ((((rd_T36 l0 z0).f0).toList) = a1_0.toList && ((((rd_T36 l0 z0).f1).toList) == a1_1.toList && ((((rd_T36 l0 z0).f2).toList) == a1_2.toList))) = false := by simpa using c6))
      (try (have zf : ((((rd_T36 l0 z0).f0).toList) == a1_0.toList && ((((rd_T36 l0 z0).f1).toList) == a1_1.toList && ((((rd_T36 l0 z0).f2).toList) == a1_2.toList))) = false := by simpa using c6))
      (try (have zh : ¬ ((((rd_T36 l0 z0).f0).toList) = a1_0.toList && ((((rd_T36 l0 z0).f1).toList) == a1_1.toList && ((((rd_T36 l0 z0).f2).toList) == a1_2.toList))) := by simpa using c6))
      clear c6; have H' := Aside0.mk H; clear H; have p414 : 0 ≤ (z0 : Int) := of_decide_eq_true (by first | (with_reducible assumption) | assumption); have q414 : z0 < (l0.length : Int) := of_decide_eq_true (by first | (with_reducible assumption) | assumption); obtain ⟨zb, e414, z3, z4, z5⟩ := at_T36 HR0.out z0 p414 q414
      cases e414
      replace z3 := hC HB z3; replace z4 := hC HB z4; replace z5 := hC HB z5; replace p414 := eq_true p414; replace q414 := eq_true q414; obtain ⟨zl, zm, zn, zr, zs, zt⟩ := bC3 z2
      go_wp2
      repeat (go_quiet (fail); try go_wp2)
      go_roundg k1
      case measure => have := HK1.out; omega
      case rel => exact ⟨(wrap64 (z0 + 1)), (by first | rfl | (simp; done) | (simp [*]; done)), H', ⟨by have := HK1.out; omega⟩, ⟨bE z2⟩, ⟨hW HB⟩⟩
    ·rw [if_neg c5] at H
     exact absurd H (by simp)
   ·rw [if_neg c4] at H
    have zc : decide (z0 < (l0.length : Int)) = false := decide_eq_false c4; clear c4
    obtain rfl := Option.some.inj H
    go_wp2
    repeat (go_quiet (fail); try go_wp2)
    go_ret
    exact ⟨by first | rfl | (simp [errW_none, errW_some] <;> rfl) | (simp [*, errW_none, errW_some] <;> rfl), by repeat (first | (with_reducible first | exact HB.out | apply below_alloc | apply pw_below_drewN | apply below_drew1 | refine below_set ?_ z6.out) | exact HB.out)⟩

/-! ### gatehouselaw08_equal: function 33 -/
end Go.Proofs.Ytnkdcekddhmjnaa.F
