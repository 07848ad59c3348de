-- Written by a program of this session (mk.py over the kit's print, turned for floats and for contracts given by hand). Not trusted: Lean checks it.
import Derived.Test.YtnkdcekddhmjnaaF0
import Derived.Test.YtnkdcekddhmjnaaF1
namespace Go.Proofs.Ytnkdcekddhmjnaa.F
open Go.RowKit Go.Proofs.YtnkdcekddhmjnaaW.PrintWords Go.Proofs.YtnkdcekddhmjnaaW.PrintLast Go.Proofs.YtnkdcekddhmjnaaW.PrintMore
attribute [local go_sem] max2_int min2_int max_two min_two max_three min_three max_four min_four   -- for this text's walks alone
attribute [local go_sem] flt_eql flt_neq flt_lss flt_leq flt_gtr flt_geq run_store_float
set_option linter.unusedVariables false
set_option linter.unusedSimpArgs false

attribute [local go_sem high] eqA36
-- NOT PRINTED: function 68 (reach_lines)

-- NOT PRINTED: function 69 (reach_Close_string)

-- NOT PRINTED: function 76 (reach_Up)

-- NOT PRINTED: function 80 (api_Pair_80)

-- NOT PRINTED: function 77 (api_Pair_77)

-- NOT PRINTED: function 71 (mean_stand)

-- NOT PRINTED: function 45 (mean_subject)

/-! ### slices_Index_string_string: function 72 -/
def slices_Index_string_string.l0 : Nat → List ByteArray → ByteArray → Int → Int → Option (Int)
 | 0, _, _, _, _ => none
 | k + 1, x0, x1, x7, x8 => if x8 < x7 then (if 0 ≤ x8 then (if x8 < (x0.length : Int) then (if x1.toList = (rdOf ByteArray.empty x0 x8).toList then (some x8) else (slices_Index_string_string.l0 k x0 x1 x7 (wrap64 (x8 + 1)))) else (none)) else (none)) else (some (-1))
def slices_Index_string_string.f (k : Nat) (l0 : List ByteArray) (a1 : ByteArray) : Option (Int) := slices_Index_string_string.l0 k l0 a1 (l0.length : Int) 0
theorem slices_Index_string_string.mono_l : ∀ k, (∀ y0 y1 y2 y3, LeO (slices_Index_string_string.l0 k y0 y1 y2 y3) (slices_Index_string_string.l0 (k + 1) y0 y1 y2 y3))
 | 0 => fun _ _ _ _ r h => by simp [slices_Index_string_string.l0] at h
 | k + 1 => by
  have ih0 := slices_Index_string_string.mono_l k
  ·intro y0 y1 y2 y3
   unfold slices_Index_string_string.l0
   repeat' first
   | (with_reducible exact ih0 _ _ _ _)
   | (with_reducible exact LeO.refl _)
   | (with_reducible exact LeO.none _)
   | (with_reducible refine LeO.ite ?_ ?_)
   | (with_reducible refine LeO.bind ?_ (fun _ => ?_))
   | exact ih0 _ _ _ _
   | exact LeO.none _
   | refine LeO.ite ?_ ?_
   | refine LeO.bind ?_ (fun _ => ?_)
theorem slices_Index_string_string.mono : ∀ a0 a1 k, LeO (slices_Index_string_string.f k a0 a1) (slices_Index_string_string.f (k + 1) a0 a1) := by
 intro a0 a1 k
 have ih0 := slices_Index_string_string.mono_l k
 unfold slices_Index_string_string.f
 repeat' first
   | (with_reducible exact ih0 _ _ _ _)
   | (with_reducible exact LeO.refl _)
   | (with_reducible exact LeO.none _)
   | (with_reducible refine LeO.ite ?_ ?_)
   | (with_reducible refine LeO.bind ?_ (fun _ => ?_))
   | exact ih0 _ _ _ _
   | exact LeO.none _
   | refine LeO.ite ?_ ?_
   | refine LeO.bind ?_ (fun _ => ?_)
set_option maxHeartbeats 8000000 in
set_option maxRecDepth 100000 in
theorem slices_Index_string_string.calls (k : Nat) (A0 : Option Addr) (c0 : Nat) (l0 : List ByteArray) (a1 : ByteArray) (r : Int) (w : World) (hr0 : Kd.C Kd.string w A0 l0.length l0) (hc0 : l0.length ≤ c0) (h : slices_Index_string_string.f k l0 a1 = some r) :
  Calls Try.prog 72 #[.slice A0 l0.length c0, .string a1] w fun e w' => e = .returned (.int .i64 r) ∧ Drawn0 w w' := by
 have HR0 := Aside0.mk hr0; have HC0 := Aside0.mk hc0; clear hr0 hc0; have H : (slices_Index_string_string.l0 k l0 a1 (l0.length : Int) 0) = some r := h; clear h; have H' := Aside0.mk H; clear H
 go_enter Try.func72, Try.ntmps72
 go_wp2
 go_loopg [8] k (fun kq v8 w' => ∃ (z0 : Int), v8 = .int .i64 z0 ∧ Aside0 (slices_Index_string_string.l0 kq l0 a1 (l0.length : Int) z0 = some r) ∧ Aside0 (kq ≤ k) ∧ Drawn0 w w')
 case atStart => exact ⟨(0), (by first | rfl | (simp; done) | (simp [*]; done)), H', ⟨Nat.le_refl _⟩, by repeat (first | exact Drawn0.refl _ | apply Drawn0.step)⟩
 case round =>
  clear H'
  try clear p2
  obtain ⟨z0, rfl, HA, HK1, ⟨m1, rfl⟩⟩ := hrel
  cases gk with
  | zero => exact absurd HA.out (by simp [slices_Index_string_string.l0])
  | succ k1 =>
   have H := HA.out; clear HA
   simp only [slices_Index_string_string.l0] at H
   by_cases c3 : z0 < (l0.length : Int)
   ·rw [if_pos c3] at H
    have z2 : decide (z0 < (l0.length : Int)) = true := decide_eq_true c3; clear c3
    by_cases c4 : 0 ≤ z0
    ·rw [if_pos c4] at H
     have z6 : decide (0 ≤ z0) = true := decide_eq_true c4; clear c4
     by_cases c5 : z0 < (l0.length : Int)
     ·rw [if_pos c5] at H
      have z7 : decide (z0 < (l0.length : Int)) = true := decide_eq_true c5; clear c5
      by_cases c6 : a1.toList = (rdOf ByteArray.empty l0 z0).toList
      ·rw [if_pos c6] at H
       have z3 : (a1.toList == (rdOf ByteArray.empty l0 z0).toList) = true := beq_iff_eq.mpr c6; have z4 : (a1.toList != (rdOf ByteArray.empty l0 z0).toList) = false := bne_eq_false_iff_eq.mpr c6; clear c6
       obtain rfl := Option.some.inj H
       have p263 : 0 ≤ (z0 : Int) := of_decide_eq_true (by first | (with_reducible assumption) | assumption); have q263 : z0 < (l0.length : Int) := of_decide_eq_true (by first | (with_reducible assumption) | assumption); obtain ⟨z1, e263, z5⟩ := Kd.at_string HR0.out z0 p263 q263
       cases e263
       replace p263 := eq_true p263; replace q263 := eq_true q263
       go_wp2
       go_ret
       exact ⟨by first | rfl | (simp; done) | (simp [*]; done), by repeat (first | exact Drawn0.refl _ | apply Drawn0.step)⟩
      ·rw [if_neg c6] at H
       have z3 : (a1.toList == (rdOf ByteArray.empty l0 z0).toList) = false := beq_eq_false_iff_ne.mpr c6; have z4 : (a1.toList != (rdOf ByteArray.empty l0 z0).toList) = true := bne_iff_ne.mpr c6; have H' := Aside0.mk H; clear H; have p263 : 0 ≤ (z0 : Int) := of_decide_eq_true (by first | (with_reducible assumption) | assumption); have q263 : z0 < (l0.length : Int) := of_decide_eq_true (by first | (with_reducible assumption) | assumption); obtain ⟨z1, e263, z5⟩ := Kd.at_string HR0.out z0 p263 q263
       cases e263
       replace p263 := eq_true p263; replace q263 := eq_true q263
       go_wp2
       go_roundg k1
       case measure => have := HK1.out; omega
       case rel => exact ⟨(wrap64 (z0 + 1)), (by first | rfl | (simp; done) | (simp [*]; done)), H', ⟨by have := HK1.out; omega⟩, by repeat (first | exact Drawn0.refl _ | apply Drawn0.step)⟩
     ·rw [if_neg c5] at H
      exact absurd H (by simp)
    ·rw [if_neg c4] at H
     exact absurd H (by simp)
   ·rw [if_neg c3] at H
    have z2 : decide (z0 < (l0.length : Int)) = false := decide_eq_false c3; clear c3
    obtain rfl := Option.some.inj H
    go_wp2
    go_ret
    exact ⟨by first | rfl | (simp; done) | (simp [*]; done), by repeat (first | exact Drawn0.refl _ | apply Drawn0.step)⟩

/-! ### slices_Contains_string_string: function 47 -/
def slices_Contains_string_string.f (k : Nat) (l0 : List ByteArray) (a1 : ByteArray) : Option (Bool) := (slices_Index_string_string.f k l0 a1).bind fun t264 => (some (decide (t264 ≥ 0)))
theorem slices_Contains_string_string.mono : ∀ a0 a1 k, LeO (slices_Contains_string_string.f k a0 a1) (slices_Contains_string_string.f (k + 1) a0 a1) := by
 intro a0 a1 k
 unfold slices_Contains_string_string.f
 repeat' first
   | (with_reducible exact slices_Index_string_string.mono _ _ _)
   | (with_reducible exact LeO.refl _)
   | (with_reducible exact LeO.none _)
   | (with_reducible refine LeO.ite ?_ ?_)
   | (with_reducible refine LeO.bind ?_ (fun _ => ?_))
   | exact slices_Index_string_string.mono _ _ _
   | exact LeO.none _
   | refine LeO.ite ?_ ?_
   | refine LeO.bind ?_ (fun _ => ?_)
set_option maxHeartbeats 8000000 in
set_option maxRecDepth 100000 in
theorem slices_Contains_string_string.calls (k : Nat) (A0 : Option Addr) (c0 : Nat) (l0 : List ByteArray) (a1 : ByteArray) (r : Bool) (w : World) (hr0 : Kd.C Kd.string w A0 l0.length l0) (hc0 : l0.length ≤ c0) (h : slices_Contains_string_string.f k l0 a1 = some r) :
  Calls Try.prog 47 #[.slice A0 l0.length c0, .string a1] w fun e w' => e = .returned (.bool r) ∧ Drawn0 w w' := by
 have HR0 := Aside0.mk hr0; have HC0 := Aside0.mk hc0; clear hr0 hc0; have H : ((slices_Index_string_string.f k l0 a1).bind fun t264 => (some (decide (t264 ≥ 0)))) = some r := h; clear h; replace H := Option.bind_eq_some_iff.mp H; obtain ⟨t264, A30, H⟩ := H; replace H : (some (decide (t264 ≥ 0))) = some r := H; have A3 := Aside0.mk A30; clear A30
 obtain rfl := Option.some.inj H
 go_enter Try.func47, Try.ntmps47
 go_wp2_with (first | ((with_reducible refine gate_callee (f := 72) rfl ?_); refine goesL_ (some 7) rfl rfl Try.func72 (by kernel_rfl) rfl #[.slice A0 l0.length c0, .string a1] rfl (by (try simp only [List.map_toArray, List.map_cons, List.map_nil]); first | done | rfl | (simp only [List.length_drop, List.length_take]; rfl)) ?_; (with_reducible refine (slices_Index_string_string.calls k _ _ l0 a1 t264 _ ?side1 ?side2 A3.out).mono ?_); (case side1 => repeat (first | exact HR0.out | (with_reducible refine Kd.C_alloc ?_ _) | (with_reducible refine Kd.C_drewN ?_ _) | (with_reducible refine Kd.C_drew ?_))); (case side2 => exact HC0.out); rintro e w' ⟨rfl, ⟨nd, rfl⟩⟩; refine ⟨_, rfl, ?_⟩))
 go_ret
 exact ⟨by first | rfl | (simp; done) | (simp [*]; done), by repeat (first | exact Drawn0.refl _ | apply Drawn0.step)⟩

-- NOT PRINTED: function 46 (mean_object)

/-! ### mean_names: function 48 -/
def mean_names.f (k : Nat) (a0_0 : Bool) (a0_1 : ByteArray) (a0_2 : ByteArray) (z0 : List ByteArray) (a0_4 : Int) (a0_5 : Nat) (a1 : ByteArray) : Option (Bool) := if (z0.length : Int) = 0 then (some true) else ((slices_Contains_string_string.f k z0 a1).bind fun t266 => (some t266))
set_option maxHeartbeats 8000000 in
set_option maxRecDepth 100000 in
theorem mean_names.calls (k : Nat) (a0_0 : Bool) (a0_1 : ByteArray) (a0_2 : ByteArray) (z2 : Option Addr) (z3 : Nat) (z0 : List ByteArray) (a0_4 : Int) (a0_5 : Nat) (a1 : ByteArray) (r : Bool) (w : World) (hr0_3 : Kd.C Kd.string w z2 z0.length z0) (hc0_3 : z0.length ≤ z3) (h : mean_names.f k a0_0 a0_1 a0_2 z0 a0_4 a0_5 a1 = some r) :
  Calls Try.prog 48 #[.agg #[.bool a0_0, .string a0_1, .string a0_2, .slice z2 z0.length z3, .int .i8 a0_4, .float .f64 a0_5], .string a1] w fun e w' => e = .returned (.bool r) ∧ Below w.heap.size w w' := by
 have hu27 := Try.underlying27; have z8 := Aside0.mk hr0_3; have z7 := Aside0.mk hc0_3; clear hr0_3 hc0_3; have HB := Aside0.mk (Below.refl w.heap.size w); have H : (if (z0.length : Int) = 0 then (some true) else ((slices_Contains_string_string.f k z0 a1).bind fun t266 => (some t266))) = some r := h; clear h
 by_cases c3 : (z0.length : Int) = 0
 ·rw [if_pos c3] at H
  have z9 : ((z0.length : Int) == 0) = true := beq_iff_eq.mpr c3; have za : ((z0.length : Int) != 0) = false := bne_eq_false_iff_eq.mpr c3; clear c3
  obtain rfl := Option.some.inj H
  go_enter Try.func48, Try.ntmps48
  go_wp2_with (first | ((with_reducible refine gate_dst (N := 2) rfl ?_); refine box_event ?hg (N := 2) ?hd (cs := #[.bool a0_0, .string a0_1, .string a0_2, .slice z2 z0.length z3, .int .i8 a0_4, .float .f64 a0_5]) (t := 27) ?hr ?_; (case hd => rfl); (case hg => rfl); (case hr => first | (go_simp; done) | (go_simp; rfl)); intro z1 hg w4 hbox hb; have z4 := Aside0.mk (hbox); have z6 := Aside0.mk ((by rw [hg]; exact (below_size (hW HB)) : w.heap.size ≤ z1)); have z5 := Aside0.mk ((by rw [hg]; exact (below_size (hW HB)) : w.heap.size ≤ z1)); replace HB := hF HB hb; clear hb hbox hg; obtain ⟨zc, zd, ze, zf, zg, zh, zo, zp, zq, zr, zs, zt⟩ := bC6 z4))
  go_ret
  exact ⟨by first | rfl | (simp [errW_none, errW_some] <;> rfl) | (simp [*, errW_none, errW_some] <;> rfl), by repeat (first | (with_reducible first | exact HB.out | apply below_alloc | apply pw_below_drewN | apply below_drew1 | refine below_set ?_ z5.out) | exact HB.out)⟩
 ·rw [if_neg c3] at H
  have z9 : ((z0.length : Int) == 0) = false := beq_eq_false_iff_ne.mpr c3; have za : ((z0.length : Int) != 0) = true := bne_iff_ne.mpr c3
  have zb : ¬ (z0 = []) := fun h_ => c3 (by rw [h_]; rfl)
  replace H := Option.bind_eq_some_iff.mp H; obtain ⟨t266, A60, H⟩ := H; replace H : (some t266) = some r := H; have A6 := Aside0.mk A60; clear A60
  obtain rfl := Option.some.inj H
  go_enter Try.func48, Try.ntmps48
  go_wp2_with (first | ((with_reducible refine gate_dst (N := 2) rfl ?_); refine box_event ?hg (N := 2) ?hd (cs := #[.bool a0_0, .string a0_1, .string a0_2, .slice z2 z0.length z3, .int .i8 a0_4, .float .f64 a0_5]) (t := 27) ?hr ?_; (case hd => rfl); (case hg => rfl); (case hr => first | (go_simp; done) | (go_simp; rfl)); intro z1 hg w7 hbox hb; have z4 := Aside0.mk (hbox); have z6 := Aside0.mk ((by rw [hg]; exact (below_size (hW HB)) : w.heap.size ≤ z1)); have z5 := Aside0.mk ((by rw [hg]; exact (below_size (hW HB)) : w.heap.size ≤ z1)); replace HB := hF HB hb; clear hb hbox hg; obtain ⟨zi, zj, zk, zl, zm, zn, zu, zv, zw, zx, zy, zz⟩ := bC6 z4) | (go_at_call 47; (with_reducible refine (slices_Contains_string_string.calls k _ _ z0 a1 t266 _ ?side1 ?side2 A6.out).mono ?_); (case side1 => exact cE (Kd.C_below z8.out HB.out)); (case side2 => exact z7.out); rintro e w' ⟨rfl, ⟨nd, rfl⟩⟩))
  go_ret
  exact ⟨by first | rfl | (simp [errW_none, errW_some] <;> rfl) | (simp [*, errW_none, errW_some] <;> rfl), by repeat (first | (with_reducible first | exact HB.out | apply below_alloc | apply pw_below_drewN | apply below_drew1 | refine below_set ?_ z5.out) | exact HB.out)⟩

/-! ### api_Triple_78: function 78 -/
def api_Triple_78.l0 : Nat → List (S36) → Int → Int → ByteArray → ByteArray → ByteArray → Option (Int)
 | 0, _, _, _, _, _, _ => none
 | k + 1, x0, x7, x8, z8, z9, za => if x8 < x7 then (if 0 ≤ x8 then (if x8 < (x0.length : Int) then (if (z8.toList == (((rd_T36 x0 x8).f0).toList) && (z9.toList == (((rd_T36 x0 x8).f1).toList) && (za.toList == (((rd_T36 x0 x8).f2).toList)))) = true then (some x8) else (api_Triple_78.l0 k x0 x7 (wrap64 (x8 + 1)) z8 z9 za)) else (none)) else (none)) else (some (-1))
def api_Triple_78.f (k : Nat) (l0 : List (S36)) (a1_0 : ByteArray) (a1_1 : ByteArray) (a1_2 : ByteArray) : Option (Int) := api_Triple_78.l0 k l0 (l0.length : Int) 0 a1_0 a1_1 a1_2
set_option maxHeartbeats 8000000 in
set_option maxRecDepth 100000 in
theorem api_Triple_78.calls (k : Nat) (A0 : Option Addr) (c0 : Nat) (l0 : List (S36)) (a1_0 : ByteArray) (a1_1 : ByteArray) (a1_2 : ByteArray) (r : Int) (w : World) (hr0 : Kd.C k36 w A0 l0.length l0) (hc0 : l0.length ≤ c0) (h : api_Triple_78.f k l0 a1_0 a1_1 a1_2 = some r) :
  Calls Try.prog 78 #[.slice A0 l0.length c0, .agg #[.string a1_0, .string a1_1, .string a1_2]] w fun e w' => e = .returned (.int .i64 r) ∧ Below w.heap.size w w' := by
 have hu36 := Try.underlying36; have HR0 := Aside0.mk hr0; have HC0 := Aside0.mk hc0; clear hr0 hc0; have HB := Aside0.mk (Below.refl w.heap.size w); have H : (api_Triple_78.l0 k l0 (l0.length : Int) 0 a1_0 a1_1 a1_2) = some r := h; clear h; have H' := Aside0.mk H; clear H
 go_enter Try.func78, Try.ntmps78
 go_wp2_with (first | ((with_reducible refine gate_dst (N := 3) rfl ?_); refine box_event ?hg (N := 3) ?hd (cs := #[.string a1_0, .string a1_1, .string a1_2]) (t := 36) ?hr ?_; (case hd => rfl); (case hg => rfl); (case hr => first | (go_simp; done) | (go_simp; rfl)); intro z1 hg w3 hbox hb; have z2 := Aside0.mk (hbox); have z7 := Aside0.mk ((by rw [hg]; exact (below_size (hW HB)) : w.heap.size ≤ z1)); have z6 := Aside0.mk ((by rw [hg]; exact (below_size (hW HB)) : w.heap.size ≤ z1)); replace HB := hF HB hb; clear hb hbox hg))
 repeat (go_quiet (first | ((with_reducible refine gate_dst (N := 3) rfl ?_); refine box_event ?hg (N := 3) ?hd (cs := #[.string a1_0, .string a1_1, .string a1_2]) (t := 36) ?hr ?_; (case hd => rfl); (case hg => rfl); (case hr => first | (go_simp; done) | (go_simp; rfl)); intro z1 hg w3 hbox hb; have z2 := Aside0.mk (hbox); have z7 := Aside0.mk ((by rw [hg]; exact (below_size (hW HB)) : w.heap.size ≤ z1)); have z6 := Aside0.mk ((by rw [hg]; exact (below_size (hW HB)) : w.heap.size ≤ z1)); replace HB := hF HB hb; clear hb hbox hg)); try go_wp2_with (first | ((with_reducible refine gate_dst (N := 3) rfl ?_); refine box_event ?hg (N := 3) ?hd (cs := #[.string a1_0, .string a1_1, .string a1_2]) (t := 36) ?hr ?_; (case hd => rfl); (case hg => rfl); (case hr => first | (go_simp; done) | (go_simp; rfl)); intro z1 hg w3 hbox hb; have z2 := Aside0.mk (hbox); have z7 := Aside0.mk ((by rw [hg]; exact (below_size (hW HB)) : w.heap.size ≤ z1)); have z6 := Aside0.mk ((by rw [hg]; exact (below_size (hW HB)) : w.heap.size ≤ z1)); replace HB := hF HB hb; clear hb hbox hg)))
 go_loopg [8] k (fun kq v8 w' => ∃ (z0 : Int), v8 = .int .i64 z0 ∧ Aside0 (api_Triple_78.l0 kq l0 (l0.length : Int) z0 a1_0 a1_1 a1_2 = some r) ∧ Aside0 (kq ≤ k) ∧ Aside0 (w'.heap[z1]? = some (.cells #[.string a1_0, .string a1_1, .string a1_2] 36 (0, 0))) ∧ Aside0 (Below w.heap.size w w'))
 case atStart => exact ⟨(0), (by first | rfl | (simp; done) | (simp [*]; done)), H', ⟨Nat.le_refl _⟩, ⟨bE z2⟩, ⟨hW HB⟩⟩
 case round =>
  clear H'
  try clear p2
  obtain ⟨z0, rfl, HA, HK1, z2, HB⟩ := hrel
  cases gk with
  | zero => exact absurd HA.out (by simp [api_Triple_78.l0])
  | succ k1 =>
   have H := HA.out; clear HA
   simp only [api_Triple_78.l0] at H
   by_cases c4 : z0 < (l0.length : Int)
   ·rw [if_pos c4] at H
    have zc : decide (z0 < (l0.length : Int)) = true := decide_eq_true c4; clear c4
    by_cases c5 : 0 ≤ z0
    ·rw [if_pos c5] at H
     have zg : decide (0 ≤ z0) = true := decide_eq_true c5; clear c5
     by_cases c6 : z0 < (l0.length : Int)
     ·rw [if_pos c6] at H
      have zh : decide (z0 < (l0.length : Int)) = true := decide_eq_true c6; clear c6
      by_cases c7 : (a1_0.toList == (((rd_T36 l0 z0).f0).toList) && (a1_1.toList == (((rd_T36 l0 z0).f1).toList) && (a1_2.toList == (((rd_T36 l0 z0).f2).toList)))) = true
      ·rw [if_pos c7] at H
       have zd : (a1_0.toList == (((rd_T36 l0 z0).f0).toList) && (a1_1.toList == (((rd_T36 l0 z0).f1).toList) && (a1_2.toList == (((rd_T36 l0 z0).f2).toList)))) = true := c7
       (try (have ze : decide (a1_0.toList = (((rd_T36 l0 z0).f0).toList) && (a1_1.toList == (((rd_T36 l0 z0).f1).toList) && (a1_2.toList == (((rd_T36 l0 z0).f2).toList)))) = true := by simpa using c7))
       (try (have zf : (a1_0.toList == (((rd_T36 l0 z0).f0).toList) && (a1_1.toList == (((rd_T36 l0 z0).f1).toList) && (a1_2.toList == (((rd_T36 l0 z0).f2).toList)))) = true := by simpa using c7))
       clear c7
       obtain rfl := Option.some.inj H
       obtain ⟨zj, zk, zl, zp, zq, zr⟩ := bC3 z2; have p268 : 0 ≤ (z0 : Int) := of_decide_eq_true (by first | (with_reducible assumption) | assumption); have q268 : z0 < (l0.length : Int) := of_decide_eq_true (by first | (with_reducible assumption) | assumption); obtain ⟨zb, e268, z3, z4, z5⟩ := at_T36 HR0.out z0 p268 q268
       cases e268
       replace z3 := hC HB z3; replace z4 := hC HB z4; replace z5 := hC HB z5; replace p268 := eq_true p268; replace q268 := eq_true q268
       go_wp2
       repeat (go_quiet (fail); try go_wp2)
       go_ret
       exact ⟨by first | rfl | (simp [errW_none, errW_some] <;> rfl) | (simp [*, errW_none, errW_some] <;> rfl), by repeat (first | (with_reducible first | exact HB.out | apply below_alloc | apply pw_below_drewN | apply below_drew1 | refine below_set ?_ z6.out) | exact HB.out)⟩
      ·rw [if_neg c7] at H
       have zd : (a1_0.toList == (((rd_T36 l0 z0).f0).toList) && (a1_1.toList == (((rd_T36 l0 z0).f1).toList) && (a1_2.toList == (((rd_T36 l0 z0).f2).toList)))) = false := by simpa using c7
       (try (have ze : decide (a1_0.toList = (((rd_T36 l0 z0).f0).toList) && (a1_1.toList == (((rd_T36 l0 z0).f1).toList) && (a1_2.toList == (((rd_T36 l0 z0).f2).toList)))) = false := by simpa using c7))
       (try (have zf : (a1_0.toList == (((rd_T36 l0 z0).f0).toList) && (a1_1.toList == (((rd_T36 l0 z0).f1).toList) && (a1_2.toList == (((rd_T36 l0 z0).f2).toList)))) = false := by simpa using c7))
       (try (have zi : ¬ (a1_0.toList = (((rd_T36 l0 z0).f0).toList) && (a1_1.toList == (((rd_T36 l0 z0).f1).toList) && (a1_2.toList == (((rd_T36 l0 z0).f2).toList)))) := by simpa using c7))
       clear c7; have H' := Aside0.mk H; clear H; obtain ⟨zm, zn, zo, zs, zt, zu⟩ := bC3 z2; have p268 : 0 ≤ (z0 : Int) := of_decide_eq_true (by first | (with_reducible assumption) | assumption); have q268 : z0 < (l0.length : Int) := of_decide_eq_true (by first | (with_reducible assumption) | assumption); obtain ⟨zb, e268, z3, z4, z5⟩ := at_T36 HR0.out z0 p268 q268
       cases e268
       replace z3 := hC HB z3; replace z4 := hC HB z4; replace z5 := hC HB z5; replace p268 := eq_true p268; replace q268 := eq_true q268
       go_wp2
       repeat (go_quiet (fail); try go_wp2)
       go_roundg k1
       case measure => have := HK1.out; omega
       case rel => exact ⟨(wrap64 (z0 + 1)), (by first | rfl | (simp; done) | (simp [*]; done)), H', ⟨by have := HK1.out; omega⟩, ⟨bE z2⟩, ⟨hW HB⟩⟩
     ·rw [if_neg c6] at H
      exact absurd H (by simp)
    ·rw [if_neg c5] at H
     exact absurd H (by simp)
   ·rw [if_neg c4] at H
    have zc : decide (z0 < (l0.length : Int)) = false := decide_eq_false c4; clear c4
    obtain rfl := Option.some.inj H
    go_wp2
    repeat (go_quiet (fail); try go_wp2)
    go_ret
    exact ⟨by first | rfl | (simp [errW_none, errW_some] <;> rfl) | (simp [*, errW_none, errW_some] <;> rfl), by repeat (first | (with_reducible first | exact HB.out | apply below_alloc | apply pw_below_drewN | apply below_drew1 | refine below_set ?_ z6.out) | exact HB.out)⟩

/-! ### api_Triple_74: function 74 -/
def api_Triple_74.f (k : Nat) (l0 : List (S36)) (a1_0 : ByteArray) (a1_1 : ByteArray) (a1_2 : ByteArray) : Option (Bool) := (api_Triple_78.f k l0 a1_0 a1_1 a1_2).bind fun t270 => (some (decide (t270 ≥ 0)))
set_option maxHeartbeats 8000000 in
set_option maxRecDepth 100000 in
theorem api_Triple_74.calls (k : Nat) (A0 : Option Addr) (c0 : Nat) (l0 : List (S36)) (a1_0 : ByteArray) (a1_1 : ByteArray) (a1_2 : ByteArray) (r : Bool) (w : World) (hr0 : Kd.C k36 w A0 l0.length l0) (hc0 : l0.length ≤ c0) (h : api_Triple_74.f k l0 a1_0 a1_1 a1_2 = some r) :
  Calls Try.prog 74 #[.slice A0 l0.length c0, .agg #[.string a1_0, .string a1_1, .string a1_2]] w fun e w' => e = .returned (.bool r) ∧ Below w.heap.size w w' := by
 have hu36 := Try.underlying36; have HR0 := Aside0.mk hr0; have HC0 := Aside0.mk hc0; clear hr0 hc0; have HB := Aside0.mk (Below.refl w.heap.size w); have H : ((api_Triple_78.f k l0 a1_0 a1_1 a1_2).bind fun t270 => (some (decide (t270 ≥ 0)))) = some r := h; clear h; replace H := Option.bind_eq_some_iff.mp H; obtain ⟨t270, A30, H⟩ := H; replace H : (some (decide (t270 ≥ 0))) = some r := H; have A3 := Aside0.mk A30; clear A30
 obtain rfl := Option.some.inj H
 go_enter Try.func74, Try.ntmps74
 go_wp2_with (first | ((with_reducible refine gate_dst (N := 3) rfl ?_); refine box_event ?hg (N := 3) ?hd (cs := #[.string a1_0, .string a1_1, .string a1_2]) (t := 36) ?hr ?_; (case hd => rfl); (case hg => rfl); (case hr => first | (go_simp; done) | (go_simp; rfl)); intro z1 hg w4 hbox hb; have z0 := Aside0.mk (hbox); have z3 := Aside0.mk ((by rw [hg]; exact (below_size (hW HB)) : w.heap.size ≤ z1)); have z2 := Aside0.mk ((by rw [hg]; exact (below_size (hW HB)) : w.heap.size ≤ z1)); replace HB := hF HB hb; clear hb hbox hg; obtain ⟨z4, z5, z6, z7, z8, z9⟩ := bC3 z0) | ((with_reducible refine gate_callee (f := 78) rfl ?_); refine goesL_ (some 7) rfl rfl Try.func78 (by kernel_rfl) rfl #[.slice A0 l0.length c0, .agg #[.string a1_0, .string a1_1, .string a1_2]] rfl (by (try simp only [List.map_toArray, List.map_cons, List.map_nil]); first | done | rfl | (simp only [List.length_drop, List.length_take]; rfl)) ?_; (with_reducible refine (api_Triple_78.calls k _ _ l0 a1_0 a1_1 a1_2 t270 _ ?side1 ?side2 A3.out).mono ?_); (case side1 => exact cE (Kd.C_below HR0.out HB.out)); (case side2 => exact HC0.out); rintro e w6 ⟨rfl, hb⟩; refine ⟨_, rfl, ?_⟩; replace z0 := kF z0 hb; replace HB := hF HB hb; (try clear hb); (try clear hb2); (try clear hk); (try clear hi)))
 go_ret
 exact ⟨by first | rfl | (simp [errW_none, errW_some] <;> rfl) | (simp [*, errW_none, errW_some] <;> rfl), by repeat (first | (with_reducible first | exact HB.out | apply below_alloc | apply pw_below_drewN | apply below_drew1 | refine below_set ?_ z2.out) | exact HB.out)⟩

-- NOT PRINTED: function 57 (mean_allows)

/-! ### mean_Passes: function 16 -/
def mean_Passes.f (a0_0 : Bool) (a0_1 : ByteArray) (a0_2 : ByteArray) (z1 : List ByteArray) (a0_4 : Int) (a0_5 : Nat) (a1 : Nat) : Option (Bool) := if a0_4 = 0 then (some true) else (if a0_4 = 1 then (some (fge a1 a0_5)) else (if a0_4 = 2 then (some (flt a1 a0_5)) else (some false)))
set_option maxHeartbeats 8000000 in
set_option maxRecDepth 100000 in
theorem mean_Passes.calls (a0_0 : Bool) (a0_1 : ByteArray) (a0_2 : ByteArray) (z4 : Option Addr) (z5 : Nat) (z1 : List ByteArray) (a0_4 : Int) (a0_5 : Nat) (a1 : Nat) (r : Bool) (w : World) (hr0_3 : Kd.C Kd.string w z4 z1.length z1) (hc0_3 : z1.length ≤ z5) (h : mean_Passes.f a0_0 a0_1 a0_2 z1 a0_4 a0_5 a1 = some r) :
  Calls Try.prog 16 #[.agg #[.bool a0_0, .string a0_1, .string a0_2, .slice z4 z1.length z5, .int .i8 a0_4, .float .f64 a0_5], .float .f64 a1] w fun e w' => e = .returned (.bool r) ∧ Below w.heap.size w w' := by
 have hu27 := Try.underlying27; have ze := Aside0.mk hr0_3; have zd := Aside0.mk hc0_3; clear hr0_3 hc0_3; have HB := Aside0.mk (Below.refl w.heap.size w); have H : (if a0_4 = 0 then (some true) else (if a0_4 = 1 then (some (fge a1 a0_5)) else (if a0_4 = 2 then (some (flt a1 a0_5)) else (some false)))) = some r := h; clear h
 by_cases c3 : a0_4 = 0
 ·rw [if_pos c3] at H
  have z7 : (a0_4 == 0) = true := beq_iff_eq.mpr c3; have z8 : (a0_4 != 0) = false := bne_eq_false_iff_eq.mpr c3; clear c3
  obtain rfl := Option.some.inj H
  go_enter Try.func16, Try.ntmps16
  go_wp2_with (first | ((with_reducible refine gate_dst (N := 2) rfl ?_); refine box_event ?hg (N := 2) ?hd (cs := #[.bool a0_0, .string a0_1, .string a0_2, .slice z4 z1.length z5, .int .i8 a0_4, .float .f64 a0_5]) (t := 27) ?hr ?_; (case hd => rfl); (case hg => rfl); (case hr => first | (go_simp; done) | (go_simp; rfl)); intro z0 hg w4 hbox hb; have z2 := Aside0.mk (hbox); have z6 := Aside0.mk ((by rw [hg]; exact (below_size (hW HB)) : w.heap.size ≤ z0)); have z3 := Aside0.mk ((by rw [hg]; exact (below_size (hW HB)) : w.heap.size ≤ z0)); replace HB := hF HB hb; clear hb hbox hg; obtain ⟨zr, zs, zt, zu, zv, zw, zP, zQ, zR, zS, zT, zU⟩ := bC6 z2))
  go_ret
  exact ⟨by first | rfl | (simp [errW_none, errW_some] <;> rfl) | (simp [*, errW_none, errW_some] <;> rfl), by repeat (first | (with_reducible first | exact HB.out | apply below_alloc | apply pw_below_drewN | apply below_drew1 | refine below_set ?_ z3.out) | exact HB.out)⟩
 ·rw [if_neg c3] at H
  have z7 : (a0_4 == 0) = false := beq_eq_false_iff_ne.mpr c3; have z8 : (a0_4 != 0) = true := bne_iff_ne.mpr c3
  by_cases c6 : a0_4 = 1
  ·rw [if_pos c6] at H
   have z9 : (a0_4 == 1) = true := beq_iff_eq.mpr c6; have za : (a0_4 != 1) = false := bne_eq_false_iff_eq.mpr c6; clear c6
   obtain rfl := Option.some.inj H
   go_enter Try.func16, Try.ntmps16
   go_wp2_with (first | ((with_reducible refine gate_dst (N := 2) rfl ?_); refine box_event ?hg (N := 2) ?hd (cs := #[.bool a0_0, .string a0_1, .string a0_2, .slice z4 z1.length z5, .int .i8 a0_4, .float .f64 a0_5]) (t := 27) ?hr ?_; (case hd => rfl); (case hg => rfl); (case hr => first | (go_simp; done) | (go_simp; rfl)); intro z0 hg w7 hbox hb; have z2 := Aside0.mk (hbox); have z6 := Aside0.mk ((by rw [hg]; exact (below_size (hW HB)) : w.heap.size ≤ z0)); have z3 := Aside0.mk ((by rw [hg]; exact (below_size (hW HB)) : w.heap.size ≤ z0)); replace HB := hF HB hb; clear hb hbox hg; obtain ⟨zx, zy, zz, zA, zB, zC, zV, zW, zX, zY, zZ, z10⟩ := bC6 z2))
   go_ret
   exact ⟨by first | rfl | (simp [errW_none, errW_some] <;> rfl) | (simp [*, errW_none, errW_some] <;> rfl), by repeat (first | (with_reducible first | exact HB.out | apply below_alloc | apply pw_below_drewN | apply below_drew1 | refine below_set ?_ z3.out) | exact HB.out)⟩
  ·rw [if_neg c6] at H
   have z9 : (a0_4 == 1) = false := beq_eq_false_iff_ne.mpr c6; have za : (a0_4 != 1) = true := bne_iff_ne.mpr c6
   by_cases c9 : a0_4 = 2
   ·rw [if_pos c9] at H
    have zb : (a0_4 == 2) = true := beq_iff_eq.mpr c9; have zc : (a0_4 != 2) = false := bne_eq_false_iff_eq.mpr c9; clear c9
    obtain rfl := Option.some.inj H
    go_enter Try.func16, Try.ntmps16
    go_wp2_with (first | ((with_reducible refine gate_dst (N := 2) rfl ?_); refine box_event ?hg (N := 2) ?hd (cs := #[.bool a0_0, .string a0_1, .string a0_2, .slice z4 z1.length z5, .int .i8 a0_4, .float .f64 a0_5]) (t := 27) ?hr ?_; (case hd => rfl); (case hg => rfl); (case hr => first | (go_simp; done) | (go_simp; rfl)); intro z0 hg w10 hbox hb; have z2 := Aside0.mk (hbox); have z6 := Aside0.mk ((by rw [hg]; exact (below_size (hW HB)) : w.heap.size ≤ z0)); have z3 := Aside0.mk ((by rw [hg]; exact (below_size (hW HB)) : w.heap.size ≤ z0)); replace HB := hF HB hb; clear hb hbox hg; obtain ⟨zf, zg, zh, zi, zj, zk, zD, zE, zF, zG, zH, zI⟩ := bC6 z2))
    go_ret
    exact ⟨by first | rfl | (simp [errW_none, errW_some] <;> rfl) | (simp [*, errW_none, errW_some] <;> rfl), by repeat (first | (with_reducible first | exact HB.out | apply below_alloc | apply pw_below_drewN | apply below_drew1 | refine below_set ?_ z3.out) | exact HB.out)⟩
   ·rw [if_neg c9] at H
    have zb : (a0_4 == 2) = false := beq_eq_false_iff_ne.mpr c9; have zc : (a0_4 != 2) = true := bne_iff_ne.mpr c9
    obtain rfl := Option.some.inj H
    go_enter Try.func16, Try.ntmps16
    go_wp2_with (first | ((with_reducible refine gate_dst (N := 2) rfl ?_); refine box_event ?hg (N := 2) ?hd (cs := #[.bool a0_0, .string a0_1, .string a0_2, .slice z4 z1.length z5, .int .i8 a0_4, .float .f64 a0_5]) (t := 27) ?hr ?_; (case hd => rfl); (case hg => rfl); (case hr => first | (go_simp; done) | (go_simp; rfl)); intro z0 hg w12 hbox hb; have z2 := Aside0.mk (hbox); have z6 := Aside0.mk ((by rw [hg]; exact (below_size (hW HB)) : w.heap.size ≤ z0)); have z3 := Aside0.mk ((by rw [hg]; exact (below_size (hW HB)) : w.heap.size ≤ z0)); replace HB := hF HB hb; clear hb hbox hg; obtain ⟨zl, zm, zn, zo, zp, zq, zJ, zK, zL, zM, zN, zO⟩ := bC6 z2))
    go_ret
    exact ⟨by first | rfl | (simp [errW_none, errW_some] <;> rfl) | (simp [*, errW_none, errW_some] <;> rfl), by repeat (first | (with_reducible first | exact HB.out | apply below_alloc | apply pw_below_drewN | apply below_drew1 | refine below_set ?_ z3.out) | exact HB.out)⟩

-- NOT PRINTED: function 73 (mean_side_has)

-- NOT PRINTED: function 49 (mean_speaks)

-- NOT PRINTED: function 58 (mean_about)

-- by hand: function 22 (mean_Allows)

/-! ### gatehouseref08_Trust: function 50 -/
/-! ### gatehouseref08_in: function 51 -/
/-! ### gatehouseref08_Passes: function 17 -/
/-! ### gatehouseref08_about: function 52 -/
/-! ### gatehouseref08_Ups: function 53 -/
/-! ### gatehouseref08_Matches: function 20 -/
def gatehouseref08_Matches.T6 : Bool × List (List Nat × List Nat) := (true, [([], []), ([], []), ([1], [1]), ([], []), ([3], [3]), ([], []), ([5], [5]), ([2, 4, 6], [2, 4, 6]), ([], []), ([], []), ([9], [9]), ([], []), ([11], [11]), ([], []), ([13], [13]), ([10, 12, 14, 7], [10, 12, 14]), ([0, 7, 8, 15, 15], [0, 7, 8, 15]), ([16, 16, 0, 1, 2, 3, 4, 5, 6, 7, 8, 9, 10, 11, 12, 13, 14, 15, 16], [16])])
def gatehouseref08_Matches.B6 : List Nat := [0, 0, 2, 0, 8, 0, 32, 126, 0, 0, 512, 0, 2048, 0, 8192, 32510, 65535, 131071]
end Go.Proofs.Ytnkdcekddhmjnaa.F
