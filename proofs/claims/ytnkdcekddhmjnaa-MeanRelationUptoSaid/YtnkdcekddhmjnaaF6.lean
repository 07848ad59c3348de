import Derived.Test.YtnkdcekddhmjnaaF0
import Derived.Test.YtnkdcekddhmjnaaF1
-- Written by a program of this session (mk.py over the kit's print, turned for floats and for contracts given by hand). Not trusted: Lean checks it.
namespace Go.Proofs.Ytnkdcekddhmjnaa.F
open Go.RowKit Go.Proofs.YtnkdcekddhmjnaaW.PrintWords Go.Proofs.YtnkdcekddhmjnaaW.PrintLast Go.Proofs.YtnkdcekddhmjnaaW.PrintMore
attribute [local go_sem] max2_int min2_int max_two min_two max_three min_three max_four min_four   -- for this text's walks alone
attribute [local go_sem] flt_eql flt_neq flt_lss flt_leq flt_gtr flt_geq run_store_float
set_option linter.unusedVariables false
set_option linter.unusedSimpArgs false

attribute [local go_sem high] eqA36
-- NOT PRINTED: function 68 (reach_lines)

-- NOT PRINTED: function 69 (reach_Close_string)

-- NOT PRINTED: function 76 (reach_Up)

-- NOT PRINTED: function 80 (api_Pair_80)

-- NOT PRINTED: function 77 (api_Pair_77)

-- NOT PRINTED: function 71 (mean_stand)

-- NOT PRINTED: function 45 (mean_subject)

/-! ### slices_Index_string_string: function 72 -/
def slices_Index_string_string.l0 : Nat → List ByteArray → ByteArray → Int → Int → Option (Int)
 | 0, _, _, _, _ => none
 | k + 1, x0, x1, x7, x8 => if x8 < x7 then (if 0 ≤ x8 then (if x8 < (x0.length : Int) then (if x1.toList = (rdOf ByteArray.empty x0 x8).toList then (some x8) else (slices_Index_string_string.l0 k x0 x1 x7 (wrap64 (x8 + 1)))) else (none)) else (none)) else (some (-1))
def slices_Index_string_string.f (k : Nat) (l0 : List ByteArray) (a1 : ByteArray) : Option (Int) := slices_Index_string_string.l0 k l0 a1 (l0.length : Int) 0
theorem slices_Index_string_string.mono_l : ∀ k, (∀ y0 y1 y2 y3, LeO (slices_Index_string_string.l0 k y0 y1 y2 y3) (slices_Index_string_string.l0 (k + 1) y0 y1 y2 y3))
 | 0 => fun _ _ _ _ r h => by simp [slices_Index_string_string.l0] at h
 | k + 1 => by
  have ih0 := slices_Index_string_string.mono_l k
  ·intro y0 y1 y2 y3
   unfold slices_Index_string_string.l0
   repeat' first
   | (with_reducible exact ih0 _ _ _ _)
   | (with_reducible exact LeO.refl _)
   | (with_reducible exact LeO.none _)
   | (with_reducible refine LeO.ite ?_ ?_)
   | (with_reducible refine LeO.bind ?_ (fun _ => ?_))
   | exact ih0 _ _ _ _
   | exact LeO.none _
   | refine LeO.ite ?_ ?_
   | refine LeO.bind ?_ (fun _ => ?_)
theorem slices_Index_string_string.mono : ∀ a0 a1 k, LeO (slices_Index_string_string.f k a0 a1) (slices_Index_string_string.f (k + 1) a0 a1) := by
 intro a0 a1 k
 have ih0 := slices_Index_string_string.mono_l k
 unfold slices_Index_string_string.f
 repeat' first
   | (with_reducible exact ih0 _ _ _ _)
   | (with_reducible exact LeO.refl _)
   | (with_reducible exact LeO.none _)
   | (with_reducible refine LeO.ite ?_ ?_)
   | (with_reducible refine LeO.bind ?_ (fun _ => ?_))
   | exact ih0 _ _ _ _
   | exact LeO.none _
   | refine LeO.ite ?_ ?_
   | refine LeO.bind ?_ (fun _ => ?_)
set_option maxHeartbeats 8000000 in
set_option maxRecDepth 100000 in
theorem slices_Index_string_string.calls (k : Nat) (A0 : Option Addr) (c0 : Nat) (l0 : List ByteArray) (a1 : ByteArray) (r : Int) (w : World) (hr0 : Kd.C Kd.string w A0 l0.length l0) (hc0 : l0.length ≤ c0) (h : slices_Index_string_string.f k l0 a1 = some r) :
  Calls Try.prog 72 #[.slice A0 l0.length c0, .string a1] w fun e w' => e = .returned (.int .i64 r) ∧ Drawn0 w w' := by
 have HR0 := Aside0.mk hr0; have HC0 := Aside0.mk hc0; clear hr0 hc0; have H : (slices_Index_string_string.l0 k l0 a1 (l0.length : Int) 0) = some r := h; clear h; have H' := Aside0.mk H; clear H
 go_enter Try.func72, Try.ntmps72
 go_wp2
 go_loopg [8] k (fun kq v8 w' => ∃ (z0 : Int), v8 = .int .i64 z0 ∧ Aside0 (slices_Index_string_string.l0 kq l0 a1 (l0.length : Int) z0 = some r) ∧ Aside0 (kq ≤ k) ∧ Drawn0 w w')
 case atStart => exact ⟨(0), (by first | rfl | (simp; done) | (simp [*]; done)), H', ⟨Nat.le_refl _⟩, by repeat (first | exact Drawn0.refl _ | apply Drawn0.step)⟩
 case round =>
  clear H'
  try clear p2
  obtain ⟨z0, rfl, HA, HK1, ⟨m1, rfl⟩⟩ := hrel
  cases gk with
  | zero => exact absurd HA.out (by simp [slices_Index_string_string.l0])
  | succ k1 =>
   have H := HA.out; clear HA
   simp only [slices_Index_string_string.l0] at H
   by_cases c3 : z0 < (l0.length : Int)
   ·rw [if_pos c3] at H
    have z2 : decide (z0 < (l0.length : Int)) = true := decide_eq_true c3; clear c3
    by_cases c4 : 0 ≤ z0
    ·rw [if_pos c4] at H
     have z6 : decide (0 ≤ z0) = true := decide_eq_true c4; clear c4
     by_cases c5 : z0 < (l0.length : Int)
     ·rw [if_pos c5] at H
      have z7 : decide (z0 < (l0.length : Int)) = true := decide_eq_true c5; clear c5
      by_cases c6 : a1.toList = (rdOf ByteArray.empty l0 z0).toList
      ·rw [if_pos c6] at H
       have z3 : (a1.toList == (rdOf ByteArray.empty l0 z0).toList) = true := beq_iff_eq.mpr c6; have z4 : (a1.toList != (rdOf ByteArray.empty l0 z0).toList) = false := bne_eq_false_iff_eq.mpr c6; clear c6
       obtain rfl := Option.some.inj H
       have p263 : 0 ≤ (z0 : Int) := of_decide_eq_true (by first | (with_reducible assumption) | assumption); have q263 : z0 < (l0.length : Int) := of_decide_eq_true (by first | (with_reducible assumption) | assumption); obtain ⟨z1, e263, z5⟩ := Kd.at_string HR0.out z0 p263 q263
       cases e263
       replace p263 := eq_true p263; replace q263 := eq_true q263
       go_wp2
       go_ret
       exact ⟨by first | rfl | (simp; done) | (simp [*]; done), by repeat (first | exact Drawn0.refl _ | apply Drawn0.step)⟩
      ·rw [if_neg c6] at H
       have z3 : (a1.toList == (rdOf ByteArray.empty l0 z0).toList) = false := beq_eq_false_iff_ne.mpr c6; have z4 : (a1.toList != (rdOf ByteArray.empty l0 z0).toList) = true := bne_iff_ne.mpr c6; have H' := Aside0.mk H; clear H; have p263 : 0 ≤ (z0 : Int) := of_decide_eq_true (by first | (with_reducible assumption) | assumption); have q263 : z0 < (l0.length : Int) := of_decide_eq_true (by first | (with_reducible assumption) | assumption); obtain ⟨z1, e263, z5⟩ := Kd.at_string HR0.out z0 p263 q263
       cases e263
       replace p263 := eq_true p263; replace q263 := eq_true q263
       go_wp2
       go_roundg k1
       case measure => have := HK1.out; omega
       case rel => exact ⟨(wrap64 (z0 + 1)), (by first | rfl | (simp; done) | (simp [*]; done)), H', ⟨by have := HK1.out; omega⟩, by repeat (first | exact Drawn0.refl _ | apply Drawn0.step)⟩
     ·rw [if_neg c5] at H
      exact absurd H (by simp)
    ·rw [if_neg c4] at H
     exact absurd H (by simp)
   ·rw [if_neg c3] at H
    have z2 : decide (z0 < (l0.length : Int)) = false := decide_eq_false c3; clear c3
    obtain rfl := Option.some.inj H
    go_wp2
    go_ret
    exact ⟨by first | rfl | (simp; done) | (simp [*]; done), by repeat (first | exact Drawn0.refl _ | apply Drawn0.step)⟩

/-! ### slices_Contains_string_string: function 47 -/
def slices_Contains_string_string.f (k : Nat) (l0 : List ByteArray) (a1 : ByteArray) : Option (Bool) := (slices_Index_string_string.f k l0 a1).bind fun t264 => (some (decide (t264 ≥ 0)))
theorem slices_Contains_string_string.mono : ∀ a0 a1 k, LeO (slices_Contains_string_string.f k a0 a1) (slices_Contains_string_string.f (k + 1) a0 a1) := by
 intro a0 a1 k
 unfold slices_Contains_string_string.f
 repeat' first
   | (with_reducible exact slices_Index_string_string.mono _ _ _)
   | (with_reducible exact LeO.refl _)
   | (with_reducible exact LeO.none _)
   | (with_reducible refine LeO.ite ?_ ?_)
   | (with_reducible refine LeO.bind ?_ (fun _ => ?_))
   | exact slices_Index_string_string.mono _ _ _
   | exact LeO.none _
   | refine LeO.ite ?_ ?_
   | refine LeO.bind ?_ (fun _ => ?_)
set_option maxHeartbeats 8000000 in
set_option maxRecDepth 100000 in
theorem slices_Contains_string_string.calls (k : Nat) (A0 : Option Addr) (c0 : Nat) (l0 : List ByteArray) (a1 : ByteArray) (r : Bool) (w : World) (hr0 : Kd.C Kd.string w A0 l0.length l0) (hc0 : l0.length ≤ c0) (h : slices_Contains_string_string.f k l0 a1 = some r) :
  Calls Try.prog 47 #[.slice A0 l0.length c0, .string a1] w fun e w' => e = .returned (.bool r) ∧ Drawn0 w w' := by
 have HR0 := Aside0.mk hr0; have HC0 := Aside0.mk hc0; clear hr0 hc0; have H : ((slices_Index_string_string.f k l0 a1).bind fun t264 => (some (decide (t264 ≥ 0)))) = some r := h; clear h; replace H := Option.bind_eq_some_iff.mp H; obtain ⟨t264, A30, H⟩ := H; replace H : (some (decide (t264 ≥ 0))) = some r := H; have A3 := Aside0.mk A30; clear A30
 obtain rfl := Option.some.inj H
 go_enter Try.func47, Try.ntmps47
 go_wp2_with (first | ((with_reducible refine gate_callee (f := 72) rfl ?_); refine goesL_ (some 7) rfl rfl Try.func72 (by kernel_rfl) rfl #[.slice A0 l0.length c0, .string a1] rfl (by (try simp only [List.map_toArray, List.map_cons, List.map_nil]); first | done | rfl | (simp only [List.length_drop, List.length_take]; rfl)) ?_; (with_reducible refine (slices_Index_string_string.calls k _ _ l0 a1 t264 _ ?side1 ?side2 A3.out).mono ?_); (case side1 => repeat (first | exact HR0.out | (with_reducible refine Kd.C_alloc ?_ _) | (with_reducible refine Kd.C_drewN ?_ _) | (with_reducible refine Kd.C_drew ?_))); (case side2 => exact HC0.out); rintro e w' ⟨rfl, ⟨nd, rfl⟩⟩; refine ⟨_, rfl, ?_⟩))
 go_ret
 exact ⟨by first | rfl | (simp; done) | (simp [*]; done), by repeat (first | exact Drawn0.refl _ | apply Drawn0.step)⟩

-- NOT PRINTED: function 46 (mean_object)

/-! ### mean_names: function 48 -/
def mean_names.f (k : Nat) (a0_0 : Bool) (a0_1 : ByteArray) (a0_2 : ByteArray) (z0 : List ByteArray) (a0_4 : Int) (a0_5 : Nat) (a1 : ByteArray) : Option (Bool) := if (z0.length : Int) = 0 then (some true) else ((slices_Contains_string_string.f k z0 a1).bind fun t266 => (some t266))
set_option maxHeartbeats 8000000 in
set_option maxRecDepth 100000 in
theorem mean_names.calls (k : Nat) (a0_0 : Bool) (a0_1 : ByteArray) (a0_2 : ByteArray) (z2 : Option Addr) (z3 : Nat) (z0 : List ByteArray) (a0_4 : Int) (a0_5 : Nat) (a1 : ByteArray) (r : Bool) (w : World) (hr0_3 : Kd.C Kd.string w z2 z0.length z0) (hc0_3 : z0.length ≤ z3) (h : mean_names.f k a0_0 a0_1 a0_2 z0 a0_4 a0_5 a1 = some r) :
  Calls Try.prog 48 #[.agg #[.bool a0_0, .string a0_1, .string a0_2, .slice z2 z0.length z3, .int .i8 a0_4, .float .f64 a0_5], .string a1] w fun e w' => e = .returned (.bool r) ∧ Below w.heap.size w w' := by
 have hu27 := Try.underlying27; have z8 := Aside0.mk hr0_3; have z7 := Aside0.mk hc0_3; clear hr0_3 hc0_3; have HB := Aside0.mk (Below.refl w.heap.size w); have H : (if (z0.length : Int) = 0 then (some true) else ((slices_Contains_string_string.f k z0 a1).bind fun t266 => (some t266))) = some r := h; clear h
 by_cases c3 : (z0.length : Int) = 0
 ·rw [if_pos c3] at H
  have z9 : ((z0.length : Int) == 0) = true := beq_iff_eq.mpr c3; have za : ((z0.length : Int) != 0) = false := bne_eq_false_iff_eq.mpr c3; clear c3
  obtain rfl := Option.some.inj H
  go_enter Try.func48, Try.ntmps48
  go_wp2_with (first | ((with_reducible refine gate_dst (N := 2) rfl ?_); refine box_event ?hg (N := 2) ?hd (cs := #[.bool a0_0, .string a0_1, .string a0_2, .slice z2 z0.length z3, .int .i8 a0_4, .float .f64 a0_5]) (t := 27) ?hr ?_; (case hd => rfl); (case hg => rfl); (case hr => first | (go_simp; done) | (go_simp; rfl)); intro z1 hg w4 hbox hb; have z4 := Aside0.mk (hbox); have z6 := Aside0.mk ((by rw [hg]; exact (below_size (hW HB)) : w.heap.size ≤ z1)); have z5 := Aside0.mk ((by rw [hg]; exact (below_size (hW HB)) : w.heap.size ≤ z1)); replace HB := hF HB hb; clear hb hbox hg; obtain ⟨zc, zd, ze, zf, zg, zh, zo, zp, zq, zr, zs, zt⟩ := bC6 z4))
  go_ret
  exact ⟨by first | rfl | (simp [errW_none, errW_some] <;> rfl) | (simp [*, errW_none, errW_some] <;> rfl), by repeat (first | (with_reducible first | exact HB.out | apply below_alloc | apply pw_below_drewN | apply below_drew1 | refine below_set ?_ z5.out) | exact HB.out)⟩
 ·rw [if_neg c3] at H
  have z9 : ((z0.length : Int) == 0) = false := beq_eq_false_iff_ne.mpr c3; have za : ((z0.length : Int) != 0) = true := bne_iff_ne.mpr c3
  have zb : ¬ (z0 = []) := fun h_ => c3 (by rw [h_]; rfl)
  replace H := Option.bind_eq_some_iff.mp H; obtain ⟨t266, A60, H⟩ := H; replace H : (some t266) = some r := H; have A6 := Aside0.mk A60; clear A60
  obtain rfl := Option.some.inj H
  go_enter Try.func48, Try.ntmps48
  go_wp2_with (first | ((with_reducible refine gate_dst (N := 2) rfl ?_); refine box_event ?hg (N := 2) ?hd (cs := #[.bool a0_0, .string a0_1, .string a0_2, .slice z2 z0.length z3, .int .i8 a0_4, .float .f64 a0_5]) (t := 27) ?hr ?_; (case hd => rfl); (case hg => rfl); (case hr => first | (go_simp; done) | (go_simp; rfl)); intro z1 hg w7 hbox hb; have z4 := Aside0.mk (hbox); have z6 := Aside0.mk ((by rw [hg]; exact (below_size (hW HB)) : w.heap.size ≤ z1)); have z5 := Aside0.mk ((by rw [hg]; exact (below_size (hW HB)) : w.heap.size ≤ z1)); replace HB := hF HB hb; clear hb hbox hg; obtain ⟨zi, zj, zk, zl, zm, zn, zu, zv, zw, zx, zy, zz⟩ := bC6 z4) | (go_at_call 47; (with_reducible refine (slices_Contains_string_string.calls k _ _ z0 a1 t266 _ ?side1 ?side2 A6.out).mono ?_); (case side1 => exact cE (Kd.C_below z8.out HB.out)); (case side2 => exact z7.out); rintro e w' ⟨rfl, ⟨nd, rfl⟩⟩))
  go_ret
  exact ⟨by first | rfl | (simp [errW_none, errW_some] <;> rfl) | (simp [*, errW_none, errW_some] <;> rfl), by repeat (first | (with_reducible first | exact HB.out | apply below_alloc | apply pw_below_drewN | apply below_drew1 | refine below_set ?_ z5.out) | exact HB.out)⟩

/-! ### api_Triple_78: function 78 -/
def api_Triple_78.l0 : Nat → List (S36) → Int → Int → ByteArray → ByteArray → ByteArray → Option (Int)
 | 0, _, _, _, _, _, _ => none
 | k + 1, x0, x7, x8, z8, z9, za => if x8 < x7 then (if 0 ≤ x8 then (if x8 < (x0.length : Int) then (if (z8.toList == (((rd_T36 x0 x8).f0).toList) && (z9.toList == (((rd_T36 x0 x8).f1).toList) && (za.toList == (((rd_T36 x0 x8).f2).toList)))) = true then (some x8) else (api_Triple_78.l0 k x0 x7 (wrap64 (x8 + 1)) z8 z9 za)) else (none)) else (none)) else (some (-1))
def api_Triple_78.f (k : Nat) (l0 : List (S36)) (a1_0 : ByteArray) (a1_1 : ByteArray) (a1_2 : ByteArray) : Option (Int) := api_Triple_78.l0 k l0 (l0.length : Int) 0 a1_0 a1_1 a1_2
set_option maxHeartbeats 8000000 in
set_option maxRecDepth 100000 in
theorem api_Triple_78.calls (k : Nat) (A0 : Option Addr) (c0 : Nat) (l0 : List (S36)) (a1_0 : ByteArray) (a1_1 : ByteArray) (a1_2 : ByteArray) (r : Int) (w : World) (hr0 : Kd.C k36 w A0 l0.length l0) (hc0 : l0.length ≤ c0) (h : api_Triple_78.f k l0 a1_0 a1_1 a1_2 = some r) :
  Calls Try.prog 78 #[.slice A0 l0.length c0, .agg #[.string a1_0, .string a1_1, .string a1_2]] w fun e w' => e = .returned (.int .i64 r) ∧ Below w.heap.size w w' := by
 have hu36 := Try.underlying36; have HR0 := Aside0.mk hr0; have HC0 := Aside0.mk hc0; clear hr0 hc0; have HB := Aside0.mk (Below.refl w.heap.size w); have H : (api_Triple_78.l0 k l0 (l0.length : Int) 0 a1_0 a1_1 a1_2) = some r := h; clear h; have H' := Aside0.mk H; clear H
 go_enter Try.func78, Try.ntmps78
 go_wp2_with (first | ((with_reducible refine gate_dst (N := 3) rfl ?_); refine box_event ?hg (N := 3) ?hd (cs := #[.string a1_0, .string a1_1, .string a1_2]) (t := 36) ?hr ?_; (case hd => rfl); (case hg => rfl); (case hr => first | (go_simp; done) | (go_simp; rfl)); intro z1 hg w3 hbox hb; have z2 := Aside0.mk (hbox); have z7 := Aside0.mk ((by rw [hg]; exact (below_size (hW HB)) : w.heap.size ≤ z1)); have z6 := Aside0.mk ((by rw [hg]; exact (below_size (hW HB)) : w.heap.size ≤ z1)); replace HB := hF HB hb; clear hb hbox hg))
 repeat (go_quiet (first | ((with_reducible refine gate_dst (N := 3) rfl ?_); refine box_event ?hg (N := 3) ?hd (cs := #[.string a1_0, .string a1_1, .string a1_2]) (t := 36) ?hr ?_; (case hd => rfl); (case hg => rfl); (case hr => first | (go_simp; done) | (go_simp; rfl)); intro z1 hg w3 hbox hb; have z2 := Aside0.mk (hbox); have z7 := Aside0.mk ((by rw [hg]; exact (below_size (hW HB)) : w.heap.size ≤ z1)); have z6 := Aside0.mk ((by rw [hg]; exact (below_size (hW HB)) : w.heap.size ≤ z1)); replace HB := hF HB hb; clear hb hbox hg)); try go_wp2_with (first | ((with_reducible refine gate_dst (N := 3) rfl ?_); refine box_event ?hg (N := 3) ?hd (cs := #[.string a1_0, .string a1_1, .string a1_2]) (t := 36) ?hr ?_; (case hd => rfl); (case hg => rfl); (case hr => first | (go_simp; done) | (go_simp; rfl)); intro z1 hg w3 hbox hb; have z2 := Aside0.mk (hbox); have z7 := Aside0.mk ((by rw [hg]; exact (below_size (hW HB)) : w.heap.size ≤ z1)); have z6 := Aside0.mk ((by rw [hg]; exact (below_size (hW HB)) : w.heap.size ≤ z1)); replace HB := hF HB hb; clear hb hbox hg)))
 go_loopg [8] k (fun kq v8 w' => ∃ (z0 : Int), v8 = .int .i64 z0 ∧ Aside0 (api_Triple_78.l0 kq l0 (l0.length : Int) z0 a1_0 a1_1 a1_2 = some r) ∧ Aside0 (kq ≤ k) ∧ Aside0 (w'.heap[z1]? = some (.cells #[.string a1_0, .string a1_1, .string a1_2] 36 (0, 0))) ∧ Aside0 (Below w.heap.size w w'))
 case atStart => exact ⟨(0), (by first | rfl | (simp; done) | (simp [*]; done)), H', ⟨Nat.le_refl _⟩, ⟨bE z2⟩, ⟨hW HB⟩⟩
 case round =>
  clear H'
  try clear p2
  obtain ⟨z0, rfl, HA, HK1, z2, HB⟩ := hrel
  cases gk with
  | zero => exact absurd HA.out (by simp [api_Triple_78.l0])
  | succ k1 =>
   have H := HA.out; clear HA
   simp only [api_Triple_78.l0] at H
   by_cases c4 : z0 < (l0.length : Int)
   ·rw [if_pos c4] at H
    have zc : decide (z0 < (l0.length : Int)) = true := decide_eq_true c4; clear c4
    by_cases c5 : 0 ≤ z0
    ·rw [if_pos c5] at H
     have zg : decide (0 ≤ z0) = true := decide_eq_true c5; clear c5
     by_cases c6 : z0 < (l0.length : Int)
     ·rw [if_pos c6] at H
      have zh : decide (z0 < (l0.length : Int)) = true := decide_eq_true c6; clear c6
      by_cases c7 : (a1_0.toList == (((rd_T36 l0 z0).f0).toList) && (a1_1.toList == (((rd_T36 l0 z0).f1).toList) && (a1_2.toList == (((rd_T36 l0 z0).f2).toList)))) = true
      ·rw [if_pos c7] at H
       have zd : (a1_0.toList == (((rd_T36 l0 z0).f0).toList) && (a1_1.toList == (((rd_T36 l0 z0).f1).toList) && (a1_2.toList == (((rd_T36 l0 z0).f2).toList)))) = true := c7
       (try (have ze : decide (a1_0.toList = (((rd_T36 l0 z0).f0).toList) && (a1_1.toList == (((rd_T36 l0 z0).f1).toList) && (a1_2.toList == (((rd_T36 l0 z0).f2).toList)))) = true := by simpa using c7))
       (try (have zf : (a1_0.toList == (((rd_T36 l0 z0).f0).toList) && (a1_1.toList == (((rd_T36 l0 z0).f1).toList) && (a1_2.toList == (((rd_T36 l0 z0).f2).toList)))) = true := by simpa using c7))
       clear c7
       obtain rfl := Option.some.inj H
       obtain ⟨zj, zk, zl, zp, zq, zr⟩ := bC3 z2; have p268 : 0 ≤ (z0 : Int) := of_decide_eq_true (by first | (with_reducible assumption) | assumption); have q268 : z0 < (l0.length : Int) := of_decide_eq_true (by first | (with_reducible assumption) | assumption); obtain ⟨zb, e268, z3, z4, z5⟩ := at_T36 HR0.out z0 p268 q268
       cases e268
       replace z3 := hC HB z3; replace z4 := hC HB z4; replace z5 := hC HB z5; replace p268 := eq_true p268; replace q268 := eq_true q268
       go_wp2
       repeat (go_quiet (fail); try go_wp2)
       go_ret
       exact ⟨by first | rfl | (simp [errW_none, errW_some] <;> rfl) | (simp [*, errW_none, errW_some] <;> rfl), by repeat (first | (with_reducible first | exact HB.out | apply below_alloc | apply pw_below_drewN | apply below_drew1 | refine below_set ?_ z6.out) | exact HB.out)⟩
      ·rw [if_neg c7] at H
       have zd : (a1_0.toList == (((rd_T36 l0 z0).f0).toList) && (a1_1.toList == (((rd_T36 l0 z0).f1).toList) && (a1_2.toList == (((rd_T36 l0 z0).f2).toList)))) = false := by simpa using c7
       (try (have ze : decide (a1_0.toList = (((rd_T36 l0 z0).f0).toList) && (a1_1.toList == (((rd_T36 l0 z0).f1).toList) && (a1_2.toList == (((rd_T36 l0 z0).f2).toList)))) = false := by simpa using c7))
       (try (have zf : (a1_0.toList == (((rd_T36 l0 z0).f0).toList) && (a1_1.toList == (((rd_T36 l0 z0).f1).toList) && (a1_2.toList == (((rd_T36 l0 z0).f2).toList)))) = false := by simpa using c7))
       (try (have zi : ¬ (a1_0.toList = (((rd_T36 l0 z0).f0).toList) && (a1_1.toList == (((rd_T36 l0 z0).f1).toList) && (a1_2.toList == (((rd_T36 l0 z0).f2).toList)))) := by simpa using c7))
       clear c7; have H' := Aside0.mk H; clear H; obtain ⟨zm, zn, zo, zs, zt, zu⟩ := bC3 z2; have p268 : 0 ≤ (z0 : Int) := of_decide_eq_true (by first | (with_reducible assumption) | assumption); have q268 : z0 < (l0.length : Int) := of_decide_eq_true (by first | (with_reducible assumption) | assumption); obtain ⟨zb, e268, z3, z4, z5⟩ := at_T36 HR0.out z0 p268 q268
       cases e268
       replace z3 := hC HB z3; replace z4 := hC HB z4; replace z5 := hC HB z5; replace p268 := eq_true p268; replace q268 := eq_true q268
       go_wp2
       repeat (go_quiet (fail); try go_wp2)
       go_roundg k1
       case measure => have := HK1.out; omega
       case rel => exact ⟨(wrap64 (z0 + 1)), (by first | rfl | (simp; done) | (simp [*]; done)), H', ⟨by have := HK1.out; omega⟩, ⟨bE z2⟩, ⟨hW HB⟩⟩
     ·rw [if_neg c6] at H
      exact absurd H (by simp)
    ·rw [if_neg c5] at H
     exact absurd H (by simp)
   ·rw [if_neg c4] at H
    have zc : decide (z0 < (l0.length : Int)) = false := decide_eq_false c4; clear c4
    obtain rfl := Option.some.inj H
    go_wp2
    repeat (go_quiet (fail); try go_wp2)
    go_ret
    exact ⟨by first | rfl | (simp [errW_none, errW_some] <;> rfl) | (simp [*, errW_none, errW_some] <;> rfl), by repeat (first | (with_reducible first | exact HB.out | apply below_alloc | apply pw_below_drewN | apply below_drew1 | refine below_set ?_ z6.out) | exact HB.out)⟩

/-! ### api_Triple_74: function 74 -/
def api_Triple_74.f (k : Nat) (l0 : List (S36)) (a1_0 : ByteArray) (a1_1 : ByteArray) (a1_2 : ByteArray) : Option (Bool) := (api_Triple_78.f k l0 a1_0 a1_1 a1_2).bind fun t270 => (some (decide (t270 ≥ 0)))
set_option maxHeartbeats 8000000 in
set_option maxRecDepth 100000 in
theorem api_Triple_74.calls (k : Nat) (A0 : Option Addr) (c0 : Nat) (l0 : List (S36)) (a1_0 : ByteArray) (a1_1 : ByteArray) (a1_2 : ByteArray) (r : Bool) (w : World) (hr0 : Kd.C k36 w A0 l0.length l0) (hc0 : l0.length ≤ c0) (h : api_Triple_74.f k l0 a1_0 a1_1 a1_2 = some r) :
  Calls Try.prog 74 #[.slice A0 l0.length c0, .agg #[.string a1_0, .string a1_1, .string a1_2]] w fun e w' => e = .returned (.bool r) ∧ Below w.heap.size w w' := by
 have hu36 := Try.underlying36; have HR0 := Aside0.mk hr0; have HC0 := Aside0.mk hc0; clear hr0 hc0; have HB := Aside0.mk (Below.refl w.heap.size w); have H : ((api_Triple_78.f k l0 a1_0 a1_1 a1_2).bind fun t270 => (some (decide (t270 ≥ 0)))) = some r := h; clear h; replace H := Option.bind_eq_some_iff.mp H; obtain ⟨t270, A30, H⟩ := H; replace H : (some (decide (t270 ≥ 0))) = some r := H; have A3 := Aside0.mk A30; clear A30
 obtain rfl := Option.some.inj H
 go_enter Try.func74, Try.ntmps74
 go_wp2_with (first | ((with_reducible refine gate_dst (N := 3) rfl ?_); refine box_event ?hg (N := 3) ?hd (cs := #[.string a1_0, .string a1_1, .string a1_2]) (t := 36) ?hr ?_; (case hd => rfl); (case hg => rfl); (case hr => first | (go_simp; done) | (go_simp; rfl)); intro z1 hg w4 hbox hb; have z0 := Aside0.mk (hbox); have z3 := Aside0.mk ((by rw [hg]; exact (below_size (hW HB)) : w.heap.size ≤ z1)); have z2 := Aside0.mk ((by rw [hg]; exact (below_size (hW HB)) : w.heap.size ≤ z1)); replace HB := hF HB hb; clear hb hbox hg; obtain ⟨z4, z5, z6, z7, z8, z9⟩ := bC3 z0) | ((with_reducible refine gate_callee (f := 78) rfl ?_); refine goesL_ (some 7) rfl rfl Try.func78 (by kernel_rfl) rfl #[.slice A0 l0.length c0, .agg #[.string a1_0, .string a1_1, .string a1_2]] rfl (by (try simp only [List.map_toArray, List.map_cons, List.map_nil]); first | done | rfl | (simp only [List.length_drop, List.length_take]; rfl)) ?_; (with_reducible refine (api_Triple_78.calls k _ _ l0 a1_0 a1_1 a1_2 t270 _ ?side1 ?side2 A3.out).mono ?_); (case side1 => exact cE (Kd.C_below HR0.out HB.out)); (case side2 => exact HC0.out); rintro e w6 ⟨rfl, hb⟩; refine ⟨_, rfl, ?_⟩; replace z0 := kF z0 hb; replace HB := hF HB hb; (try clear hb); (try clear hb2); (try clear hk); (try clear hi)))
 go_ret
 exact ⟨by first | rfl | (simp [errW_none, errW_some] <;> rfl) | (simp [*, errW_none, errW_some] <;> rfl), by repeat (first | (with_reducible first | exact HB.out | apply below_alloc | apply pw_below_drewN | apply below_drew1 | refine below_set ?_ z2.out) | exact HB.out)⟩

-- NOT PRINTED: function 57 (mean_allows)

/-! ### mean_Passes: function 16 -/
def mean_Passes.f (a0_0 : Bool) (a0_1 : ByteArray) (a0_2 : ByteArray) (z1 : List ByteArray) (a0_4 : Int) (a0_5 : Nat) (a1 : Nat) : Option (Bool) := if a0_4 = 0 then (some true) else (if a0_4 = 1 then (some (fge a1 a0_5)) else (if a0_4 = 2 then (some (flt a1 a0_5)) else (some false)))
set_option maxHeartbeats 8000000 in
set_option maxRecDepth 100000 in
theorem mean_Passes.calls (a0_0 : Bool) (a0_1 : ByteArray) (a0_2 : ByteArray) (z4 : Option Addr) (z5 : Nat) (z1 : List ByteArray) (a0_4 : Int) (a0_5 : Nat) (a1 : Nat) (r : Bool) (w : World) (hr0_3 : Kd.C Kd.string w z4 z1.length z1) (hc0_3 : z1.length ≤ z5) (h : mean_Passes.f a0_0 a0_1 a0_2 z1 a0_4 a0_5 a1 = some r) :
  Calls Try.prog 16 #[.agg #[.bool a0_0, .string a0_1, .string a0_2, .slice z4 z1.length z5, .int .i8 a0_4, .float .f64 a0_5], .float .f64 a1] w fun e w' => e = .returned (.bool r) ∧ Below w.heap.size w w' := by
 have hu27 := Try.underlying27; have ze := Aside0.mk hr0_3; have zd := Aside0.mk hc0_3; clear hr0_3 hc0_3; have HB := Aside0.mk (Below.refl w.heap.size w); have H : (if a0_4 = 0 then (some true) else (if a0_4 = 1 then (some (fge a1 a0_5)) else (if a0_4 = 2 then (some (flt a1 a0_5)) else (some false)))) = some r := h; clear h
 by_cases c3 : a0_4 = 0
 ·rw [if_pos c3] at H
  have z7 : (a0_4 == 0) = true := beq_iff_eq.mpr c3; have z8 : (a0_4 != 0) = false := bne_eq_false_iff_eq.mpr c3; clear c3
  obtain rfl := Option.some.inj H
  go_enter Try.func16, Try.ntmps16
  go_wp2_with (first | ((with_reducible refine gate_dst (N := 2) rfl ?_); refine box_event ?hg (N := 2) ?hd (cs := #[.bool a0_0, .string a0_1, .string a0_2, .slice z4 z1.length z5, .int .i8 a0_4, .float .f64 a0_5]) (t := 27) ?hr ?_; (case hd => rfl); (case hg => rfl); (case hr => first | (go_simp; done) | (go_simp; rfl)); intro z0 hg w4 hbox hb; have z2 := Aside0.mk (hbox); have z6 := Aside0.mk ((by rw [hg]; exact (below_size (hW HB)) : w.heap.size ≤ z0)); have z3 := Aside0.mk ((by rw [hg]; exact (below_size (hW HB)) : w.heap.size ≤ z0)); replace HB := hF HB hb; clear hb hbox hg; obtain ⟨zr, zs, zt, zu, zv, zw, zP, zQ, zR, zS, zT, zU⟩ := bC6 z2))
  go_ret
  exact ⟨by first | rfl | (simp [errW_none, errW_some] <;> rfl) | (simp [*, errW_none, errW_some] <;> rfl), by repeat (first | (with_reducible first | exact HB.out | apply below_alloc | apply pw_below_drewN | apply below_drew1 | refine below_set ?_ z3.out) | exact HB.out)⟩
 ·rw [if_neg c3] at H
  have z7 : (a0_4 == 0) = false := beq_eq_false_iff_ne.mpr c3; have z8 : (a0_4 != 0) = true := bne_iff_ne.mpr c3
  by_cases c6 : a0_4 = 1
  ·rw [if_pos c6] at H
   have z9 : (a0_4 == 1) = true := beq_iff_eq.mpr c6; have za : (a0_4 != 1) = false := bne_eq_false_iff_eq.mpr c6; clear c6
   obtain rfl := Option.some.inj H
   go_enter Try.func16, Try.ntmps16
   go_wp2_with (first | ((with_reducible refine gate_dst (N := 2) rfl ?_); refine box_event ?hg (N := 2) ?hd (cs := #[.bool a0_0, .string a0_1, .string a0_2, .slice z4 z1.length z5, .int .i8 a0_4, .float .f64 a0_5]) (t := 27) ?hr ?_; (case hd => rfl); (case hg => rfl); (case hr => first | (go_simp; done) | (go_simp; rfl)); intro z0 hg w7 hbox hb; have z2 := Aside0.mk (hbox); have z6 := Aside0.mk ((by rw [hg]; exact (below_size (hW HB)) : w.heap.size ≤ z0)); have z3 := Aside0.mk ((by rw [hg]; exact (below_size (hW HB)) : w.heap.size ≤ z0)); replace HB := hF HB hb; clear hb hbox hg; obtain ⟨zx, zy, zz, zA, zB, zC, zV, zW, zX, zY, zZ, z10⟩ := bC6 z2))
   go_ret
   exact ⟨by first | rfl | (simp [errW_none, errW_some] <;> rfl) | (simp [*, errW_none, errW_some] <;> rfl), by repeat (first | (with_reducible first | exact HB.out | apply below_alloc | apply pw_below_drewN | apply below_drew1 | refine below_set ?_ z3.out) | exact HB.out)⟩
  ·rw [if_neg c6] at H
   have z9 : (a0_4 == 1) = false := beq_eq_false_iff_ne.mpr c6; have za : (a0_4 != 1) = true := bne_iff_ne.mpr c6
   by_cases c9 : a0_4 = 2
   ·rw [if_pos c9] at H
    have zb : (a0_4 == 2) = true := beq_iff_eq.mpr c9; have zc : (a0_4 != 2) = false := bne_eq_false_iff_eq.mpr c9; clear c9
    obtain rfl := Option.some.inj H
    go_enter Try.func16, Try.ntmps16
    go_wp2_with (first | ((with_reducible refine gate_dst (N := 2) rfl ?_); refine box_event ?hg (N := 2) ?hd (cs := #[.bool a0_0, .string a0_1, .string a0_2, .slice z4 z1.length z5, .int .i8 a0_4, .float .f64 a0_5]) (t := 27) ?hr ?_; (case hd => rfl); (case hg => rfl); (case hr => first | (go_simp; done) | (go_simp; rfl)); intro z0 hg w10 hbox hb; have z2 := Aside0.mk (hbox); have z6 := Aside0.mk ((by rw [hg]; exact (below_size (hW HB)) : w.heap.size ≤ z0)); have z3 := Aside0.mk ((by rw [hg]; exact (below_size (hW HB)) : w.heap.size ≤ z0)); replace HB := hF HB hb; clear hb hbox hg; obtain ⟨zf, zg, zh, zi, zj, zk, zD, zE, zF, zG, zH, zI⟩ := bC6 z2))
    go_ret
    exact ⟨by first | rfl | (simp [errW_none, errW_some] <;> rfl) | (simp [*, errW_none, errW_some] <;> rfl), by repeat (first | (with_reducible first | exact HB.out | apply below_alloc | apply pw_below_drewN | apply below_drew1 | refine below_set ?_ z3.out) | exact HB.out)⟩
   ·rw [if_neg c9] at H
    have zb : (a0_4 == 2) = false := beq_eq_false_iff_ne.mpr c9; have zc : (a0_4 != 2) = true := bne_iff_ne.mpr c9
    obtain rfl := Option.some.inj H
    go_enter Try.func16, Try.ntmps16
    go_wp2_with (first | ((with_reducible refine gate_dst (N := 2) rfl ?_); refine box_event ?hg (N := 2) ?hd (cs := #[.bool a0_0, .string a0_1, .string a0_2, .slice z4 z1.length z5, .int .i8 a0_4, .float .f64 a0_5]) (t := 27) ?hr ?_; (case hd => rfl); (case hg => rfl); (case hr => first | (go_simp; done) | (go_simp; rfl)); intro z0 hg w12 hbox hb; have z2 := Aside0.mk (hbox); have z6 := Aside0.mk ((by rw [hg]; exact (below_size (hW HB)) : w.heap.size ≤ z0)); have z3 := Aside0.mk ((by rw [hg]; exact (below_size (hW HB)) : w.heap.size ≤ z0)); replace HB := hF HB hb; clear hb hbox hg; obtain ⟨zl, zm, zn, zo, zp, zq, zJ, zK, zL, zM, zN, zO⟩ := bC6 z2))
    go_ret
    exact ⟨by first | rfl | (simp [errW_none, errW_some] <;> rfl) | (simp [*, errW_none, errW_some] <;> rfl), by repeat (first | (with_reducible first | exact HB.out | apply below_alloc | apply pw_below_drewN | apply below_drew1 | refine below_set ?_ z3.out) | exact HB.out)⟩

-- NOT PRINTED: function 73 (mean_side_has)

-- NOT PRINTED: function 49 (mean_speaks)

-- NOT PRINTED: function 58 (mean_about)

-- by hand: function 22 (mean_Allows)

/-! ### gatehouseref08_Trust: function 50 -/
def gatehouseref08_Trust.l0 : Nat → ByteArray → Int → List ByteArray → List (S57) → List ByteArray → List ByteArray → List ByteArray → List (S86) → List (S86) → List (S86) → List (S86) → List (S27) → List (S36) → Option (Nat × Bool)
 | 0, _, _, _, _, _, _, _, _, _, _, _, _, _ => none
 | k + 1, x1, x6, zM, zB, zN, zO, zP, zQ, zR, zS, zT, zU, zV => if x6 < (zB.length : Int) then (if 0 ≤ x6 then (if ((rd_T57 zB x6).f0).toList = x1.toList then (some ((rd_T57 zB x6).f1, true)) else (gatehouseref08_Trust.l0 k x1 (wrap64 (x6 + 1)) zM zB zN zO zP zQ zR zS zT zU zV)) else (none)) else (some (0, false))
def gatehouseref08_Trust.f (k : Nat) (z2 : List ByteArray) (z1 : List (S57)) (z4 : List ByteArray) (z5 : List ByteArray) (z6 : List ByteArray) (z7 : List (S86)) (z8 : List (S86)) (z9 : List (S86)) (za : List (S86)) (zb : List (S27)) (z3 : List (S36)) (a1 : ByteArray) : Option (Nat × Bool) := gatehouseref08_Trust.l0 k a1 0 z2 z1 z4 z5 z6 z7 z8 z9 za zb z3
set_option maxHeartbeats 8000000 in
set_option maxRecDepth 100000 in
theorem gatehouseref08_Trust.calls (k : Nat) (zf : Option Addr) (zq : Nat) (z2 : List ByteArray) (zg : Option Addr) (zr : Nat) (z1 : List (S57)) (zi : Option Addr) (zt : Nat) (z4 : List ByteArray) (zj : Option Addr) (zu : Nat) (z5 : List ByteArray) (zk : Option Addr) (zv : Nat) (z6 : List ByteArray) (zl : Option Addr) (zw : Nat) (z7 : List (S86)) (zm : Option Addr) (zx : Nat) (z8 : List (S86)) (zn : Option Addr) (zy : Nat) (z9 : List (S86)) (zo : Option Addr) (zz : Nat) (za : List (S86)) (zp : Option Addr) (zA : Nat) (zb : List (S27)) (zh : Option Addr) (zs : Nat) (z3 : List (S36)) (a1 : ByteArray) (r1 : Nat) (r2 : Bool) (w : World) (hr0_0 : Kd.C Kd.string w zf z2.length z2) (hc0_0 : z2.length ≤ zq) (hr0_1 : Kd.C k57 w zg z1.length z1) (hc0_1 : z1.length ≤ zr) (hr0_2 : Kd.C Kd.string w zi z4.length z4) (hc0_2 : z4.length ≤ zt) (hr0_3 : Kd.C Kd.string w zj z5.length z5) (hc0_3 : z5.length ≤ zu) (hr0_4 : Kd.C Kd.string w zk z6.length z6) (hc0_4 : z6.length ≤ zv) (hr0_5 : Kd.C k86 w zl z7.length z7) (hc0_5 : z7.length ≤ zw) (hr0_6 : Kd.C k86 w zm z8.length z8) (hc0_6 : z8.length ≤ zx) (hr0_7 : Kd.C k86 w zn z9.length z9) (hc0_7 : z9.length ≤ zy) (hr0_8 : Kd.C k86 w zo za.length za) (hc0_8 : za.length ≤ zz) (hr0_9 : Kd.C k27 w zp zb.length zb) (hc0_9 : zb.length ≤ zA) (hr0_10 : Kd.C k36 w zh z3.length z3) (hc0_10 : z3.length ≤ zs) (h : gatehouseref08_Trust.f k z2 z1 z4 z5 z6 z7 z8 z9 za zb z3 a1 = some (r1, r2)) :
  Calls Try.prog 50 #[.agg #[.slice zf z2.length zq, .slice zg z1.length zr, .slice zi z4.length zt, .slice zj z5.length zu, .slice zk z6.length zv, .slice zl z7.length zw, .slice zm z8.length zx, .slice zn z9.length zy, .slice zo za.length zz, .slice zp zb.length zA, .slice zh z3.length zs], .string a1] w fun e w' => e = .returned (.tuple #[.float .f64 r1, .bool r2]) ∧ Below w.heap.size w w' := by
 have hu34 := Try.underlying34; have z18 := Aside0.mk hr0_0; have zX := Aside0.mk hc0_0; clear hr0_0 hc0_0; have zC := Aside0.mk hr0_1; have zY := Aside0.mk hc0_1; clear hr0_1 hc0_1; have z1a := Aside0.mk hr0_2; have z10 := Aside0.mk hc0_2; clear hr0_2 hc0_2; have z1b := Aside0.mk hr0_3; have z11 := Aside0.mk hc0_3; clear hr0_3 hc0_3; have z1c := Aside0.mk hr0_4; have z12 := Aside0.mk hc0_4; clear hr0_4 hc0_4; have z1d := Aside0.mk hr0_5; have z13 := Aside0.mk hc0_5; clear hr0_5 hc0_5; have z1e := Aside0.mk hr0_6; have z14 := Aside0.mk hc0_6; clear hr0_6 hc0_6; have z1f := Aside0.mk hr0_7; have z15 := Aside0.mk hc0_7; clear hr0_7 hc0_7; have z1g := Aside0.mk hr0_8; have z16 := Aside0.mk hc0_8; clear hr0_8 hc0_8; have z1h := Aside0.mk hr0_9; have z17 := Aside0.mk hc0_9; clear hr0_9 hc0_9; have z19 := Aside0.mk hr0_10; have zZ := Aside0.mk hc0_10; clear hr0_10 hc0_10; have HB := Aside0.mk (Below.refl w.heap.size w); have H : (gatehouseref08_Trust.l0 k a1 0 z2 z1 z4 z5 z6 z7 z8 z9 za zb z3) = some (r1, r2) := h; clear h; have H' := Aside0.mk H; clear H
 go_enter Try.func50, Try.ntmps50
 go_wp2_with (first | ((with_reducible refine gate_dst (N := 2) rfl ?_); refine box_event ?hg (N := 2) ?hd (cs := #[.slice zf z2.length zq, .slice zg z1.length zr, .slice zi z4.length zt, .slice zj z5.length zu, .slice zk z6.length zv, .slice zl z7.length zw, .slice zm z8.length zx, .slice zn z9.length zy, .slice zo za.length zz, .slice zp zb.length zA, .slice zh z3.length zs]) (t := 34) ?hr ?_; (case hd => rfl); (case hg => rfl); (case hr => first | (go_simp; done) | (go_simp; rfl)); intro zD hg w3 hbox hb; have zc := Aside0.mk (hbox); have zW := Aside0.mk ((by rw [hg]; exact (below_size (hW HB)) : w.heap.size ≤ zD)); have zE := Aside0.mk ((by rw [hg]; exact (below_size (hW HB)) : w.heap.size ≤ zD)); replace HB := hF HB hb; clear hb hbox hg))
 go_loopg [6] k (fun kq v6 w' => ∃ (z0 : Int), v6 = .int .i64 z0 ∧ Aside0 (gatehouseref08_Trust.l0 kq a1 z0 z2 z1 z4 z5 z6 z7 z8 z9 za zb z3 = some (r1, r2)) ∧ Aside0 (kq ≤ k) ∧ Aside0 (w'.heap[zD]? = some (.cells #[(.slice zf z2.length zq), (.slice zg z1.length zr), (.slice zi z4.length zt), (.slice zj z5.length zu), (.slice zk z6.length zv), (.slice zl z7.length zw), (.slice zm z8.length zx), (.slice zn z9.length zy), (.slice zo za.length zz), (.slice zp zb.length zA), (.slice zh z3.length zs)] 34 (0, 0))) ∧ Aside0 (Below w.heap.size w w'))
 case atStart => exact ⟨(0), (by first | rfl | (simp; done) | (simp [*]; done)), H', ⟨Nat.le_refl _⟩, ⟨bE zc⟩, ⟨hW HB⟩⟩
 case round =>
  clear H'
  try clear p2
  obtain ⟨z0, rfl, HA, HK1, zc, HB⟩ := hrel
  cases gk with
  | zero => exact absurd HA.out (by simp [gatehouseref08_Trust.l0])
  | succ k1 =>
   have H := HA.out; clear HA
   simp only [gatehouseref08_Trust.l0] at H
   by_cases c4 : z0 < (z1.length : Int)
   ·rw [if_pos c4] at H
    have zJ : decide (z0 < (z1.length : Int)) = true := decide_eq_true c4; clear c4
    by_cases c5 : 0 ≤ z0
    ·rw [if_pos c5] at H
     have z1i : decide (0 ≤ z0) = true := decide_eq_true c5; clear c5
     by_cases c6 : ((rd_T57 z1 z0).f0).toList = a1.toList
     ·rw [if_pos c6] at H
      have zK : (((rd_T57 z1 z0).f0).toList == a1.toList) = true := beq_iff_eq.mpr c6; have zL : (((rd_T57 z1 z0).f0).toList != a1.toList) = false := bne_eq_false_iff_eq.mpr c6; clear c6
      simp only [Option.some.injEq, Prod.mk.injEq] at H
      obtain ⟨rfl, rfl⟩ := H; obtain ⟨z1j, z1k, z1m, z1n, z1o, z1p, z1q, z1r, z1s, z1t, z1l, z1Q, z1R, z1T, z1U, z1V, z1W, z1X, z1Y, z1Z, z20, z1S⟩ := bC11 zc; have p273 : 0 ≤ (z0 : Int) := of_decide_eq_true (by first | (with_reducible assumption) | assumption); have q273 : z0 < (z1.length : Int) := of_decide_eq_true (by first | (with_reducible assumption) | assumption); obtain ⟨zF, e273, zd, ze⟩ := at_T57 zC.out z0 p273 q273
      cases e273
      replace zd := hC HB zd; replace ze := hC HB ze; replace p273 := eq_true p273; replace q273 := eq_true q273; have p274 : 0 ≤ (z0 : Int) := of_decide_eq_true (by first | (with_reducible assumption) | assumption); have q274 : z0 < (z1.length : Int) := of_decide_eq_true (by first | (with_reducible assumption) | assumption); obtain ⟨zI, e274, zG, zH⟩ := at_T57 zC.out z0 p274 q274
      obtain rfl : zF = zI := (by injection e274)
      replace zG := hC HB zG; replace zH := hC HB zH; replace p274 := eq_true p274; replace q274 := eq_true q274
      go_wp2
      go_ret2
      exact ⟨by first | rfl | (simp [errW_none, errW_some] <;> rfl) | (simp [*, errW_none, errW_some] <;> rfl), by repeat (first | (with_reducible first | exact HB.out | apply below_alloc | apply pw_below_drewN | apply below_drew1 | refine below_set ?_ zE.out) | exact HB.out)⟩
     ·rw [if_neg c6] at H
      have zK : (((rd_T57 z1 z0).f0).toList == a1.toList) = false := beq_eq_false_iff_ne.mpr c6; have zL : (((rd_T57 z1 z0).f0).toList != a1.toList) = true := bne_iff_ne.mpr c6; have H' := Aside0.mk H; clear H; obtain ⟨z1u, z1v, z1x, z1y, z1z, z1A, z1B, z1C, z1D, z1E, z1w, z21, z22, z24, z25, z26, z27, z28, z29, z2a, z2b, z23⟩ := bC11 zc; have p273 : 0 ≤ (z0 : Int) := of_decide_eq_true (by first | (with_reducible assumption) | assumption); have q273 : z0 < (z1.length : Int) := of_decide_eq_true (by first | (with_reducible assumption) | assumption); obtain ⟨zF, e273, zd, ze⟩ := at_T57 zC.out z0 p273 q273
      cases e273
      replace zd := hC HB zd; replace ze := hC HB ze; replace p273 := eq_true p273; replace q273 := eq_true q273
      go_wp2
      go_roundg k1
      case measure => have := HK1.out; omega
      case rel => exact ⟨(wrap64 (z0 + 1)), (by first | rfl | (simp; done) | (simp [*]; done)), H', ⟨by have := HK1.out; omega⟩, ⟨bE zc⟩, ⟨hW HB⟩⟩
    ·rw [if_neg c5] at H
     exact absurd H (by simp)
   ·rw [if_neg c4] at H
    have zJ : decide (z0 < (z1.length : Int)) = false := decide_eq_false c4; clear c4
    simp only [Option.some.injEq, Prod.mk.injEq] at H
    obtain ⟨rfl, rfl⟩ := H; obtain ⟨z1F, z1G, z1I, z1J, z1K, z1L, z1M, z1N, z1O, z1P, z1H, z2c, z2d, z2f, z2g, z2h, z2i, z2j, z2k, z2l, z2m, z2e⟩ := bC11 zc
    go_wp2
    go_ret2
    exact ⟨by first | rfl | (simp [errW_none, errW_some] <;> rfl) | (simp [*, errW_none, errW_some] <;> rfl), by repeat (first | (with_reducible first | exact HB.out | apply below_alloc | apply pw_below_drewN | apply below_drew1 | refine below_set ?_ zE.out) | exact HB.out)⟩

/-! ### gatehouseref08_in: function 51 -/
def gatehouseref08_in.l0 : Nat → List ByteArray → ByteArray → Int → Option (Bool)
 | 0, _, _, _ => none
 | k + 1, x0, x1, x5 => if x5 < (x0.length : Int) then (if 0 ≤ x5 then (if (rdOf ByteArray.empty x0 x5).toList = x1.toList then (some true) else (gatehouseref08_in.l0 k x0 x1 (wrap64 (x5 + 1)))) else (none)) else (some false)
def gatehouseref08_in.f (k : Nat) (l0 : List ByteArray) (a1 : ByteArray) : Option (Bool) := gatehouseref08_in.l0 k l0 a1 0
set_option maxHeartbeats 8000000 in
set_option maxRecDepth 100000 in
theorem gatehouseref08_in.calls (k : Nat) (A0 : Option Addr) (c0 : Nat) (l0 : List ByteArray) (a1 : ByteArray) (r : Bool) (w : World) (hr0 : Kd.C Kd.string w A0 l0.length l0) (hc0 : l0.length ≤ c0) (h : gatehouseref08_in.f k l0 a1 = some r) :
  Calls Try.prog 51 #[.slice A0 l0.length c0, .string a1] w fun e w' => e = .returned (.bool r) ∧ Drawn0 w w' := by
 have HR0 := Aside0.mk hr0; have HC0 := Aside0.mk hc0; clear hr0 hc0; have H : (gatehouseref08_in.l0 k l0 a1 0) = some r := h; clear h; have H' := Aside0.mk H; clear H
 go_enter Try.func51, Try.ntmps51
 go_wp2
 go_loopg [5] k (fun kq v5 w' => ∃ (z0 : Int), v5 = .int .i64 z0 ∧ Aside0 (gatehouseref08_in.l0 kq l0 a1 z0 = some r) ∧ Aside0 (kq ≤ k) ∧ Drawn0 w w')
 case atStart => exact ⟨(0), (by first | rfl | (simp; done) | (simp [*]; done)), H', ⟨Nat.le_refl _⟩, by repeat (first | exact Drawn0.refl _ | apply Drawn0.step)⟩
 case round =>
  clear H'
  try clear p2
  obtain ⟨z0, rfl, HA, HK1, ⟨m1, rfl⟩⟩ := hrel
  cases gk with
  | zero => exact absurd HA.out (by simp [gatehouseref08_in.l0])
  | succ k1 =>
   have H := HA.out; clear HA
   simp only [gatehouseref08_in.l0] at H
   by_cases c3 : z0 < (l0.length : Int)
   ·rw [if_pos c3] at H
    have z2 : decide (z0 < (l0.length : Int)) = true := decide_eq_true c3; clear c3
    by_cases c4 : 0 ≤ z0
    ·rw [if_pos c4] at H
     have z6 : decide (0 ≤ z0) = true := decide_eq_true c4; clear c4
     by_cases c5 : (rdOf ByteArray.empty l0 z0).toList = a1.toList
     ·rw [if_pos c5] at H
      have z3 : ((rdOf ByteArray.empty l0 z0).toList == a1.toList) = true := beq_iff_eq.mpr c5; have z4 : ((rdOf ByteArray.empty l0 z0).toList != a1.toList) = false := bne_eq_false_iff_eq.mpr c5; clear c5
      obtain rfl := Option.some.inj H
      have p275 : 0 ≤ (z0 : Int) := of_decide_eq_true (by first | (with_reducible assumption) | assumption); have q275 : z0 < (l0.length : Int) := of_decide_eq_true (by first | (with_reducible assumption) | assumption); obtain ⟨z1, e275, z5⟩ := Kd.at_string HR0.out z0 p275 q275
      cases e275
      replace p275 := eq_true p275; replace q275 := eq_true q275
      go_wp2
      go_ret
      exact ⟨by first | rfl | (simp; done) | (simp [*]; done), by repeat (first | exact Drawn0.refl _ | apply Drawn0.step)⟩
     ·rw [if_neg c5] at H
      have z3 : ((rdOf ByteArray.empty l0 z0).toList == a1.toList) = false := beq_eq_false_iff_ne.mpr c5; have z4 : ((rdOf ByteArray.empty l0 z0).toList != a1.toList) = true := bne_iff_ne.mpr c5; have H' := Aside0.mk H; clear H; have p275 : 0 ≤ (z0 : Int) := of_decide_eq_true (by first | (with_reducible assumption) | assumption); have q275 : z0 < (l0.length : Int) := of_decide_eq_true (by first | (with_reducible assumption) | assumption); obtain ⟨z1, e275, z5⟩ := Kd.at_string HR0.out z0 p275 q275
      cases e275
      replace p275 := eq_true p275; replace q275 := eq_true q275
      go_wp2
      go_roundg k1
      case measure => have := HK1.out; omega
      case rel => exact ⟨(wrap64 (z0 + 1)), (by first | rfl | (simp; done) | (simp [*]; done)), H', ⟨by have := HK1.out; omega⟩, by repeat (first | exact Drawn0.refl _ | apply Drawn0.step)⟩
    ·rw [if_neg c4] at H
     exact absurd H (by simp)
   ·rw [if_neg c3] at H
    have z2 : decide (z0 < (l0.length : Int)) = false := decide_eq_false c3; clear c3
    obtain rfl := Option.some.inj H
    go_wp2
    go_ret
    exact ⟨by first | rfl | (simp; done) | (simp [*]; done), by repeat (first | exact Drawn0.refl _ | apply Drawn0.step)⟩

/-! ### gatehouseref08_Passes: function 17 -/
def gatehouseref08_Passes.f (a0_0 : Bool) (a0_1 : ByteArray) (a0_2 : ByteArray) (z1 : List ByteArray) (a0_4 : Int) (a0_5 : Nat) (a1 : Nat) : Option (Bool) := if a0_4 = 0 then (some true) else (if a0_4 = 1 then (if (fge a1 a0_5) = true then (some true) else (if a0_4 = 2 then (some (flt a1 a0_5)) else (some false))) else (if a0_4 = 2 then (some (flt a1 a0_5)) else (some false)))
set_option maxHeartbeats 8000000 in
set_option maxRecDepth 100000 in
theorem gatehouseref08_Passes.calls (a0_0 : Bool) (a0_1 : ByteArray) (a0_2 : ByteArray) (z4 : Option Addr) (z5 : Nat) (z1 : List ByteArray) (a0_4 : Int) (a0_5 : Nat) (a1 : Nat) (r : Bool) (w : World) (hr0_3 : Kd.C Kd.string w z4 z1.length z1) (hc0_3 : z1.length ≤ z5) (h : gatehouseref08_Passes.f a0_0 a0_1 a0_2 z1 a0_4 a0_5 a1 = some r) :
  Calls Try.prog 17 #[.agg #[.bool a0_0, .string a0_1, .string a0_2, .slice z4 z1.length z5, .int .i8 a0_4, .float .f64 a0_5], .float .f64 a1] w fun e w' => e = .returned (.bool r) ∧ Below w.heap.size w w' := by
 have hu27 := Try.underlying27; have zh := Aside0.mk hr0_3; have zg := Aside0.mk hc0_3; clear hr0_3 hc0_3; have HB := Aside0.mk (Below.refl w.heap.size w); have H : (if a0_4 = 0 then (some true) else (if a0_4 = 1 then (if (fge a1 a0_5) = true then (some true) else (if a0_4 = 2 then (some (flt a1 a0_5)) else (some false))) else (if a0_4 = 2 then (some (flt a1 a0_5)) else (some false)))) = some r := h; clear h
 by_cases c3 : a0_4 = 0
 ·rw [if_pos c3] at H
  have zb : (a0_4 == 0) = true := beq_iff_eq.mpr c3; have zc : (a0_4 != 0) = false := bne_eq_false_iff_eq.mpr c3; clear c3
  obtain rfl := Option.some.inj H
  go_enter Try.func17, Try.ntmps17
  go_wp2_with (first | ((with_reducible refine gate_dst (N := 2) rfl ?_); refine box_event ?hg (N := 2) ?hd (cs := #[.bool a0_0, .string a0_1, .string a0_2, .slice z4 z1.length z5, .int .i8 a0_4, .float .f64 a0_5]) (t := 27) ?hr ?_; (case hd => rfl); (case hg => rfl); (case hr => first | (go_simp; done) | (go_simp; rfl)); intro z0 hg w4 hbox hb; have z2 := Aside0.mk (hbox); have z6 := Aside0.mk ((by rw [hg]; exact (below_size (hW HB)) : w.heap.size ≤ z0)); have z3 := Aside0.mk ((by rw [hg]; exact (below_size (hW HB)) : w.heap.size ≤ z0)); replace HB := hF HB hb; clear hb hbox hg; obtain ⟨zG, zH, zI, zJ, zK, zL, z1g, z1h, z1i, z1j, z1k, z1l⟩ := bC6 z2))
  go_ret
  exact ⟨by first | rfl | (simp [errW_none, errW_some] <;> rfl) | (simp [*, errW_none, errW_some] <;> rfl), by repeat (first | (with_reducible first | exact HB.out | apply below_alloc | apply pw_below_drewN | apply below_drew1 | refine below_set ?_ z3.out) | exact HB.out)⟩
 ·rw [if_neg c3] at H
  have zb : (a0_4 == 0) = false := beq_eq_false_iff_ne.mpr c3; have zc : (a0_4 != 0) = true := bne_iff_ne.mpr c3
  by_cases c6 : a0_4 = 1
  ·rw [if_pos c6] at H
   have zd : (a0_4 == 1) = true := beq_iff_eq.mpr c6; have ze : (a0_4 != 1) = false := bne_eq_false_iff_eq.mpr c6; clear c6
   by_cases c7 : (fge a1 a0_5) = true
   ·rw [if_pos c7] at H
    have zf : (fge a1 a0_5) = true := c7; clear c7
    obtain rfl := Option.some.inj H
    go_enter Try.func17, Try.ntmps17
    go_wp2_with (first | ((with_reducible refine gate_dst (N := 2) rfl ?_); refine box_event ?hg (N := 2) ?hd (cs := #[.bool a0_0, .string a0_1, .string a0_2, .slice z4 z1.length z5, .int .i8 a0_4, .float .f64 a0_5]) (t := 27) ?hr ?_; (case hd => rfl); (case hg => rfl); (case hr => first | (go_simp; done) | (go_simp; rfl)); intro z0 hg w8 hbox hb; have z2 := Aside0.mk (hbox); have z6 := Aside0.mk ((by rw [hg]; exact (below_size (hW HB)) : w.heap.size ≤ z0)); have z3 := Aside0.mk ((by rw [hg]; exact (below_size (hW HB)) : w.heap.size ≤ z0)); replace HB := hF HB hb; clear hb hbox hg; obtain ⟨zM, zN, zO, zP, zQ, zR, z1m, z1n, z1o, z1p, z1q, z1r⟩ := bC6 z2))
    go_ret
    exact ⟨by first | rfl | (simp [errW_none, errW_some] <;> rfl) | (simp [*, errW_none, errW_some] <;> rfl), by repeat (first | (with_reducible first | exact HB.out | apply below_alloc | apply pw_below_drewN | apply below_drew1 | refine below_set ?_ z3.out) | exact HB.out)⟩
   ·rw [if_neg c7] at H
    have zf : (fge a1 a0_5) = false := by simpa using c7
    clear c7
    by_cases c10 : a0_4 = 2
    ·rw [if_pos c10] at H
     have z7 : (a0_4 == 2) = true := beq_iff_eq.mpr c10; have z8 : (a0_4 != 2) = false := bne_eq_false_iff_eq.mpr c10; clear c10
     obtain rfl := Option.some.inj H
     go_enter Try.func17, Try.ntmps17
     go_wp2_with (first | ((with_reducible refine gate_dst (N := 2) rfl ?_); refine box_event ?hg (N := 2) ?hd (cs := #[.bool a0_0, .string a0_1, .string a0_2, .slice z4 z1.length z5, .int .i8 a0_4, .float .f64 a0_5]) (t := 27) ?hr ?_; (case hd => rfl); (case hg => rfl); (case hr => first | (go_simp; done) | (go_simp; rfl)); intro z0 hg w11 hbox hb; have z2 := Aside0.mk (hbox); have z6 := Aside0.mk ((by rw [hg]; exact (below_size (hW HB)) : w.heap.size ≤ z0)); have z3 := Aside0.mk ((by rw [hg]; exact (below_size (hW HB)) : w.heap.size ≤ z0)); replace HB := hF HB hb; clear hb hbox hg; obtain ⟨zi, zj, zk, zl, zm, zn, zS, zT, zU, zV, zW, zX⟩ := bC6 z2))
     go_ret
     exact ⟨by first | rfl | (simp [errW_none, errW_some] <;> rfl) | (simp [*, errW_none, errW_some] <;> rfl), by repeat (first | (with_reducible first | exact HB.out | apply below_alloc | apply pw_below_drewN | apply below_drew1 | refine below_set ?_ z3.out) | exact HB.out)⟩
    ·rw [if_neg c10] at H
     have z7 : (a0_4 == 2) = false := beq_eq_false_iff_ne.mpr c10; have z8 : (a0_4 != 2) = true := bne_iff_ne.mpr c10
     obtain rfl := Option.some.inj H
     go_enter Try.func17, Try.ntmps17
     go_wp2_with (first | ((with_reducible refine gate_dst (N := 2) rfl ?_); refine box_event ?hg (N := 2) ?hd (cs := #[.bool a0_0, .string a0_1, .string a0_2, .slice z4 z1.length z5, .int .i8 a0_4, .float .f64 a0_5]) (t := 27) ?hr ?_; (case hd => rfl); (case hg => rfl); (case hr => first | (go_simp; done) | (go_simp; rfl)); intro z0 hg w13 hbox hb; have z2 := Aside0.mk (hbox); have z6 := Aside0.mk ((by rw [hg]; exact (below_size (hW HB)) : w.heap.size ≤ z0)); have z3 := Aside0.mk ((by rw [hg]; exact (below_size (hW HB)) : w.heap.size ≤ z0)); replace HB := hF HB hb; clear hb hbox hg; obtain ⟨zo, zp, zq, zr, zs, zt, zY, zZ, z10, z11, z12, z13⟩ := bC6 z2))
     go_ret
     exact ⟨by first | rfl | (simp [errW_none, errW_some] <;> rfl) | (simp [*, errW_none, errW_some] <;> rfl), by repeat (first | (with_reducible first | exact HB.out | apply below_alloc | apply pw_below_drewN | apply below_drew1 | refine below_set ?_ z3.out) | exact HB.out)⟩
  ·rw [if_neg c6] at H
   have zd : (a0_4 == 1) = false := beq_eq_false_iff_ne.mpr c6; have ze : (a0_4 != 1) = true := bne_iff_ne.mpr c6
   by_cases c15 : a0_4 = 2
   ·rw [if_pos c15] at H
    have z9 : (a0_4 == 2) = true := beq_iff_eq.mpr c15; have za : (a0_4 != 2) = false := bne_eq_false_iff_eq.mpr c15; clear c15
    obtain rfl := Option.some.inj H
    go_enter Try.func17, Try.ntmps17
    go_wp2_with (first | ((with_reducible refine gate_dst (N := 2) rfl ?_); refine box_event ?hg (N := 2) ?hd (cs := #[.bool a0_0, .string a0_1, .string a0_2, .slice z4 z1.length z5, .int .i8 a0_4, .float .f64 a0_5]) (t := 27) ?hr ?_; (case hd => rfl); (case hg => rfl); (case hr => first | (go_simp; done) | (go_simp; rfl)); intro z0 hg w16 hbox hb; have z2 := Aside0.mk (hbox); have z6 := Aside0.mk ((by rw [hg]; exact (below_size (hW HB)) : w.heap.size ≤ z0)); have z3 := Aside0.mk ((by rw [hg]; exact (below_size (hW HB)) : w.heap.size ≤ z0)); replace HB := hF HB hb; clear hb hbox hg; obtain ⟨zu, zv, zw, zx, zy, zz, z14, z15, z16, z17, z18, z19⟩ := bC6 z2))
    go_ret
    exact ⟨by first | rfl | (simp [errW_none, errW_some] <;> rfl) | (simp [*, errW_none, errW_some] <;> rfl), by repeat (first | (with_reducible first | exact HB.out | apply below_alloc | apply pw_below_drewN | apply below_drew1 | refine below_set ?_ z3.out) | exact HB.out)⟩
   ·rw [if_neg c15] at H
    have z9 : (a0_4 == 2) = false := beq_eq_false_iff_ne.mpr c15; have za : (a0_4 != 2) = true := bne_iff_ne.mpr c15
    obtain rfl := Option.some.inj H
    go_enter Try.func17, Try.ntmps17
    go_wp2_with (first | ((with_reducible refine gate_dst (N := 2) rfl ?_); refine box_event ?hg (N := 2) ?hd (cs := #[.bool a0_0, .string a0_1, .string a0_2, .slice z4 z1.length z5, .int .i8 a0_4, .float .f64 a0_5]) (t := 27) ?hr ?_; (case hd => rfl); (case hg => rfl); (case hr => first | (go_simp; done) | (go_simp; rfl)); intro z0 hg w18 hbox hb; have z2 := Aside0.mk (hbox); have z6 := Aside0.mk ((by rw [hg]; exact (below_size (hW HB)) : w.heap.size ≤ z0)); have z3 := Aside0.mk ((by rw [hg]; exact (below_size (hW HB)) : w.heap.size ≤ z0)); replace HB := hF HB hb; clear hb hbox hg; obtain ⟨zA, zB, zC, zD, zE, zF, z1a, z1b, z1c, z1d, z1e, z1f⟩ := bC6 z2))
    go_ret
    exact ⟨by first | rfl | (simp [errW_none, errW_some] <;> rfl) | (simp [*, errW_none, errW_some] <;> rfl), by repeat (first | (with_reducible first | exact HB.out | apply below_alloc | apply pw_below_drewN | apply below_drew1 | refine below_set ?_ z3.out) | exact HB.out)⟩

/-! ### gatehouseref08_about: function 52 -/
def gatehouseref08_about.f (k : Nat) (a0_0 : Bool) (a0_1 : ByteArray) (a0_2 : ByteArray) (z0 : List ByteArray) (a0_4 : Int) (a0_5 : Nat) (l1 : List ByteArray) (a2 : Nat) (l3 : List ByteArray) : Option (Bool) := (gatehouseref08_in.f k l1 a0_1).bind fun t278 => ((gatehouseref08_in.f k l3 a0_2).bind fun t279 => ((gatehouseref08_Passes.f a0_0 a0_1 a0_2 z0 a0_4 a0_5 a2).bind fun t280 => (if t278 = true then (if t279 = true then (some t280) else (some false)) else (some false))))
set_option maxHeartbeats 8000000 in
set_option maxRecDepth 100000 in
theorem gatehouseref08_about.calls (k : Nat) (a0_0 : Bool) (a0_1 : ByteArray) (a0_2 : ByteArray) (z2 : Option Addr) (z3 : Nat) (z0 : List ByteArray) (a0_4 : Int) (a0_5 : Nat) (A1 : Option Addr) (c1 : Nat) (l1 : List ByteArray) (a2 : Nat) (A3 : Option Addr) (c3 : Nat) (l3 : List ByteArray) (r : Bool) (w : World) (hr0_3 : Kd.C Kd.string w z2 z0.length z0) (hc0_3 : z0.length ≤ z3) (hr1 : Kd.C Kd.string w A1 l1.length l1) (hc1 : l1.length ≤ c1) (hr3 : Kd.C Kd.string w A3 l3.length l3) (hc3 : l3.length ≤ c3) (h : gatehouseref08_about.f k a0_0 a0_1 a0_2 z0 a0_4 a0_5 l1 a2 l3 = some r) :
  Calls Try.prog 52 #[.agg #[.bool a0_0, .string a0_1, .string a0_2, .slice z2 z0.length z3, .int .i8 a0_4, .float .f64 a0_5], .slice A1 l1.length c1, .float .f64 a2, .slice A3 l3.length c3] w fun e w' => e = .returned (.bool r) ∧ Below w.heap.size w w' := by
 have hu27 := Try.underlying27; have z7 := Aside0.mk hr0_3; have z6 := Aside0.mk hc0_3; clear hr0_3 hc0_3; have HR1 := Aside0.mk hr1; have HC1 := Aside0.mk hc1; clear hr1 hc1; have HR3 := Aside0.mk hr3; have HC3 := Aside0.mk hc3; clear hr3 hc3; have HB := Aside0.mk (Below.refl w.heap.size w); have H : ((gatehouseref08_in.f k l1 a0_1).bind fun t278 => ((gatehouseref08_in.f k l3 a0_2).bind fun t279 => ((gatehouseref08_Passes.f a0_0 a0_1 a0_2 z0 a0_4 a0_5 a2).bind fun t280 => (if t278 = true then (if t279 = true then (some t280) else (some false)) else (some false))))) = some r := h; clear h; replace H := Option.bind_eq_some_iff.mp H; obtain ⟨t278, A50, H⟩ := H; replace H : ((gatehouseref08_in.f k l3 a0_2).bind fun t279 => ((gatehouseref08_Passes.f a0_0 a0_1 a0_2 z0 a0_4 a0_5 a2).bind fun t280 => (if t278 = true then (if t279 = true then (some t280) else (some false)) else (some false)))) = some r := H; have A5 := Aside0.mk A50; clear A50; replace H := Option.bind_eq_some_iff.mp H; obtain ⟨t279, A60, H⟩ := H; replace H : ((gatehouseref08_Passes.f a0_0 a0_1 a0_2 z0 a0_4 a0_5 a2).bind fun t280 => (if t278 = true then (if t279 = true then (some t280) else (some false)) else (some false))) = some r := H; have A6 := Aside0.mk A60; clear A60; replace H := Option.bind_eq_some_iff.mp H; obtain ⟨t280, A70, H⟩ := H; replace H : (if t278 = true then (if t279 = true then (some t280) else (some false)) else (some false)) = some r := H; have A7 := Aside0.mk A70; clear A70
 by_cases c8 : t278 = true
 ·subst c8
  have H1 : (if t279 = true then (some t280) else (some false)) = some r := by rw [if_pos rfl] at H; exact H
  clear H; have H := H1; clear H1
  by_cases c9 : t279 = true
  ·subst c9
   have H1 : (some t280) = some r := by rw [if_pos rfl] at H; exact H
   clear H; have H := H1; clear H1
   obtain rfl := Option.some.inj H
   go_enter Try.func52, Try.ntmps52
   go_wp2_with (first | ((with_reducible refine gate_dst (N := 4) rfl ?_); refine box_event ?hg (N := 4) ?hd (cs := #[.bool a0_0, .string a0_1, .string a0_2, .slice z2 z0.length z3, .int .i8 a0_4, .float .f64 a0_5]) (t := 27) ?hr ?_; (case hd => rfl); (case hg => rfl); (case hr => first | (go_simp; done) | (go_simp; rfl)); intro z4 hg w10 hbox hb; have z1 := Aside0.mk (hbox); have z8 := Aside0.mk ((by rw [hg]; exact (below_size (hW HB)) : w.heap.size ≤ z4)); have z5 := Aside0.mk ((by rw [hg]; exact (below_size (hW HB)) : w.heap.size ≤ z4)); replace HB := hF HB hb; clear hb hbox hg; obtain ⟨z9, za, zb, zc, zd, ze, zr, zs, zt, zu, zv, zw⟩ := bC6 z1) | ((with_reducible refine gate_callee (f := 51) rfl ?_); refine goesL_ (some 15) rfl rfl Try.func51 (by kernel_rfl) rfl #[.slice A1 l1.length c1, .string a0_1] rfl (by (try simp only [List.map_toArray, List.map_cons, List.map_nil]); first | done | rfl | (simp only [List.length_drop, List.length_take]; rfl)) ?_; (with_reducible refine (gatehouseref08_in.calls k _ _ l1 a0_1 true _ ?side1 ?side2 A5.out).mono ?_); (case side1 => exact cE (Kd.C_below HR1.out HB.out)); (case side2 => exact HC1.out); rintro e w' ⟨rfl, ⟨nd, rfl⟩⟩; refine ⟨_, rfl, ?_⟩) | ((with_reducible refine gate_callee (f := 51) rfl ?_); refine goesL_ (some 19) rfl rfl Try.func51 (by kernel_rfl) rfl #[.slice A3 l3.length c3, .string a0_2] rfl (by (try simp only [List.map_toArray, List.map_cons, List.map_nil]); first | done | rfl | (simp only [List.length_drop, List.length_take]; rfl)) ?_; (with_reducible refine (gatehouseref08_in.calls k _ _ l3 a0_2 true _ ?side1 ?side2 A6.out).mono ?_); (case side1 => exact cE (Kd.C_below HR3.out (hW HB))); (case side2 => exact HC3.out); rintro e w' ⟨rfl, ⟨nd, rfl⟩⟩; refine ⟨_, rfl, ?_⟩) | ((with_reducible refine gate_callee (f := 17) rfl ?_); refine goesL_ (some 22) rfl rfl Try.func17 (by kernel_rfl) rfl #[.agg #[.bool a0_0, .string a0_1, .string a0_2, .slice z2 z0.length z3, .int .i8 a0_4, .float .f64 a0_5], .float .f64 a2] rfl (by (try simp only [List.map_toArray, List.map_cons, List.map_nil]); first | done | rfl | (simp only [List.length_drop, List.length_take]; rfl)) ?_; (with_reducible refine (gatehouseref08_Passes.calls a0_0 a0_1 a0_2 _ _ z0 a0_4 a0_5 a2 t280 _ ?side1 ?side2 A7.out).mono ?_); (case side1 => exact cE (Kd.C_below z7.out (hW HB))); (case side2 => exact z6.out); rintro e w12 ⟨rfl, hb⟩; refine ⟨_, rfl, ?_⟩; replace z1 := kF z1 hb; replace HB := hF HB hb; (try clear hb); (try clear hb2); (try clear hk); (try clear hi)))
   go_ret
   exact ⟨by first | rfl | (simp [errW_none, errW_some] <;> rfl) | (simp [*, errW_none, errW_some] <;> rfl), by repeat (first | (with_reducible first | exact HB.out | apply below_alloc | apply pw_below_drewN | apply below_drew1 | refine below_set ?_ z5.out) | exact HB.out)⟩
  ·replace c9 := Bool.eq_false_iff.mpr c9
   subst c9
   have H1 : (some false) = some r := by rw [if_neg (show ¬ (false = true) by decide)] at H; exact H
   clear H; have H := H1; clear H1
   obtain rfl := Option.some.inj H
   go_enter Try.func52, Try.ntmps52
   go_wp2_with (first | ((with_reducible refine gate_dst (N := 4) rfl ?_); refine box_event ?hg (N := 4) ?hd (cs := #[.bool a0_0, .string a0_1, .string a0_2, .slice z2 z0.length z3, .int .i8 a0_4, .float .f64 a0_5]) (t := 27) ?hr ?_; (case hd => rfl); (case hg => rfl); (case hr => first | (go_simp; done) | (go_simp; rfl)); intro z4 hg w13 hbox hb; have z1 := Aside0.mk (hbox); have z8 := Aside0.mk ((by rw [hg]; exact (below_size (hW HB)) : w.heap.size ≤ z4)); have z5 := Aside0.mk ((by rw [hg]; exact (below_size (hW HB)) : w.heap.size ≤ z4)); replace HB := hF HB hb; clear hb hbox hg; obtain ⟨zf, zg, zh, zi, zj, zk, zx, zy, zz, zA, zB, zC⟩ := bC6 z1) | ((with_reducible refine gate_callee (f := 51) rfl ?_); refine goesL_ (some 15) rfl rfl Try.func51 (by kernel_rfl) rfl #[.slice A1 l1.length c1, .string a0_1] rfl (by (try simp only [List.map_toArray, List.map_cons, List.map_nil]); first | done | rfl | (simp only [List.length_drop, List.length_take]; rfl)) ?_; (with_reducible refine (gatehouseref08_in.calls k _ _ l1 a0_1 true _ ?side1 ?side2 A5.out).mono ?_); (case side1 => exact cE (Kd.C_below HR1.out HB.out)); (case side2 => exact HC1.out); rintro e w' ⟨rfl, ⟨nd, rfl⟩⟩; refine ⟨_, rfl, ?_⟩) | ((with_reducible refine gate_callee (f := 51) rfl ?_); refine goesL_ (some 19) rfl rfl Try.func51 (by kernel_rfl) rfl #[.slice A3 l3.length c3, .string a0_2] rfl (by (try simp only [List.map_toArray, List.map_cons, List.map_nil]); first | done | rfl | (simp only [List.length_drop, List.length_take]; rfl)) ?_; (with_reducible refine (gatehouseref08_in.calls k _ _ l3 a0_2 false _ ?side1 ?side2 A6.out).mono ?_); (case side1 => exact cE (Kd.C_below HR3.out (hW HB))); (case side2 => exact HC3.out); rintro e w' ⟨rfl, ⟨nd, rfl⟩⟩; refine ⟨_, rfl, ?_⟩) | ((with_reducible refine gate_callee (f := 17) rfl ?_); refine goesL_ (some 22) rfl rfl Try.func17 (by kernel_rfl) rfl #[.agg #[.bool a0_0, .string a0_1, .string a0_2, .slice z2 z0.length z3, .int .i8 a0_4, .float .f64 a0_5], .float .f64 a2] rfl (by (try simp only [List.map_toArray, List.map_cons, List.map_nil]); first | done | rfl | (simp only [List.length_drop, List.length_take]; rfl)) ?_; (with_reducible refine (gatehouseref08_Passes.calls a0_0 a0_1 a0_2 _ _ z0 a0_4 a0_5 a2 t280 _ ?side1 ?side2 A7.out).mono ?_); (case side1 => exact cE (Kd.C_below z7.out (hW HB))); (case side2 => exact z6.out); rintro e w15 ⟨rfl, hb⟩; refine ⟨_, rfl, ?_⟩; replace z1 := kF z1 hb; replace HB := hF HB hb; (try clear hb); (try clear hb2); (try clear hk); (try clear hi)))
   go_ret
   exact ⟨by first | rfl | (simp [errW_none, errW_some] <;> rfl) | (simp [*, errW_none, errW_some] <;> rfl), by repeat (first | (with_reducible first | exact HB.out | apply below_alloc | apply pw_below_drewN | apply below_drew1 | refine below_set ?_ z5.out) | exact HB.out)⟩
 ·replace c8 := Bool.eq_false_iff.mpr c8
  subst c8
  have H1 : (some false) = some r := by rw [if_neg (show ¬ (false = true) by decide)] at H; exact H
  clear H; have H := H1; clear H1
  obtain rfl := Option.some.inj H
  go_enter Try.func52, Try.ntmps52
  go_wp2_with (first | ((with_reducible refine gate_dst (N := 4) rfl ?_); refine box_event ?hg (N := 4) ?hd (cs := #[.bool a0_0, .string a0_1, .string a0_2, .slice z2 z0.length z3, .int .i8 a0_4, .float .f64 a0_5]) (t := 27) ?hr ?_; (case hd => rfl); (case hg => rfl); (case hr => first | (go_simp; done) | (go_simp; rfl)); intro z4 hg w16 hbox hb; have z1 := Aside0.mk (hbox); have z8 := Aside0.mk ((by rw [hg]; exact (below_size (hW HB)) : w.heap.size ≤ z4)); have z5 := Aside0.mk ((by rw [hg]; exact (below_size (hW HB)) : w.heap.size ≤ z4)); replace HB := hF HB hb; clear hb hbox hg; obtain ⟨zl, zm, zn, zo, zp, zq, zD, zE, zF, zG, zH, zI⟩ := bC6 z1) | ((with_reducible refine gate_callee (f := 51) rfl ?_); refine goesL_ (some 15) rfl rfl Try.func51 (by kernel_rfl) rfl #[.slice A1 l1.length c1, .string a0_1] rfl (by (try simp only [List.map_toArray, List.map_cons, List.map_nil]); first | done | rfl | (simp only [List.length_drop, List.length_take]; rfl)) ?_; (with_reducible refine (gatehouseref08_in.calls k _ _ l1 a0_1 false _ ?side1 ?side2 A5.out).mono ?_); (case side1 => exact cE (Kd.C_below HR1.out HB.out)); (case side2 => exact HC1.out); rintro e w' ⟨rfl, ⟨nd, rfl⟩⟩; refine ⟨_, rfl, ?_⟩) | ((with_reducible refine gate_callee (f := 51) rfl ?_); refine goesL_ (some 19) rfl rfl Try.func51 (by kernel_rfl) rfl #[.slice A3 l3.length c3, .string a0_2] rfl (by (try simp only [List.map_toArray, List.map_cons, List.map_nil]); first | done | rfl | (simp only [List.length_drop, List.length_take]; rfl)) ?_; (with_reducible refine (gatehouseref08_in.calls k _ _ l3 a0_2 t279 _ ?side1 ?side2 A6.out).mono ?_); (case side1 => exact cE (Kd.C_below HR3.out (hW HB))); (case side2 => exact HC3.out); rintro e w' ⟨rfl, ⟨nd, rfl⟩⟩; refine ⟨_, rfl, ?_⟩) | ((with_reducible refine gate_callee (f := 17) rfl ?_); refine goesL_ (some 22) rfl rfl Try.func17 (by kernel_rfl) rfl #[.agg #[.bool a0_0, .string a0_1, .string a0_2, .slice z2 z0.length z3, .int .i8 a0_4, .float .f64 a0_5], .float .f64 a2] rfl (by (try simp only [List.map_toArray, List.map_cons, List.map_nil]); first | done | rfl | (simp only [List.length_drop, List.length_take]; rfl)) ?_; (with_reducible refine (gatehouseref08_Passes.calls a0_0 a0_1 a0_2 _ _ z0 a0_4 a0_5 a2 t280 _ ?side1 ?side2 A7.out).mono ?_); (case side1 => exact cE (Kd.C_below z7.out (hW HB))); (case side2 => exact z6.out); rintro e w18 ⟨rfl, hb⟩; refine ⟨_, rfl, ?_⟩; replace z1 := kF z1 hb; replace HB := hF HB hb; (try clear hb); (try clear hb2); (try clear hk); (try clear hi)))
  go_ret
  exact ⟨by first | rfl | (simp [errW_none, errW_some] <;> rfl) | (simp [*, errW_none, errW_some] <;> rfl), by repeat (first | (with_reducible first | exact HB.out | apply below_alloc | apply pw_below_drewN | apply below_drew1 | refine below_set ?_ z5.out) | exact HB.out)⟩

/-! ### gatehouseref08_Ups: function 53 -/
mutual
def gatehouseref08_Ups.l0 : Nat → List (S86) → List (S86) → List ByteArray → Option (List ByteArray)
 | 0, _, _, _ => none
 | k + 1, x0, x1, x7 => gatehouseref08_Ups.l1 k x0 x1 x7 (x7.length : Int) 0
def gatehouseref08_Ups.l1 : Nat → List (S86) → List (S86) → List ByteArray → Int → Int → Option (List ByteArray)
 | 0, _, _, _, _, _ => none
 | k + 1, x0, x1, x7, x8, x9 => if x9 < (wrap64 ((x0.length : Int) + (x1.length : Int))) then (if x9 < (x0.length : Int) then (if 0 ≤ x9 then (gatehouseref08_Ups.j2 k x0 x1 x7 x8 x9 ((rd_T86 x0 x9).f0) ((rd_T86 x0 x9).f1)) else (none)) else (if 0 ≤ (wrap64 (x9 - (x0.length : Int))) then (if (wrap64 (x9 - (x0.length : Int))) < (x1.length : Int) then (gatehouseref08_Ups.j2 k x0 x1 x7 x8 x9 ((rd_T86 x1 (wrap64 (x9 - (x0.length : Int)))).f0) ((rd_T86 x1 (wrap64 (x9 - (x0.length : Int)))).f1)) else (none)) else (none))) else (if (x7.length : Int) = x8 then (some x7) else (gatehouseref08_Ups.l0 k x0 x1 x7))
def gatehouseref08_Ups.j2 : Nat → List (S86) → List (S86) → List ByteArray → Int → Int → ByteArray → ByteArray → Option (List ByteArray)
 | 0, _, _, _, _, _, _, _ => none
 | k + 1, x0, x1, x7, x8, x9, zK, zl => (gatehouseref08_in.f k x7 zK).bind fun t287 => ((gatehouseref08_in.f k x7 zl).bind fun t288 => (if t287 = true then (if t288 = true then (gatehouseref08_Ups.l1 k x0 x1 x7 x8 (wrap64 (x9 + 1))) else (if x7.length < 8796093022208 then (gatehouseref08_Ups.l1 k x0 x1 (x7 ++ [zl]) x8 (wrap64 (x9 + 1))) else (none))) else (gatehouseref08_Ups.l1 k x0 x1 x7 x8 (wrap64 (x9 + 1)))))
end
def gatehouseref08_Ups.f (k : Nat) (l0 : List (S86)) (l1 : List (S86)) (a2 : ByteArray) : Option (List ByteArray) := gatehouseref08_Ups.l0 k l0 l1 (([a2] : List ByteArray))
set_option maxHeartbeats 8000000 in
set_option maxRecDepth 100000 in
theorem gatehouseref08_Ups.calls (k : Nat) (A0 : Option Addr) (c0 : Nat) (l0 : List (S86)) (A1 : Option Addr) (c1 : Nat) (l1 : List (S86)) (a2 : ByteArray) (r : List ByteArray) (w : World) (hr0 : Kd.C k86 w A0 l0.length l0) (hc0 : l0.length ≤ c0) (hr1 : Kd.C k86 w A1 l1.length l1) (hc1 : l1.length ≤ c1) (h : gatehouseref08_Ups.f k l0 l1 a2 = some r) :
  Calls Try.prog 53 #[.slice A0 l0.length c0, .slice A1 l1.length c1, .string a2] w fun e w' => ∃ v0_ : Value, e = .returned (v0_) ∧ Kd.R Kd.string 9 w' w.heap.size (fun _ => True) v0_ r ∧ Below w.heap.size w w' := by
 have hu86 := Try.underlying86; have HR0 := Aside0.mk hr0; have HC0 := Aside0.mk hc0; clear hr0 hc0; have HR1 := Aside0.mk hr1; have HC1 := Aside0.mk hc1; clear hr1 hc1; have HB := Aside0.mk (Below.refl w.heap.size w); have H : (gatehouseref08_Ups.l0 k l0 l1 (([a2] : List ByteArray))) = some r := h; clear h; obtain ⟨y281, hy281⟩ : ∃ y_ : List ByteArray, y_ = (([a2] : List ByteArray)) := ⟨_, rfl⟩
 replace H : (gatehouseref08_Ups.l0 k l0 l1 y281) = some r := by first | (rw [hy281]; with_reducible exact H) | (have H2_ := (Option.bind_some _ _).symm.trans H; rw [hy281]; with_reducible exact H2_) | (have H2_ := (Option.bind_some _ _).symm.trans H; with_reducible exact H2_) | with_reducible exact H | (rw [hy281]; exact H) | exact H
 have zh := Aside0.mk hy281; clear hy281; have H' := Aside0.mk H; clear H
 go_enter Try.func53, Try.ntmps53
 go_wp2_with (first | ((with_reducible refine gate_dst (N := 14) rfl ?_); refine Kd.R_lit Kd.string _ 9 ?hg (N := 14) ?hd (xs := ([a2] : List ByteArray)) (inner := [.string a2]) (ok := fun _ => True) (okp := fun _ => True) ?hr ?hp (fun _ hk => hk) trivial (Below.refl _ _) (Nat.le_refl _) (by simp) ?_; (case hd => rfl); (case hg => rfl); (case hr => first | (go_simp; done) | (go_simp; rfl)); (case hp => exact (Reps.one (show Kd.M Kd.string _ _ _ a2 [.string a2] from rfl) (Reps.none _ _))); intro v282 w4 ho5 hb hg_ hnew_; clear hg_ hnew_; (first | rw [← zh.out] at ho5 | (simp only [Int.reduceToNat] at ho5; rw [← zh.out] at ho5)); have zm := Aside0.mk (Kd.R_lower ho5 (below_size (hW HB))); replace HB := hF HB hb; clear hb ho5))
 go_loopg [7] k (fun kq v7 w' => ∃ (z3 : List ByteArray), Aside0 (gatehouseref08_Ups.l0 kq l0 l1 z3 = some r) ∧ Aside0 (kq ≤ k) ∧ Aside0 (Kd.R Kd.string 9 w' w.heap.size (fun _ => True) v7 z3) ∧ Aside0 (Below w.heap.size w w'))
 case atStart => exact ⟨(y281), H', ⟨Nat.le_refl _⟩, ⟨rE zm.out⟩, ⟨hW HB⟩⟩
 case round =>
  clear H'
  try clear c1
  try clear p2
  try clear c5
  obtain ⟨z3, HA, HK1, z2, HB⟩ := hrel
  cases gk with
  | zero => exact absurd HA.out (by simp [gatehouseref08_Ups.l0])
  | succ k1 =>
   have H := HA.out; clear HA
   simp only [gatehouseref08_Ups.l0] at H
   have H' := Aside0.mk H; clear H; obtain ⟨zN, zU, zB⟩ := Kd.R_slice z2.out
   subst zB
   go_wp2
   go_loopg [7, 9] k1 (fun kq v7 v9 w' => ∃ (z0 : List ByteArray) (z1 : Int), v9 = .int .i64 z1 ∧ Aside0 (gatehouseref08_Ups.l1 kq l0 l1 z0 (z3.length : Int) z1 = some r) ∧ Aside0 (kq ≤ k1) ∧ Aside0 (Kd.R Kd.string 9 w' w.heap.size (fun _ => True) v7 z0) ∧ Aside0 (Below w.heap.size w w'))
   case atStart => exact ⟨(z3), (0), (by first | rfl | (simp; done) | (simp [*]; done)), H', ⟨Nat.le_refl _⟩, ⟨rE z2.out⟩, ⟨hW HB⟩⟩
   case round =>
    clear H'
    try clear c1
    try clear p2
    try clear c5
    try clear p2
    obtain ⟨z0, z1, rfl, HA, HK2, z2, HB⟩ := hrel
    cases gk with
    | zero => exact absurd HA.out (by simp [gatehouseref08_Ups.l1])
    | succ k2 =>
     have H := HA.out; clear HA
     simp only [gatehouseref08_Ups.l1] at H
     by_cases c7 : z1 < (wrap64 ((l0.length : Int) + (l1.length : Int)))
     ·rw [if_pos c7] at H
      have zi : decide (z1 < (wrap64 ((l0.length : Int) + (l1.length : Int)))) = true := decide_eq_true c7; clear c7; have HC8 := Aside0.mk H; clear H
      go_upto_if 29 with (first | ((with_reducible refine gate_dst (N := 10) rfl ?_); refine box_event ?hg (N := 10) ?hd (cs := #[.string (⟨#[]⟩ : ByteArray), .string (⟨#[]⟩ : ByteArray)]) (t := 86) ?hr ?_; (case hd => rfl); (case hg => rfl); (case hr => first | (go_simp; done) | (go_simp; rfl)); intro za hg w9 hbox hb; replace z2 := rF z2 hb; have z5 := Aside0.mk (hbox); have zP := Aside0.mk ((by rw [hg]; exact (below_size (hW HB)) : w.heap.size ≤ za)); have zO := Aside0.mk ((by rw [hg]; exact (below_size (hW HB)) : w.heap.size ≤ za)); replace HB := hF HB hb; clear hb hbox hg))
      (try simp only [Act.put, List.setIfInBounds_toArray, List.set_cons_zero, List.set_cons_succ])
      go_cut [] (fun wc => ∃ (kq : Nat) (z6 : ByteArray) (z4 : ByteArray), Aside0 (gatehouseref08_Ups.j2 kq l0 l1 z0 (z3.length : Int) z1 z6 z4 = some r) ∧ Aside0 (kq ≤ k2) ∧ Aside0 (Kd.R Kd.string 9 wc w.heap.size (fun _ => True) u7 z0) ∧ Aside0 (wc.heap[za]? = some (.cells #[.string z6, .string z4] 86 (0, 0))) ∧ Aside0 (Below w.heap.size w wc))
      case first =>
       have H := HC8.out; clear HC8
       by_cases c10 : z1 < (l0.length : Int)
       ·rw [if_pos c10] at H
        have z7 : decide (z1 < (l0.length : Int)) = true := decide_eq_true c10; clear c10
        (first | rw [z7] | (simp only [i64_w, i32_w]; rw [z7]) | skip)
        by_cases c11 : 0 ≤ z1
        ·rw [if_pos c11] at H
         have zq : decide (0 ≤ z1) = true := decide_eq_true c11; clear c11; have H' := Aside0.mk H; clear H; have p285 : 0 ≤ (z1 : Int) := of_decide_eq_true (by first | (with_reducible assumption) | assumption); have q285 : z1 < (l0.length : Int) := of_decide_eq_true (by first | (with_reducible assumption) | assumption); obtain ⟨zQ, e285, zb, zc⟩ := at_T86 HR0.out z1 p285 q285
         cases e285
         replace zb := hC HB zb; replace zc := hC HB zc; replace p285 := eq_true p285; replace q285 := eq_true q285; obtain ⟨zC, zD, zG, zH⟩ := bC2 z5
         go_wp2
         go_meet
         case rel => exact ⟨_, ((rd_T86 l0 z1).f0), ((rd_T86 l0 z1).f1), H', ⟨by have := HK1.out; have := HK2.out; first | omega | exact Nat.le_refl _⟩, ⟨(xR (Kd.R_types z2.out z5.out (by decide)) (fun _ hk => trivial))⟩, ⟨pK z5⟩, ⟨hW HB⟩⟩
        ·rw [if_neg c11] at H
         exact absurd H (by simp)
       ·rw [if_neg c10] at H
        have z7 : decide (z1 < (l0.length : Int)) = false := decide_eq_false c10; clear c10
        (first | rw [z7] | (simp only [i64_w, i32_w]; rw [z7]) | skip)
        obtain ⟨ji13, hji13⟩ : ∃ j_ : Int, (wrap64 (z1 - (l0.length : Int))) = j_ := ⟨_, rfl⟩
        replace H : (if 0 ≤ (ji13) then (if (ji13) < (l1.length : Int) then (gatehouseref08_Ups.j2 k2 l0 l1 z0 (z3.length : Int) z1 ((rd_T86 l1 (ji13)).f0) ((rd_T86 l1 (ji13)).f1)) else (none)) else (none)) = some r := by first | (rw [hji13] at H; exact H) | (simp only [hji13] at H ⊢; exact H)
        have hji13w : (IntKind.i64.wrap (z1 - (l0.length : Int))) = ji13 := (i64_w _).trans hji13
        by_cases c14 : 0 ≤ (ji13)
        ·rw [if_pos c14] at H
         have zr : decide (0 ≤ (ji13)) = true := decide_eq_true c14; clear c14
         by_cases c15 : (ji13) < (l1.length : Int)
         ·rw [if_pos c15] at H
          have zs : decide ((ji13) < (l1.length : Int)) = true := decide_eq_true c15; clear c15; have H' := Aside0.mk H; clear H; have p286 : 0 ≤ ((ji13) : Int) := of_decide_eq_true (by first | (with_reducible assumption) | assumption); have q286 : (ji13) < (l1.length : Int) := of_decide_eq_true (by first | (with_reducible assumption) | assumption); obtain ⟨zR, e286, zd, ze⟩ := at_T86 HR1.out (ji13) p286 q286
          cases e286
          replace zd := hC HB zd; replace ze := hC HB ze; replace p286 := eq_true p286; replace q286 := eq_true q286; obtain ⟨zE, zF, zI, zJ⟩ := bC2 z5
          go_wp2
          go_meet
          case rel => exact ⟨_, ((rd_T86 l1 (ji13)).f0), ((rd_T86 l1 (ji13)).f1), H', ⟨by have := HK1.out; have := HK2.out; first | omega | exact Nat.le_refl _⟩, ⟨(xR (Kd.R_types z2.out z5.out (by decide)) (fun _ hk => trivial))⟩, ⟨pK z5⟩, ⟨hW HB⟩⟩
         ·rw [if_neg c15] at H
          exact absurd H (by simp)
        ·rw [if_neg c14] at H
         exact absurd H (by simp)
      case rest =>
       clear HC8
       try clear c1
       try clear p2
       try clear q2
       try clear hx2
       try clear c5
       try clear p6
       try clear c7
       try clear zi
       try clear c10
       try clear z7
       try clear c11
       try clear zq
       try clear c14
       try clear zr
       try clear c15
       try clear zs
       try clear zC zD zE zF zG zH zI zJ
       try clear zb
       try clear zc
       try clear zd
       try clear ze
       try clear p2
       try clear p285
       try clear p286
       try clear q285
       try clear q286
       obtain ⟨kq, z6, z4, HA, HJ7, z2, z5, HB⟩ := hcut
       cases kq with
       | zero => exact absurd HA.out (by simp [gatehouseref08_Ups.j2])
       | succ kj7 =>
        have H := HA.out; clear HA
        simp only [gatehouseref08_Ups.j2] at H
        replace H := Option.bind_eq_some_iff.mp H; obtain ⟨t287, A170, H⟩ := H; replace H : ((gatehouseref08_in.f kj7 z0 z4).bind fun t288 => (if t287 = true then (if t288 = true then (gatehouseref08_Ups.l1 kj7 l0 l1 z0 (z3.length : Int) (wrap64 (z1 + 1))) else (if z0.length < 8796093022208 then (gatehouseref08_Ups.l1 kj7 l0 l1 (z0 ++ [z4]) (z3.length : Int) (wrap64 (z1 + 1))) else (none))) else (gatehouseref08_Ups.l1 kj7 l0 l1 z0 (z3.length : Int) (wrap64 (z1 + 1))))) = some r := H; have A17 := Aside0.mk A170; clear A170; replace H := Option.bind_eq_some_iff.mp H; obtain ⟨t288, A180, H⟩ := H; replace H : (if t287 = true then (if t288 = true then (gatehouseref08_Ups.l1 kj7 l0 l1 z0 (z3.length : Int) (wrap64 (z1 + 1))) else (if z0.length < 8796093022208 then (gatehouseref08_Ups.l1 kj7 l0 l1 (z0 ++ [z4]) (z3.length : Int) (wrap64 (z1 + 1))) else (none))) else (gatehouseref08_Ups.l1 kj7 l0 l1 z0 (z3.length : Int) (wrap64 (z1 + 1)))) = some r := H; have A18 := Aside0.mk A180; clear A180
        by_cases c19 : t287 = true
        ·subst c19
         have H1 : (if t288 = true then (gatehouseref08_Ups.l1 kj7 l0 l1 z0 (z3.length : Int) (wrap64 (z1 + 1))) else (if z0.length < 8796093022208 then (gatehouseref08_Ups.l1 kj7 l0 l1 (z0 ++ [z4]) (z3.length : Int) (wrap64 (z1 + 1))) else (none))) = some r := by rw [if_pos rfl] at H; exact H
         clear H; have H := H1; clear H1
         by_cases c20 : t288 = true
         ·subst c20
          have H1 : (gatehouseref08_Ups.l1 kj7 l0 l1 z0 (z3.length : Int) (wrap64 (z1 + 1))) = some r := by rw [if_pos rfl] at H; exact H
          clear H; have H := H1; clear H1; have H' := Aside0.mk H; clear H; obtain ⟨zV, zW, z11, z12⟩ := bC2 z5; obtain ⟨zf, zj, zw⟩ := Kd.R_slice z2.out
          subst zw
          go_wp2_with (first | ((with_reducible refine gate_callee (f := 51) rfl ?_); refine goesL_ (some 44) rfl rfl Try.func51 (by kernel_rfl) rfl #[.slice zf z0.length zj, .string z6] rfl (by (try simp only [List.map_toArray, List.map_cons, List.map_nil]); first | done | rfl | (simp only [List.length_drop, List.length_take]; rfl)) ?_; (with_reducible refine (gatehouseref08_in.calls kj7 _ _ z0 z6 true _ ?side1 ?side2 A17.out).mono ?_); (case side1 => exact cE (Kd.R_reads' z2.out).2.2); (case side2 => exact (Kd.R_reads' z2.out).2.1); rintro e w' ⟨rfl, ⟨nd, rfl⟩⟩; refine ⟨_, rfl, ?_⟩) | ((with_reducible refine gate_callee (f := 51) rfl ?_); refine goesL_ (some 48) rfl rfl Try.func51 (by kernel_rfl) rfl #[.slice zf z0.length zj, .string z4] rfl (by (try simp only [List.map_toArray, List.map_cons, List.map_nil]); first | done | rfl | (simp only [List.length_drop, List.length_take]; rfl)) ?_; (with_reducible refine (gatehouseref08_in.calls kj7 _ _ z0 z4 true _ ?side1 ?side2 A18.out).mono ?_); (case side1 => exact cE (Kd.R_reads' z2.out).2.2); (case side2 => exact (Kd.R_reads' z2.out).2.1); rintro e w' ⟨rfl, ⟨nd, rfl⟩⟩; refine ⟨_, rfl, ?_⟩))
          go_roundg kj7
          case measure => have := HK1.out; have := HK2.out; have := HJ7.out; omega
          case rel => exact ⟨(z0), (wrap64 (z1 + 1)), (by first | rfl | (simp; done) | (simp [*]; done)), H', ⟨by have := HK1.out; have := HK2.out; have := HJ7.out; omega⟩, ⟨rE z2.out⟩, ⟨hW HB⟩⟩
         ·replace c20 := Bool.eq_false_iff.mpr c20
          subst c20
          have H1 : (if z0.length < 8796093022208 then (gatehouseref08_Ups.l1 kj7 l0 l1 (z0 ++ [z4]) (z3.length : Int) (wrap64 (z1 + 1))) else (none)) = some r := by rw [if_neg (show ¬ (false = true) by decide)] at H; exact H
          clear H; have H := H1; clear H1
          by_cases c23 : z0.length < 8796093022208
          ·rw [if_pos c23] at H
           have zo := Aside0.mk c23; clear c23; obtain ⟨y289, hy289⟩ : ∃ y_ : List ByteArray, y_ = (z0 ++ [z4]) := ⟨_, rfl⟩
           replace H : (gatehouseref08_Ups.l1 kj7 l0 l1 y289 (z3.length : Int) (wrap64 (z1 + 1))) = some r := by first | (rw [hy289]; with_reducible exact H) | (have H2_ := (Option.bind_some _ _).symm.trans H; rw [hy289]; with_reducible exact H2_) | (have H2_ := (Option.bind_some _ _).symm.trans H; with_reducible exact H2_) | with_reducible exact H | (rw [hy289]; exact H) | exact H
           have zp := Aside0.mk hy289; clear hy289; have H' := Aside0.mk H; clear H; obtain ⟨zX, zY, z13, z14⟩ := bC2 z5; obtain ⟨z8, z9, zx⟩ := Kd.R_slice z2.out
           subst zx
           go_wp2_with (first | ((with_reducible refine gate_callee (f := 51) rfl ?_); refine goesL_ (some 44) rfl rfl Try.func51 (by kernel_rfl) rfl #[.slice z8 z0.length z9, .string z6] rfl (by (try simp only [List.map_toArray, List.map_cons, List.map_nil]); first | done | rfl | (simp only [List.length_drop, List.length_take]; rfl)) ?_; (with_reducible refine (gatehouseref08_in.calls kj7 _ _ z0 z6 true _ ?side1 ?side2 A17.out).mono ?_); (case side1 => exact cE (Kd.R_reads' z2.out).2.2); (case side2 => exact (Kd.R_reads' z2.out).2.1); rintro e w' ⟨rfl, ⟨nd, rfl⟩⟩; refine ⟨_, rfl, ?_⟩) | ((with_reducible refine gate_callee (f := 51) rfl ?_); refine goesL_ (some 48) rfl rfl Try.func51 (by kernel_rfl) rfl #[.slice z8 z0.length z9, .string z4] rfl (by (try simp only [List.map_toArray, List.map_cons, List.map_nil]); first | done | rfl | (simp only [List.length_drop, List.length_take]; rfl)) ?_; (with_reducible refine (gatehouseref08_in.calls kj7 _ _ z0 z4 false _ ?side1 ?side2 A18.out).mono ?_); (case side1 => exact cE (Kd.R_reads' z2.out).2.2); (case side2 => exact (Kd.R_reads' z2.out).2.1); rintro e w' ⟨rfl, ⟨nd, rfl⟩⟩; refine ⟨_, rfl, ?_⟩) | ((with_reducible refine gate_builtin (b := .append) (xs := #[.tmp 54, .tmp 57]) rfl ?_); at_builtin; refine Kd.R_append Kd.string (w0 := w) w.heap.size rfl (.tmp 54) (.tmp 57) 25 9 (.string ⟨#[]⟩) 16 rfl Try.underlying25 info9 rfl (by decide) (by omega) (.slice z8 z0.length z9) z0 z4 [.string z4] (fun _ => True) (fun _ => False) rfl rfl ?aP (fun _ hk => hk.elim) ?aF ?aO ?aB ?aS ?aL ?_; (case aP => exact rfl); (case aB => exact (hW HB)); (case aF => exact (fun _ _ => trivial)); (case aO => exact (rE z2.out)); (case aS => exact (below_size (hW HB))); (case aL => have := zo.out; omega); intro v290 w26 ho hb hg hat; rw [← zp.out] at ho; replace z5 := Aside0.mk (bG z5 hg (Kd.R_ne z2.out z5.out (by decide))); replace HB := Aside0.mk (hb); have zn := Aside0.mk (ho); clear z2; clear ho hb hg hat))
           go_roundg kj7
           case measure => have := HK1.out; have := HK2.out; have := HJ7.out; omega
           case rel => exact ⟨(y289), (wrap64 (z1 + 1)), (by first | rfl | (simp; done) | (simp [*]; done)), H', ⟨by have := HK1.out; have := HK2.out; have := HJ7.out; omega⟩, ⟨rE zn.out⟩, ⟨hW HB⟩⟩
          ·rw [if_neg c23] at H
           exact absurd H (by simp)
        ·replace c19 := Bool.eq_false_iff.mpr c19
         subst c19
         have H1 : (gatehouseref08_Ups.l1 kj7 l0 l1 z0 (z3.length : Int) (wrap64 (z1 + 1))) = some r := by rw [if_neg (show ¬ (false = true) by decide)] at H; exact H
         clear H; have H := H1; clear H1; have H' := Aside0.mk H; clear H; obtain ⟨zZ, z10, z15, z16⟩ := bC2 z5; obtain ⟨zg, zk, zy⟩ := Kd.R_slice z2.out
         subst zy
         go_wp2_with (first | ((with_reducible refine gate_callee (f := 51) rfl ?_); refine goesL_ (some 44) rfl rfl Try.func51 (by kernel_rfl) rfl #[.slice zg z0.length zk, .string z6] rfl (by (try simp only [List.map_toArray, List.map_cons, List.map_nil]); first | done | rfl | (simp only [List.length_drop, List.length_take]; rfl)) ?_; (with_reducible refine (gatehouseref08_in.calls kj7 _ _ z0 z6 false _ ?side1 ?side2 A17.out).mono ?_); (case side1 => exact cE (Kd.R_reads' z2.out).2.2); (case side2 => exact (Kd.R_reads' z2.out).2.1); rintro e w' ⟨rfl, ⟨nd, rfl⟩⟩; refine ⟨_, rfl, ?_⟩) | ((with_reducible refine gate_callee (f := 51) rfl ?_); refine goesL_ (some 48) rfl rfl Try.func51 (by kernel_rfl) rfl #[.slice zg z0.length zk, .string z4] rfl (by (try simp only [List.map_toArray, List.map_cons, List.map_nil]); first | done | rfl | (simp only [List.length_drop, List.length_take]; rfl)) ?_; (with_reducible refine (gatehouseref08_in.calls kj7 _ _ z0 z4 t288 _ ?side1 ?side2 A18.out).mono ?_); (case side1 => exact cE (Kd.R_reads' z2.out).2.2); (case side2 => exact (Kd.R_reads' z2.out).2.1); rintro e w' ⟨rfl, ⟨nd, rfl⟩⟩; refine ⟨_, rfl, ?_⟩))
         go_roundg kj7
         case measure => have := HK1.out; have := HK2.out; have := HJ7.out; omega
         case rel => exact ⟨(z0), (wrap64 (z1 + 1)), (by first | rfl | (simp; done) | (simp [*]; done)), H', ⟨by have := HK1.out; have := HK2.out; have := HJ7.out; omega⟩, ⟨rE z2.out⟩, ⟨hW HB⟩⟩
     ·rw [if_neg c7] at H
      have zi : decide (z1 < (wrap64 ((l0.length : Int) + (l1.length : Int)))) = false := decide_eq_false c7; clear c7
      by_cases c29 : (z0.length : Int) = (z3.length : Int)
      ·rw [if_pos c29] at H
       have zt : ((z0.length : Int) == (z3.length : Int)) = true := beq_iff_eq.mpr c29; have zu : ((z0.length : Int) != (z3.length : Int)) = false := bne_eq_false_iff_eq.mpr c29
       have zv : (z0.length == z3.length) = true := by first | simpa using c29 | (simp at c29 ⊢; omega)
       clear c29
       obtain rfl := Option.some.inj H
       obtain ⟨zL, zS, zz⟩ := Kd.R_slice z2.out
       subst zz
       go_wp2
       go_ret
       exact ⟨_, by first | rfl | (simp [errW_none, errW_some] <;> rfl) | (simp [*, errW_none, errW_some] <;> rfl), by (with_reducible repeat (first | apply Kd.R_alloc | apply Kd.R_drewN | apply Kd.R_drew)); exact z2.out, by repeat (first | (with_reducible first | exact HB.out | apply below_alloc | apply pw_below_drewN | apply below_drew1) | exact HB.out)⟩
      ·rw [if_neg c29] at H
       have zt : ((z0.length : Int) == (z3.length : Int)) = false := beq_eq_false_iff_ne.mpr c29; have zu : ((z0.length : Int) != (z3.length : Int)) = true := bne_iff_ne.mpr c29
       have zv : (z0.length == z3.length) = false := by first | simpa using c29 | (simp at c29 ⊢; omega)
       have H' := Aside0.mk H; clear H; obtain ⟨zM, zT, zA⟩ := Kd.R_slice z2.out
       subst zA
       go_wp2
       go_roundg k2
       case measure => have := HK1.out; have := HK2.out; omega
       case rel => exact ⟨(z0), H', ⟨by have := HK1.out; have := HK2.out; omega⟩, ⟨rE z2.out⟩, ⟨hW HB⟩⟩

/-! ### gatehouseref08_Matches: function 20 -/
def gatehouseref08_Matches.T6 : Bool × List (List Nat × List Nat) := (true, [([], []), ([], []), ([1], [1]), ([], []), ([3], [3]), ([], []), ([5], [5]), ([2, 4, 6], [2, 4, 6]), ([], []), ([], []), ([9], [9]), ([], []), ([11], [11]), ([], []), ([13], [13]), ([10, 12, 14, 7], [10, 12, 14]), ([0, 7, 8, 15, 15], [0, 7, 8, 15]), ([16, 16, 0, 1, 2, 3, 4, 5, 6, 7, 8, 9, 10, 11, 12, 13, 14, 15, 16], [16])])
end Go.Proofs.Ytnkdcekddhmjnaa.F
