import Derived.Test.YteefneemmdfncaaF0
import Derived.Test.YteefneemmdfncaaF7
-- Written by a program of this session (mk.py over the kit's print, turned for floats and for contracts given by hand). Not trusted: Lean checks it.
namespace Go.Proofs.Yteefneemmdfncaa.F
open Go.RowKit Go.Proofs.YteefneemmdfncaaW.PrintWords Go.Proofs.YteefneemmdfncaaW.PrintLast Go.Proofs.YteefneemmdfncaaW.PrintMore
attribute [local go_sem] max2_int min2_int max_two min_two max_three min_three max_four min_four   -- for this text's walks alone
attribute [local go_sem] flt_eql flt_neq flt_lss flt_leq flt_gtr flt_geq run_store_float
set_option linter.unusedVariables false
set_option linter.unusedSimpArgs false

attribute [local go_sem high] eqA30
/-! ### gatehouseref07_Path: function 61 -/
/-! ### gatehouseref10_joined: function 62 -/
/-! ### gatehouseref10_Explain: function 21 -/
/-! ### slices_Index_string_string: function 117 -/
def slices_Index_string_string.l0 : Nat → List ByteArray → ByteArray → Int → Int → Option (Int)
 | 0, _, _, _, _ => none
 | k + 1, x0, x1, x7, x8 => if x8 < x7 then (if 0 ≤ x8 then (if x8 < (x0.length : Int) then (if x1.toList = (rdOf ByteArray.empty x0 x8).toList then (some x8) else (slices_Index_string_string.l0 k x0 x1 x7 (wrap64 (x8 + 1)))) else (none)) else (none)) else (some (-1))
def slices_Index_string_string.f (k : Nat) (l0 : List ByteArray) (a1 : ByteArray) : Option (Int) := slices_Index_string_string.l0 k l0 a1 (l0.length : Int) 0
theorem slices_Index_string_string.mono_l : ∀ k, (∀ y0 y1 y2 y3, LeO (slices_Index_string_string.l0 k y0 y1 y2 y3) (slices_Index_string_string.l0 (k + 1) y0 y1 y2 y3))
 | 0 => fun _ _ _ _ r h => by simp [slices_Index_string_string.l0] at h
 | k + 1 => by
  have ih0 := slices_Index_string_string.mono_l k
  ·intro y0 y1 y2 y3
   unfold slices_Index_string_string.l0
   repeat' first
   | (with_reducible exact ih0 _ _ _ _)
   | (with_reducible exact LeO.refl _)
   | (with_reducible exact LeO.none _)
   | (with_reducible refine LeO.ite ?_ ?_)
   | (with_reducible refine LeO.bind ?_ (fun _ => ?_))
   | exact ih0 _ _ _ _
   | exact LeO.none _
   | refine LeO.ite ?_ ?_
   | refine LeO.bind ?_ (fun _ => ?_)
theorem slices_Index_string_string.mono : ∀ a0 a1 k, LeO (slices_Index_string_string.f k a0 a1) (slices_Index_string_string.f (k + 1) a0 a1) := by
 intro a0 a1 k
 have ih0 := slices_Index_string_string.mono_l k
 unfold slices_Index_string_string.f
 repeat' first
   | (with_reducible exact ih0 _ _ _ _)
   | (with_reducible exact LeO.refl _)
   | (with_reducible exact LeO.none _)
   | (with_reducible refine LeO.ite ?_ ?_)
   | (with_reducible refine LeO.bind ?_ (fun _ => ?_))
   | exact ih0 _ _ _ _
   | exact LeO.none _
   | refine LeO.ite ?_ ?_
   | refine LeO.bind ?_ (fun _ => ?_)
set_option maxHeartbeats 8000000 in
set_option maxRecDepth 100000 in
theorem slices_Index_string_string.calls (k : Nat) (A0 : Option Addr) (c0 : Nat) (l0 : List ByteArray) (a1 : ByteArray) (r : Int) (w : World) (hr0 : Kd.C Kd.string w A0 l0.length l0) (hc0 : l0.length ≤ c0) (h : slices_Index_string_string.f k l0 a1 = some r) :
  Calls Try.prog 117 #[.slice A0 l0.length c0, .string a1] w fun e w' => e = .returned (.int .i64 r) ∧ Drawn0 w w' := by
 have HR0 := Aside0.mk hr0; have HC0 := Aside0.mk hc0; clear hr0 hc0; have H : (slices_Index_string_string.l0 k l0 a1 (l0.length : Int) 0) = some r := h; clear h; have H' := Aside0.mk H; clear H
 go_enter Try.func117, Try.ntmps117
 go_wp2
 go_loopg [8] k (fun kq v8 w' => ∃ (z0 : Int), v8 = .int .i64 z0 ∧ Aside0 (slices_Index_string_string.l0 kq l0 a1 (l0.length : Int) z0 = some r) ∧ Aside0 (kq ≤ k) ∧ Drawn0 w w')
 case atStart => exact ⟨(0), (by first | rfl | (simp; done) | (simp [*]; done)), H', ⟨Nat.le_refl _⟩, by repeat (first | exact Drawn0.refl _ | apply Drawn0.step)⟩
 case round =>
  clear H'
  try clear c1
  try clear p2
  obtain ⟨z0, rfl, HA, HK1, ⟨m1, rfl⟩⟩ := hrel
  cases gk with
  | zero => exact absurd HA.out (by simp [slices_Index_string_string.l0])
  | succ k1 =>
   have H := HA.out; clear HA
   simp only [slices_Index_string_string.l0] at H
   by_cases c3 : z0 < (l0.length : Int)
   ·rw [if_pos c3] at H
    have z2 : decide (z0 < (l0.length : Int)) = true := decide_eq_true c3; clear c3
    by_cases c4 : 0 ≤ z0
    ·rw [if_pos c4] at H
     have z6 : decide (0 ≤ z0) = true := decide_eq_true c4; clear c4
     by_cases c5 : z0 < (l0.length : Int)
     ·rw [if_pos c5] at H
      have z7 : decide (z0 < (l0.length : Int)) = true := decide_eq_true c5; clear c5
      by_cases c6 : a1.toList = (rdOf ByteArray.empty l0 z0).toList
      ·rw [if_pos c6] at H
       have z3 : (a1.toList == (rdOf ByteArray.empty l0 z0).toList) = true := beq_iff_eq.mpr c6; have z4 : (a1.toList != (rdOf ByteArray.empty l0 z0).toList) = false := bne_eq_false_iff_eq.mpr c6; clear c6
       obtain rfl := Option.some.inj H
       have p315 : 0 ≤ (z0 : Int) := of_decide_eq_true (by first | (with_reducible assumption) | assumption); have q315 : z0 < (l0.length : Int) := of_decide_eq_true (by first | (with_reducible assumption) | assumption); obtain ⟨z1, e315, z5⟩ := Kd.at_string HR0.out z0 p315 q315
       cases e315
       replace p315 := eq_true p315; replace q315 := eq_true q315
       go_wp2
       go_ret
       exact ⟨by first | rfl | (simp; done) | (simp [*]; done), by repeat (first | exact Drawn0.refl _ | apply Drawn0.step)⟩
      ·rw [if_neg c6] at H
       have z3 : (a1.toList == (rdOf ByteArray.empty l0 z0).toList) = false := beq_eq_false_iff_ne.mpr c6; have z4 : (a1.toList != (rdOf ByteArray.empty l0 z0).toList) = true := bne_iff_ne.mpr c6; have H' := Aside0.mk H; clear H; have p315 : 0 ≤ (z0 : Int) := of_decide_eq_true (by first | (with_reducible assumption) | assumption); have q315 : z0 < (l0.length : Int) := of_decide_eq_true (by first | (with_reducible assumption) | assumption); obtain ⟨z1, e315, z5⟩ := Kd.at_string HR0.out z0 p315 q315
       cases e315
       replace p315 := eq_true p315; replace q315 := eq_true q315
       go_wp2
       go_roundg k1
       case measure => have := HK1.out; omega
       case rel => exact ⟨(wrap64 (z0 + 1)), (by first | rfl | (simp; done) | (simp [*]; done)), H', ⟨by have := HK1.out; omega⟩, by repeat (first | exact Drawn0.refl _ | apply Drawn0.step)⟩
     ·rw [if_neg c5] at H
      exact absurd H (by simp)
    ·rw [if_neg c4] at H
     exact absurd H (by simp)
   ·rw [if_neg c3] at H
    have z2 : decide (z0 < (l0.length : Int)) = false := decide_eq_false c3; clear c3
    obtain rfl := Option.some.inj H
    go_wp2
    go_ret
    exact ⟨by first | rfl | (simp; done) | (simp [*]; done), by repeat (first | exact Drawn0.refl _ | apply Drawn0.step)⟩

/-! ### slices_Contains_string_string: function 94 -/
def slices_Contains_string_string.f (k : Nat) (l0 : List ByteArray) (a1 : ByteArray) : Option (Bool) := (slices_Index_string_string.f k l0 a1).bind fun t316 => (some (decide (t316 ≥ 0)))
theorem slices_Contains_string_string.mono : ∀ a0 a1 k, LeO (slices_Contains_string_string.f k a0 a1) (slices_Contains_string_string.f (k + 1) a0 a1) := by
 intro a0 a1 k
 unfold slices_Contains_string_string.f
 repeat' first
   | (with_reducible exact slices_Index_string_string.mono _ _ _)
   | (with_reducible exact LeO.refl _)
   | (with_reducible exact LeO.none _)
   | (with_reducible refine LeO.ite ?_ ?_)
   | (with_reducible refine LeO.bind ?_ (fun _ => ?_))
   | exact slices_Index_string_string.mono _ _ _
   | exact LeO.none _
   | refine LeO.ite ?_ ?_
   | refine LeO.bind ?_ (fun _ => ?_)
set_option maxHeartbeats 8000000 in
set_option maxRecDepth 100000 in
theorem slices_Contains_string_string.calls (k : Nat) (A0 : Option Addr) (c0 : Nat) (l0 : List ByteArray) (a1 : ByteArray) (r : Bool) (w : World) (hr0 : Kd.C Kd.string w A0 l0.length l0) (hc0 : l0.length ≤ c0) (h : slices_Contains_string_string.f k l0 a1 = some r) :
  Calls Try.prog 94 #[.slice A0 l0.length c0, .string a1] w fun e w' => e = .returned (.bool r) ∧ Drawn0 w w' := by
 have HR0 := Aside0.mk hr0; have HC0 := Aside0.mk hc0; clear hr0 hc0; have H : ((slices_Index_string_string.f k l0 a1).bind fun t316 => (some (decide (t316 ≥ 0)))) = some r := h; clear h; replace H := Option.bind_eq_some_iff.mp H; obtain ⟨t316, A30, H⟩ := H; replace H : (some (decide (t316 ≥ 0))) = some r := H; have A3 := Aside0.mk A30; clear A30
 obtain rfl := Option.some.inj H
 go_enter Try.func94, Try.ntmps94
 go_wp2_with (first | ((with_reducible refine gate_callee (f := 117) rfl ?_); refine goesL_ (some 7) rfl rfl Try.func117 (by kernel_rfl) rfl #[.slice A0 l0.length c0, .string a1] rfl (by (try simp only [List.map_toArray, List.map_cons, List.map_nil]); first | done | rfl | (simp only [List.length_drop, List.length_take]; rfl)) ?_; (with_reducible refine (slices_Index_string_string.calls k _ _ l0 a1 t316 _ ?side1 ?side2 A3.out).mono ?_); (case side1 => repeat (first | exact HR0.out | (with_reducible refine Kd.C_alloc ?_ _) | (with_reducible refine Kd.C_drewN ?_ _) | (with_reducible refine Kd.C_drew ?_))); (case side2 => exact HC0.out); rintro e w' ⟨rfl, ⟨nd, rfl⟩⟩; refine ⟨_, rfl, ?_⟩))
 go_ret
 exact ⟨by first | rfl | (simp; done) | (simp [*]; done), by repeat (first | exact Drawn0.refl _ | apply Drawn0.step)⟩

-- NOT PRINTED: function 87 (api_Subject_87)

-- NOT PRINTED: function 120 (api_Subject_120)

-- NOT PRINTED: function 100 (why_there)

-- NOT PRINTED: function 63 (why_known)

-- NOT PRINTED: function 128 (api_Pair_128)

-- NOT PRINTED: function 106 (api_Pair_106)

-- NOT PRINTED: function 124 (reach_lines)

-- NOT PRINTED: function 125 (reach_Close_string)

-- NOT PRINTED: function 129 (reach_Up)

-- NOT PRINTED: function 115 (mean_stand)

-- NOT PRINTED: function 89 (mean_subject)

-- NOT PRINTED: function 91 (mean_object)

/-! ### mean_names: function 101 -/
def mean_names.f (k : Nat) (a0_0 : Bool) (a0_1 : ByteArray) (a0_2 : ByteArray) (z0 : List ByteArray) (a0_4 : Int) (a0_5 : Nat) (a1 : ByteArray) : Option (Bool) := if (z0.length : Int) = 0 then (some true) else ((slices_Contains_string_string.f k z0 a1).bind fun t321 => (some t321))
set_option maxHeartbeats 8000000 in
set_option maxRecDepth 100000 in
theorem mean_names.calls (k : Nat) (a0_0 : Bool) (a0_1 : ByteArray) (a0_2 : ByteArray) (z2 : Option Addr) (z3 : Nat) (z0 : List ByteArray) (a0_4 : Int) (a0_5 : Nat) (a1 : ByteArray) (r : Bool) (w : World) (hr0_3 : Kd.C Kd.string w z2 z0.length z0) (hc0_3 : z0.length ≤ z3) (h : mean_names.f k a0_0 a0_1 a0_2 z0 a0_4 a0_5 a1 = some r) :
  Calls Try.prog 101 #[.agg #[.bool a0_0, .string a0_1, .string a0_2, .slice z2 z0.length z3, .int .i8 a0_4, .float .f64 a0_5], .string a1] w fun e w' => e = .returned (.bool r) ∧ Below w.heap.size w w' := by
 have hu75 := Try.underlying75; have z8 := Aside0.mk hr0_3; have z7 := Aside0.mk hc0_3; clear hr0_3 hc0_3; have HB := Aside0.mk (Below.refl w.heap.size w); have H : (if (z0.length : Int) = 0 then (some true) else ((slices_Contains_string_string.f k z0 a1).bind fun t321 => (some t321))) = some r := h; clear h
 by_cases c3 : (z0.length : Int) = 0
 ·rw [if_pos c3] at H
  have z9 : ((z0.length : Int) == 0) = true := beq_iff_eq.mpr c3; have za : ((z0.length : Int) != 0) = false := bne_eq_false_iff_eq.mpr c3; clear c3
  obtain rfl := Option.some.inj H
  go_enter Try.func101, Try.ntmps101
  go_wp2_with (first | ((with_reducible refine gate_dst (N := 2) rfl ?_); refine box_event ?hg (N := 2) ?hd (cs := #[.bool a0_0, .string a0_1, .string a0_2, .slice z2 z0.length z3, .int .i8 a0_4, .float .f64 a0_5]) (t := 75) ?hr ?_; (case hd => rfl); (case hg => rfl); (case hr => first | (go_simp; done) | (go_simp; rfl)); intro z1 hg w4 hbox hb; have z4 := Aside0.mk (hbox); have z6 := Aside0.mk ((by rw [hg]; exact (below_size (hW HB)) : w.heap.size ≤ z1)); have z5 := Aside0.mk ((by rw [hg]; exact (below_size (hW HB)) : w.heap.size ≤ z1)); replace HB := hF HB hb; clear hb hbox hg; obtain ⟨zc, zd, ze, zf, zg, zh, zo, zp, zq, zr, zs, zt⟩ := bC6 z4))
  go_ret
  exact ⟨by first | rfl | (simp [errW_none, errW_some] <;> rfl) | (simp [*, errW_none, errW_some] <;> rfl), by repeat (first | (with_reducible first | exact HB.out | apply below_alloc | apply pw_below_drewN | apply below_drew1 | refine below_set ?_ z5.out) | exact HB.out)⟩
 ·rw [if_neg c3] at H
  have z9 : ((z0.length : Int) == 0) = false := beq_eq_false_iff_ne.mpr c3; have za : ((z0.length : Int) != 0) = true := bne_iff_ne.mpr c3
  have zb : ¬ (z0 = []) := fun h_ => c3 (by rw [h_]; rfl)
  replace H := Option.bind_eq_some_iff.mp H; obtain ⟨t321, A60, H⟩ := H; replace H : (some t321) = some r := H; have A6 := Aside0.mk A60; clear A60
  obtain rfl := Option.some.inj H
  go_enter Try.func101, Try.ntmps101
  go_wp2_with (first | ((with_reducible refine gate_dst (N := 2) rfl ?_); refine box_event ?hg (N := 2) ?hd (cs := #[.bool a0_0, .string a0_1, .string a0_2, .slice z2 z0.length z3, .int .i8 a0_4, .float .f64 a0_5]) (t := 75) ?hr ?_; (case hd => rfl); (case hg => rfl); (case hr => first | (go_simp; done) | (go_simp; rfl)); intro z1 hg w7 hbox hb; have z4 := Aside0.mk (hbox); have z6 := Aside0.mk ((by rw [hg]; exact (below_size (hW HB)) : w.heap.size ≤ z1)); have z5 := Aside0.mk ((by rw [hg]; exact (below_size (hW HB)) : w.heap.size ≤ z1)); replace HB := hF HB hb; clear hb hbox hg; obtain ⟨zi, zj, zk, zl, zm, zn, zu, zv, zw, zx, zy, zz⟩ := bC6 z4) | (go_at_call 94; (with_reducible refine (slices_Contains_string_string.calls k _ _ z0 a1 t321 _ ?side1 ?side2 A6.out).mono ?_); (case side1 => exact cE (Kd.C_below z8.out HB.out)); (case side2 => exact z7.out); rintro e w' ⟨rfl, ⟨nd, rfl⟩⟩))
  go_ret
  exact ⟨by first | rfl | (simp [errW_none, errW_some] <;> rfl) | (simp [*, errW_none, errW_some] <;> rfl), by repeat (first | (with_reducible first | exact HB.out | apply below_alloc | apply pw_below_drewN | apply below_drew1 | refine below_set ?_ z5.out) | exact HB.out)⟩

-- NOT PRINTED: function 122 (mean_side_has)

/-! ### mean_Passes: function 123 -/
def mean_Passes.f (a0_0 : Bool) (a0_1 : ByteArray) (a0_2 : ByteArray) (z1 : List ByteArray) (a0_4 : Int) (a0_5 : Nat) (a1 : Nat) : Option (Bool) := if a0_4 = 0 then (some true) else (if a0_4 = 1 then (some (fge a1 a0_5)) else (if a0_4 = 2 then (some (flt a1 a0_5)) else (some false)))
set_option maxHeartbeats 8000000 in
set_option maxRecDepth 100000 in
theorem mean_Passes.calls (a0_0 : Bool) (a0_1 : ByteArray) (a0_2 : ByteArray) (z4 : Option Addr) (z5 : Nat) (z1 : List ByteArray) (a0_4 : Int) (a0_5 : Nat) (a1 : Nat) (r : Bool) (w : World) (hr0_3 : Kd.C Kd.string w z4 z1.length z1) (hc0_3 : z1.length ≤ z5) (h : mean_Passes.f a0_0 a0_1 a0_2 z1 a0_4 a0_5 a1 = some r) :
  Calls Try.prog 123 #[.agg #[.bool a0_0, .string a0_1, .string a0_2, .slice z4 z1.length z5, .int .i8 a0_4, .float .f64 a0_5], .float .f64 a1] w fun e w' => e = .returned (.bool r) ∧ Below w.heap.size w w' := by
 have hu75 := Try.underlying75; have ze := Aside0.mk hr0_3; have zd := Aside0.mk hc0_3; clear hr0_3 hc0_3; have HB := Aside0.mk (Below.refl w.heap.size w); have H : (if a0_4 = 0 then (some true) else (if a0_4 = 1 then (some (fge a1 a0_5)) else (if a0_4 = 2 then (some (flt a1 a0_5)) else (some false)))) = some r := h; clear h
 by_cases c3 : a0_4 = 0
 ·rw [if_pos c3] at H
  have z7 : (a0_4 == 0) = true := beq_iff_eq.mpr c3; have z8 : (a0_4 != 0) = false := bne_eq_false_iff_eq.mpr c3; clear c3
  obtain rfl := Option.some.inj H
  go_enter Try.func123, Try.ntmps123
  go_wp2_with (first | ((with_reducible refine gate_dst (N := 2) rfl ?_); refine box_event ?hg (N := 2) ?hd (cs := #[.bool a0_0, .string a0_1, .string a0_2, .slice z4 z1.length z5, .int .i8 a0_4, .float .f64 a0_5]) (t := 75) ?hr ?_; (case hd => rfl); (case hg => rfl); (case hr => first | (go_simp; done) | (go_simp; rfl)); intro z0 hg w4 hbox hb; have z2 := Aside0.mk (hbox); have z6 := Aside0.mk ((by rw [hg]; exact (below_size (hW HB)) : w.heap.size ≤ z0)); have z3 := Aside0.mk ((by rw [hg]; exact (below_size (hW HB)) : w.heap.size ≤ z0)); replace HB := hF HB hb; clear hb hbox hg; obtain ⟨zr, zs, zt, zu, zv, zw, zP, zQ, zR, zS, zT, zU⟩ := bC6 z2))
  go_ret
  exact ⟨by first | rfl | (simp [errW_none, errW_some] <;> rfl) | (simp [*, errW_none, errW_some] <;> rfl), by repeat (first | (with_reducible first | exact HB.out | apply below_alloc | apply pw_below_drewN | apply below_drew1 | refine below_set ?_ z3.out) | exact HB.out)⟩
 ·rw [if_neg c3] at H
  have z7 : (a0_4 == 0) = false := beq_eq_false_iff_ne.mpr c3; have z8 : (a0_4 != 0) = true := bne_iff_ne.mpr c3
  by_cases c6 : a0_4 = 1
  ·rw [if_pos c6] at H
   have z9 : (a0_4 == 1) = true := beq_iff_eq.mpr c6; have za : (a0_4 != 1) = false := bne_eq_false_iff_eq.mpr c6; clear c6
   obtain rfl := Option.some.inj H
   go_enter Try.func123, Try.ntmps123
   go_wp2_with (first | ((with_reducible refine gate_dst (N := 2) rfl ?_); refine box_event ?hg (N := 2) ?hd (cs := #[.bool a0_0, .string a0_1, .string a0_2, .slice z4 z1.length z5, .int .i8 a0_4, .float .f64 a0_5]) (t := 75) ?hr ?_; (case hd => rfl); (case hg => rfl); (case hr => first | (go_simp; done) | (go_simp; rfl)); intro z0 hg w7 hbox hb; have z2 := Aside0.mk (hbox); have z6 := Aside0.mk ((by rw [hg]; exact (below_size (hW HB)) : w.heap.size ≤ z0)); have z3 := Aside0.mk ((by rw [hg]; exact (below_size (hW HB)) : w.heap.size ≤ z0)); replace HB := hF HB hb; clear hb hbox hg; obtain ⟨zx, zy, zz, zA, zB, zC, zV, zW, zX, zY, zZ, z10⟩ := bC6 z2))
   go_ret
   exact ⟨by first | rfl | (simp [errW_none, errW_some] <;> rfl) | (simp [*, errW_none, errW_some] <;> rfl), by repeat (first | (with_reducible first | exact HB.out | apply below_alloc | apply pw_below_drewN | apply below_drew1 | refine below_set ?_ z3.out) | exact HB.out)⟩
  ·rw [if_neg c6] at H
   have z9 : (a0_4 == 1) = false := beq_eq_false_iff_ne.mpr c6; have za : (a0_4 != 1) = true := bne_iff_ne.mpr c6
   by_cases c9 : a0_4 = 2
   ·rw [if_pos c9] at H
    have zb : (a0_4 == 2) = true := beq_iff_eq.mpr c9; have zc : (a0_4 != 2) = false := bne_eq_false_iff_eq.mpr c9; clear c9
    obtain rfl := Option.some.inj H
    go_enter Try.func123, Try.ntmps123
    go_wp2_with (first | ((with_reducible refine gate_dst (N := 2) rfl ?_); refine box_event ?hg (N := 2) ?hd (cs := #[.bool a0_0, .string a0_1, .string a0_2, .slice z4 z1.length z5, .int .i8 a0_4, .float .f64 a0_5]) (t := 75) ?hr ?_; (case hd => rfl); (case hg => rfl); (case hr => first | (go_simp; done) | (go_simp; rfl)); intro z0 hg w10 hbox hb; have z2 := Aside0.mk (hbox); have z6 := Aside0.mk ((by rw [hg]; exact (below_size (hW HB)) : w.heap.size ≤ z0)); have z3 := Aside0.mk ((by rw [hg]; exact (below_size (hW HB)) : w.heap.size ≤ z0)); replace HB := hF HB hb; clear hb hbox hg; obtain ⟨zf, zg, zh, zi, zj, zk, zD, zE, zF, zG, zH, zI⟩ := bC6 z2))
    go_ret
    exact ⟨by first | rfl | (simp [errW_none, errW_some] <;> rfl) | (simp [*, errW_none, errW_some] <;> rfl), by repeat (first | (with_reducible first | exact HB.out | apply below_alloc | apply pw_below_drewN | apply below_drew1 | refine below_set ?_ z3.out) | exact HB.out)⟩
   ·rw [if_neg c9] at H
    have zb : (a0_4 == 2) = false := beq_eq_false_iff_ne.mpr c9; have zc : (a0_4 != 2) = true := bne_iff_ne.mpr c9
    obtain rfl := Option.some.inj H
    go_enter Try.func123, Try.ntmps123
    go_wp2_with (first | ((with_reducible refine gate_dst (N := 2) rfl ?_); refine box_event ?hg (N := 2) ?hd (cs := #[.bool a0_0, .string a0_1, .string a0_2, .slice z4 z1.length z5, .int .i8 a0_4, .float .f64 a0_5]) (t := 75) ?hr ?_; (case hd => rfl); (case hg => rfl); (case hr => first | (go_simp; done) | (go_simp; rfl)); intro z0 hg w12 hbox hb; have z2 := Aside0.mk (hbox); have z6 := Aside0.mk ((by rw [hg]; exact (below_size (hW HB)) : w.heap.size ≤ z0)); have z3 := Aside0.mk ((by rw [hg]; exact (below_size (hW HB)) : w.heap.size ≤ z0)); replace HB := hF HB hb; clear hb hbox hg; obtain ⟨zl, zm, zn, zo, zp, zq, zJ, zK, zL, zM, zN, zO⟩ := bC6 z2))
    go_ret
    exact ⟨by first | rfl | (simp [errW_none, errW_some] <;> rfl) | (simp [*, errW_none, errW_some] <;> rfl), by repeat (first | (with_reducible first | exact HB.out | apply below_alloc | apply pw_below_drewN | apply below_drew1 | refine below_set ?_ z3.out) | exact HB.out)⟩

-- NOT PRINTED: function 102 (mean_speaks)

-- by hand: function 64 (mean_Matches)

-- NOT PRINTED: function 69 (why_whos)

-- NOT PRINTED: function 70 (why_whats)

-- by hand: function 103 (reach_Path)

-- NOT PRINTED: function 65 (why_by)

-- NOT PRINTED: function 22 (why_Explain)

/-! ### gatehouselaw10_same: function 23 -/
-- NOT PRINTED: function 4 (gatehouselaw10_WhyExplain)

end Go.Proofs.Yteefneemmdfncaa.F
