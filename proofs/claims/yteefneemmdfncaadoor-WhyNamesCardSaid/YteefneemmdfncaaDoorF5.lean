import Derived.Test.YteefneemmdfncaaDoorF0
import Derived.Test.YteefneemmdfncaaDoorF2
-- Written by a program of this session (mk.py over the kit's print, turned for floats and for contracts given by hand). Not trusted: Lean checks it.
namespace Go.Proofs.YteefneemmdfncaaDoor.F
open Go.RowKit Go.Proofs.YteefneemmdfncaaDoorW.PrintWords Go.Proofs.YteefneemmdfncaaDoorW.PrintLast Go.Proofs.YteefneemmdfncaaDoorW.PrintMore
attribute [local go_sem] max2_int min2_int max_two min_two max_three min_three max_four min_four   -- for this text's walks alone
attribute [local go_sem] flt_eql flt_neq flt_lss flt_leq flt_gtr flt_geq run_store_float
set_option linter.unusedVariables false
set_option linter.unusedSimpArgs false

attribute [local go_sem high] eqA30 eqA97
-- NOT PRINTED: function 102 (api_Pair_102)

-- NOT PRINTED: function 82 (api_Pair_82)

-- NOT PRINTED: function 98 (reach_lines)

-- NOT PRINTED: function 99 (reach_Close_string)

-- NOT PRINTED: function 94 (reach_Up)

-- NOT PRINTED: function 75 (mean_stand)

-- NOT PRINTED: function 45 (mean_subject)

/-! ### slices_Index_string_string: function 76 -/
def slices_Index_string_string.l0 : Nat → List ByteArray → ByteArray → Int → Int → Option (Int)
 | 0, _, _, _, _ => none
 | k + 1, x0, x1, x7, x8 => if x8 < x7 then (if 0 ≤ x8 then (if x8 < (x0.length : Int) then (if x1.toList = (rdOf ByteArray.empty x0 x8).toList then (some x8) else (slices_Index_string_string.l0 k x0 x1 x7 (wrap64 (x8 + 1)))) else (none)) else (none)) else (some (-1))
def slices_Index_string_string.f (k : Nat) (l0 : List ByteArray) (a1 : ByteArray) : Option (Int) := slices_Index_string_string.l0 k l0 a1 (l0.length : Int) 0
set_option maxHeartbeats 8000000 in
set_option maxRecDepth 100000 in
theorem slices_Index_string_string.calls (k : Nat) (A0 : Option Addr) (c0 : Nat) (l0 : List ByteArray) (a1 : ByteArray) (r : Int) (w : World) (hr0 : Kd.C Kd.string w A0 l0.length l0) (hc0 : l0.length ≤ c0) (h : slices_Index_string_string.f k l0 a1 = some r) :
  Calls Tryd.prog 76 #[.slice A0 l0.length c0, .string a1] w fun e w' => e = .returned (.int .i64 r) ∧ Drawn0 w w' := by
 have HR0 := Aside0.mk hr0; have HC0 := Aside0.mk hc0; clear hr0 hc0; have H : (slices_Index_string_string.l0 k l0 a1 (l0.length : Int) 0) = some r := h; clear h; have H' := Aside0.mk H; clear H
 go_enter Tryd.func76, Tryd.ntmps76
 go_wp2
 go_loopg [8] k (fun kq v8 w' => ∃ (z0 : Int), v8 = .int .i64 z0 ∧ Aside0 (slices_Index_string_string.l0 kq l0 a1 (l0.length : Int) z0 = some r) ∧ Aside0 (kq ≤ k) ∧ Drawn0 w w')
 case atStart => exact ⟨(0), (by first | rfl | (simp; done) | (simp [*]; done)), H', ⟨Nat.le_refl _⟩, by repeat (first | exact Drawn0.refl _ | apply Drawn0.step)⟩
 case round =>
  clear H'
  try clear p2
  obtain ⟨z0, rfl, HA, HK1, ⟨m1, rfl⟩⟩ := hrel
  cases gk with
  | zero => exact absurd HA.out (by simp [slices_Index_string_string.l0])
  | succ k1 =>
   have H := HA.out; clear HA
   simp only [slices_Index_string_string.l0] at H
   by_cases c3 : z0 < (l0.length : Int)
   ·rw [if_pos c3] at H
    have z2 : decide (z0 < (l0.length : Int)) = true := decide_eq_true c3; clear c3
    by_cases c4 : 0 ≤ z0
    ·rw [if_pos c4] at H
     have z6 : decide (0 ≤ z0) = true := decide_eq_true c4; clear c4
     by_cases c5 : z0 < (l0.length : Int)
     ·rw [if_pos c5] at H
      have z7 : decide (z0 < (l0.length : Int)) = true := decide_eq_true c5; clear c5
      by_cases c6 : a1.toList = (rdOf ByteArray.empty l0 z0).toList
      ·rw [if_pos c6] at H
       have z3 : (a1.toList == (rdOf ByteArray.empty l0 z0).toList) = true := beq_iff_eq.mpr c6; have z4 : (a1.toList != (rdOf ByteArray.empty l0 z0).toList) = false := bne_eq_false_iff_eq.mpr c6; clear c6
       obtain rfl := Option.some.inj H
       have p182 : 0 ≤ (z0 : Int) := of_decide_eq_true (by first | (with_reducible assumption) | assumption); have q182 : z0 < (l0.length : Int) := of_decide_eq_true (by first | (with_reducible assumption) | assumption); obtain ⟨z1, e182, z5⟩ := Kd.at_string HR0.out z0 p182 q182
       cases e182
       replace p182 := eq_true p182; replace q182 := eq_true q182
       go_wp2
       go_ret
       exact ⟨by first | rfl | (simp; done) | (simp [*]; done), by repeat (first | exact Drawn0.refl _ | apply Drawn0.step)⟩
      ·rw [if_neg c6] at H
       have z3 : (a1.toList == (rdOf ByteArray.empty l0 z0).toList) = false := beq_eq_false_iff_ne.mpr c6; have z4 : (a1.toList != (rdOf ByteArray.empty l0 z0).toList) = true := bne_iff_ne.mpr c6; have H' := Aside0.mk H; clear H; have p182 : 0 ≤ (z0 : Int) := of_decide_eq_true (by first | (with_reducible assumption) | assumption); have q182 : z0 < (l0.length : Int) := of_decide_eq_true (by first | (with_reducible assumption) | assumption); obtain ⟨z1, e182, z5⟩ := Kd.at_string HR0.out z0 p182 q182
       cases e182
       replace p182 := eq_true p182; replace q182 := eq_true q182
       go_wp2
       go_roundg k1
       case measure => have := HK1.out; omega
       case rel => exact ⟨(wrap64 (z0 + 1)), (by first | rfl | (simp; done) | (simp [*]; done)), H', ⟨by have := HK1.out; omega⟩, by repeat (first | exact Drawn0.refl _ | apply Drawn0.step)⟩
     ·rw [if_neg c5] at H
      exact absurd H (by simp)
    ·rw [if_neg c4] at H
     exact absurd H (by simp)
   ·rw [if_neg c3] at H
    have z2 : decide (z0 < (l0.length : Int)) = false := decide_eq_false c3; clear c3
    obtain rfl := Option.some.inj H
    go_wp2
    go_ret
    exact ⟨by first | rfl | (simp; done) | (simp [*]; done), by repeat (first | exact Drawn0.refl _ | apply Drawn0.step)⟩

/-! ### slices_Contains_string_string: function 47 -/
def slices_Contains_string_string.f (k : Nat) (l0 : List ByteArray) (a1 : ByteArray) : Option (Bool) := (slices_Index_string_string.f k l0 a1).bind fun t183 => (some (decide (t183 ≥ 0)))
set_option maxHeartbeats 8000000 in
set_option maxRecDepth 100000 in
theorem slices_Contains_string_string.calls (k : Nat) (A0 : Option Addr) (c0 : Nat) (l0 : List ByteArray) (a1 : ByteArray) (r : Bool) (w : World) (hr0 : Kd.C Kd.string w A0 l0.length l0) (hc0 : l0.length ≤ c0) (h : slices_Contains_string_string.f k l0 a1 = some r) :
  Calls Tryd.prog 47 #[.slice A0 l0.length c0, .string a1] w fun e w' => e = .returned (.bool r) ∧ Drawn0 w w' := by
 have HR0 := Aside0.mk hr0; have HC0 := Aside0.mk hc0; clear hr0 hc0; have H : ((slices_Index_string_string.f k l0 a1).bind fun t183 => (some (decide (t183 ≥ 0)))) = some r := h; clear h; replace H := Option.bind_eq_some_iff.mp H; obtain ⟨t183, A30, H⟩ := H; replace H : (some (decide (t183 ≥ 0))) = some r := H; have A3 := Aside0.mk A30; clear A30
 obtain rfl := Option.some.inj H
 go_enter Tryd.func47, Tryd.ntmps47
 go_wp2_with (first | ((with_reducible refine gate_callee (f := 76) rfl ?_); refine goesL_ (some 7) rfl rfl Tryd.func76 (by kernel_rfl) rfl #[.slice A0 l0.length c0, .string a1] rfl (by (try simp only [List.map_toArray, List.map_cons, List.map_nil]); first | done | rfl | (simp only [List.length_drop, List.length_take]; rfl)) ?_; (with_reducible refine (slices_Index_string_string.calls k _ _ l0 a1 t183 _ ?side1 ?side2 A3.out).mono ?_); (case side1 => repeat (first | exact HR0.out | (with_reducible refine Kd.C_alloc ?_ _) | (with_reducible refine Kd.C_drewN ?_ _) | (with_reducible refine Kd.C_drew ?_))); (case side2 => exact HC0.out); rintro e w' ⟨rfl, ⟨nd, rfl⟩⟩; refine ⟨_, rfl, ?_⟩))
 go_ret
 exact ⟨by first | rfl | (simp; done) | (simp [*]; done), by repeat (first | exact Drawn0.refl _ | apply Drawn0.step)⟩

-- NOT PRINTED: function 46 (mean_object)

/-! ### mean_names: function 77 -/
def mean_names.f (k : Nat) (a0_0 : Bool) (a0_1 : ByteArray) (a0_2 : ByteArray) (z0 : List ByteArray) (a0_4 : Int) (a0_5 : Nat) (a1 : ByteArray) : Option (Bool) := if (z0.length : Int) = 0 then (some true) else ((slices_Contains_string_string.f k z0 a1).bind fun t185 => (some t185))
set_option maxHeartbeats 8000000 in
set_option maxRecDepth 100000 in
theorem mean_names.calls (k : Nat) (a0_0 : Bool) (a0_1 : ByteArray) (a0_2 : ByteArray) (z2 : Option Addr) (z3 : Nat) (z0 : List ByteArray) (a0_4 : Int) (a0_5 : Nat) (a1 : ByteArray) (r : Bool) (w : World) (hr0_3 : Kd.C Kd.string w z2 z0.length z0) (hc0_3 : z0.length ≤ z3) (h : mean_names.f k a0_0 a0_1 a0_2 z0 a0_4 a0_5 a1 = some r) :
  Calls Tryd.prog 77 #[.agg #[.bool a0_0, .string a0_1, .string a0_2, .slice z2 z0.length z3, .int .i8 a0_4, .float .f64 a0_5], .string a1] w fun e w' => e = .returned (.bool r) ∧ Below w.heap.size w w' := by
 have hu48 := Tryd.underlying48; have z8 := Aside0.mk hr0_3; have z7 := Aside0.mk hc0_3; clear hr0_3 hc0_3; have HB := Aside0.mk (Below.refl w.heap.size w); have H : (if (z0.length : Int) = 0 then (some true) else ((slices_Contains_string_string.f k z0 a1).bind fun t185 => (some t185))) = some r := h; clear h
 by_cases c3 : (z0.length : Int) = 0
 ·rw [if_pos c3] at H
  have z9 : ((z0.length : Int) == 0) = true := beq_iff_eq.mpr c3; have za : ((z0.length : Int) != 0) = false := bne_eq_false_iff_eq.mpr c3; clear c3
  obtain rfl := Option.some.inj H
  go_enter Tryd.func77, Tryd.ntmps77
  go_wp2_with (first | ((with_reducible refine gate_dst (N := 2) rfl ?_); refine box_event ?hg (N := 2) ?hd (cs := #[.bool a0_0, .string a0_1, .string a0_2, .slice z2 z0.length z3, .int .i8 a0_4, .float .f64 a0_5]) (t := 48) ?hr ?_; (case hd => rfl); (case hg => rfl); (case hr => first | (go_simp; done) | (go_simp; rfl)); intro z1 hg w4 hbox hb; have z4 := Aside0.mk (hbox); have z6 := Aside0.mk ((by rw [hg]; exact (below_size (hW HB)) : w.heap.size ≤ z1)); have z5 := Aside0.mk ((by rw [hg]; exact (below_size (hW HB)) : w.heap.size ≤ z1)); replace HB := hF HB hb; clear hb hbox hg; obtain ⟨zc, zd, ze, zf, zg, zh, zo, zp, zq, zr, zs, zt⟩ := bC6 z4))
  go_ret
  exact ⟨by first | rfl | (simp [errW_none, errW_some] <;> rfl) | (simp [*, errW_none, errW_some] <;> rfl), by repeat (first | (with_reducible first | exact HB.out | apply below_alloc | apply pw_below_drewN | apply below_drew1 | refine below_set ?_ z5.out) | exact HB.out)⟩
 ·rw [if_neg c3] at H
  have z9 : ((z0.length : Int) == 0) = false := beq_eq_false_iff_ne.mpr c3; have za : ((z0.length : Int) != 0) = true := bne_iff_ne.mpr c3
  have zb : ¬ (z0 = []) := fun h_ => c3 (by rw [h_]; rfl)
  replace H := Option.bind_eq_some_iff.mp H; obtain ⟨t185, A60, H⟩ := H; replace H : (some t185) = some r := H; have A6 := Aside0.mk A60; clear A60
  obtain rfl := Option.some.inj H
  go_enter Tryd.func77, Tryd.ntmps77
  go_wp2_with (first | ((with_reducible refine gate_dst (N := 2) rfl ?_); refine box_event ?hg (N := 2) ?hd (cs := #[.bool a0_0, .string a0_1, .string a0_2, .slice z2 z0.length z3, .int .i8 a0_4, .float .f64 a0_5]) (t := 48) ?hr ?_; (case hd => rfl); (case hg => rfl); (case hr => first | (go_simp; done) | (go_simp; rfl)); intro z1 hg w7 hbox hb; have z4 := Aside0.mk (hbox); have z6 := Aside0.mk ((by rw [hg]; exact (below_size (hW HB)) : w.heap.size ≤ z1)); have z5 := Aside0.mk ((by rw [hg]; exact (below_size (hW HB)) : w.heap.size ≤ z1)); replace HB := hF HB hb; clear hb hbox hg; obtain ⟨zi, zj, zk, zl, zm, zn, zu, zv, zw, zx, zy, zz⟩ := bC6 z4) | (go_at_call 47; (with_reducible refine (slices_Contains_string_string.calls k _ _ z0 a1 t185 _ ?side1 ?side2 A6.out).mono ?_); (case side1 => exact cE (Kd.C_below z8.out HB.out)); (case side2 => exact z7.out); rintro e w' ⟨rfl, ⟨nd, rfl⟩⟩))
  go_ret
  exact ⟨by first | rfl | (simp [errW_none, errW_some] <;> rfl) | (simp [*, errW_none, errW_some] <;> rfl), by repeat (first | (with_reducible first | exact HB.out | apply below_alloc | apply pw_below_drewN | apply below_drew1 | refine below_set ?_ z5.out) | exact HB.out)⟩

/-! ### api_Triple_95: function 95 -/
def api_Triple_95.l0 : Nat → List (S30) → Int → Int → ByteArray → ByteArray → ByteArray → Option (Int)
 | 0, _, _, _, _, _, _ => none
 | k + 1, x0, x7, x8, z8, z9, za => if x8 < x7 then (if 0 ≤ x8 then (if x8 < (x0.length : Int) then (if (z8.toList == (((rd_T30 x0 x8).f0).toList) && (z9.toList == (((rd_T30 x0 x8).f1).toList) && (za.toList == (((rd_T30 x0 x8).f2).toList)))) = true then (some x8) else (api_Triple_95.l0 k x0 x7 (wrap64 (x8 + 1)) z8 z9 za)) else (none)) else (none)) else (some (-1))
def api_Triple_95.f (k : Nat) (l0 : List (S30)) (a1_0 : ByteArray) (a1_1 : ByteArray) (a1_2 : ByteArray) : Option (Int) := api_Triple_95.l0 k l0 (l0.length : Int) 0 a1_0 a1_1 a1_2
set_option maxHeartbeats 8000000 in
set_option maxRecDepth 100000 in
theorem api_Triple_95.calls (k : Nat) (A0 : Option Addr) (c0 : Nat) (l0 : List (S30)) (a1_0 : ByteArray) (a1_1 : ByteArray) (a1_2 : ByteArray) (r : Int) (w : World) (hr0 : Kd.C k30 w A0 l0.length l0) (hc0 : l0.length ≤ c0) (h : api_Triple_95.f k l0 a1_0 a1_1 a1_2 = some r) :
  Calls Tryd.prog 95 #[.slice A0 l0.length c0, .agg #[.string a1_0, .string a1_1, .string a1_2]] w fun e w' => e = .returned (.int .i64 r) ∧ Below w.heap.size w w' := by
 have hu30 := Tryd.underlying30; have HR0 := Aside0.mk hr0; have HC0 := Aside0.mk hc0; clear hr0 hc0; have HB := Aside0.mk (Below.refl w.heap.size w); have H : (api_Triple_95.l0 k l0 (l0.length : Int) 0 a1_0 a1_1 a1_2) = some r := h; clear h; have H' := Aside0.mk H; clear H
 go_enter Tryd.func95, Tryd.ntmps95
 go_wp2_with (first | ((with_reducible refine gate_dst (N := 3) rfl ?_); refine box_event ?hg (N := 3) ?hd (cs := #[.string a1_0, .string a1_1, .string a1_2]) (t := 30) ?hr ?_; (case hd => rfl); (case hg => rfl); (case hr => first | (go_simp; done) | (go_simp; rfl)); intro z1 hg w3 hbox hb; have z2 := Aside0.mk (hbox); have z7 := Aside0.mk ((by rw [hg]; exact (below_size (hW HB)) : w.heap.size ≤ z1)); have z6 := Aside0.mk ((by rw [hg]; exact (below_size (hW HB)) : w.heap.size ≤ z1)); replace HB := hF HB hb; clear hb hbox hg))
 repeat (go_quiet (first | ((with_reducible refine gate_dst (N := 3) rfl ?_); refine box_event ?hg (N := 3) ?hd (cs := #[.string a1_0, .string a1_1, .string a1_2]) (t := 30) ?hr ?_; (case hd => rfl); (case hg => rfl); (case hr => first | (go_simp; done) | (go_simp; rfl)); intro z1 hg w3 hbox hb; have z2 := Aside0.mk (hbox); have z7 := Aside0.mk ((by rw [hg]; exact (below_size (hW HB)) : w.heap.size ≤ z1)); have z6 := Aside0.mk ((by rw [hg]; exact (below_size (hW HB)) : w.heap.size ≤ z1)); replace HB := hF HB hb; clear hb hbox hg)); try go_wp2_with (first | ((with_reducible refine gate_dst (N := 3) rfl ?_); refine box_event ?hg (N := 3) ?hd (cs := #[.string a1_0, .string a1_1, .string a1_2]) (t := 30) ?hr ?_; (case hd => rfl); (case hg => rfl); (case hr => first | (go_simp; done) | (go_simp; rfl)); intro z1 hg w3 hbox hb; have z2 := Aside0.mk (hbox); have z7 := Aside0.mk ((by rw [hg]; exact (below_size (hW HB)) : w.heap.size ≤ z1)); have z6 := Aside0.mk ((by rw [hg]; exact (below_size (hW HB)) : w.heap.size ≤ z1)); replace HB := hF HB hb; clear hb hbox hg)))
 go_loopg [8] k (fun kq v8 w' => ∃ (z0 : Int), v8 = .int .i64 z0 ∧ Aside0 (api_Triple_95.l0 kq l0 (l0.length : Int) z0 a1_0 a1_1 a1_2 = some r) ∧ Aside0 (kq ≤ k) ∧ Aside0 (w'.heap[z1]? = some (.cells #[.string a1_0, .string a1_1, .string a1_2] 30 (0, 0))) ∧ Aside0 (Below w.heap.size w w'))
 case atStart => exact ⟨(0), (by first | rfl | (simp; done) | (simp [*]; done)), H', ⟨Nat.le_refl _⟩, ⟨bE z2⟩, ⟨hW HB⟩⟩
 case round =>
  clear H'
  try clear p2
  obtain ⟨z0, rfl, HA, HK1, z2, HB⟩ := hrel
  cases gk with
  | zero => exact absurd HA.out (by simp [api_Triple_95.l0])
  | succ k1 =>
   have H := HA.out; clear HA
   simp only [api_Triple_95.l0] at H
   by_cases c4 : z0 < (l0.length : Int)
   ·rw [if_pos c4] at H
    have zc : decide (z0 < (l0.length : Int)) = true := decide_eq_true c4; clear c4
    by_cases c5 : 0 ≤ z0
    ·rw [if_pos c5] at H
     have zg : decide (0 ≤ z0) = true := decide_eq_true c5; clear c5
     by_cases c6 : z0 < (l0.length : Int)
     ·rw [if_pos c6] at H
      have zh : decide (z0 < (l0.length : Int)) = true := decide_eq_true c6; clear c6
      by_cases c7 : (a1_0.toList == (((rd_T30 l0 z0).f0).toList) && (a1_1.toList == (((rd_T30 l0 z0).f1).toList) && (a1_2.toList == (((rd_T30 l0 z0).f2).toList)))) = true
      ·rw [if_pos c7] at H
       have zd : (a1_0.toList == (((rd_T30 l0 z0).f0).toList) && (a1_1.toList == (((rd_T30 l0 z0).f1).toList) && (a1_2.toList == (((rd_T30 l0 z0).f2).toList)))) = true := c7
       (try (have ze : decide (a1_0.toList = (((rd_T30 l0 z0).f0).toList) && (a1_1.toList == (((rd_T30 l0 z0).f1).toList) && (a1_2.toList == (((rd_T30 l0 z0).f2).toList)))) = true := by simpa using c7))
       (try (have zf : (a1_0.toList == (((rd_T30 l0 z0).f0).toList) && (a1_1.toList == (((rd_T30 l0 z0).f1).toList) && (a1_2.toList == (((rd_T30 l0 z0).f2).toList)))) = true := by simpa using c7))
       clear c7
       obtain rfl := Option.some.inj H
       obtain ⟨zj, zk, zl, zp, zq, zr⟩ := bC3 z2; have p187 : 0 ≤ (z0 : Int) := of_decide_eq_true (by first | (with_reducible assumption) | assumption); have q187 : z0 < (l0.length : Int) := of_decide_eq_true (by first | (with_reducible assumption) | assumption); obtain ⟨zb, e187, z3, z4, z5⟩ := at_T30 HR0.out z0 p187 q187
       cases e187
       replace z3 := hC HB z3; replace z4 := hC HB z4; replace z5 := hC HB z5; replace p187 := eq_true p187; replace q187 := eq_true q187
       go_wp2
       repeat (go_quiet (fail); try go_wp2)
       go_ret
       exact ⟨by first | rfl | (simp [errW_none, errW_some] <;> rfl) | (simp [*, errW_none, errW_some] <;> rfl), by repeat (first | (with_reducible first | exact HB.out | apply below_alloc | apply pw_below_drewN | apply below_drew1 | refine below_set ?_ z6.out) | exact HB.out)⟩
      ·rw [if_neg c7] at H
       have zd : (a1_0.toList == (((rd_T30 l0 z0).f0).toList) && (a1_1.toList == (((rd_T30 l0 z0).f1).toList) && (a1_2.toList == (((rd_T30 l0 z0).f2).toList)))) = false := by simpa using c7
       (try (have ze : decide (a1_0.toList = (((rd_T30 l0 z0).f0).toList) && (a1_1.toList == (((rd_T30 l0 z0).f1).toList) && (a1_2.toList == (((rd_T30 l0 z0).f2).toList)))) = false := by simpa using c7))
       (try (have zf : (a1_0.toList == (((rd_T30 l0 z0).f0).toList) && (a1_1.toList == (((rd_T30 l0 z0).f1).toList) && (a1_2.toList == (((rd_T30 l0 z0).f2).toList)))) = false := by simpa using c7))
       (try (have zi : ¬ (a1_0.toList = (((rd_T30 l0 z0).f0).toList) && (a1_1.toList == (((rd_T30 l0 z0).f1).toList) && (a1_2.toList == (((rd_T30 l0 z0).f2).toList)))) := by simpa using c7))
       clear c7; have H' := Aside0.mk H; clear H; obtain ⟨zm, zn, zo, zs, zt, zu⟩ := bC3 z2; have p187 : 0 ≤ (z0 : Int) := of_decide_eq_true (by first | (with_reducible assumption) | assumption); have q187 : z0 < (l0.length : Int) := of_decide_eq_true (by first | (with_reducible assumption) | assumption); obtain ⟨zb, e187, z3, z4, z5⟩ := at_T30 HR0.out z0 p187 q187
       cases e187
       replace z3 := hC HB z3; replace z4 := hC HB z4; replace z5 := hC HB z5; replace p187 := eq_true p187; replace q187 := eq_true q187
       go_wp2
       repeat (go_quiet (fail); try go_wp2)
       go_roundg k1
       case measure => have := HK1.out; omega
       case rel => exact ⟨(wrap64 (z0 + 1)), (by first | rfl | (simp; done) | (simp [*]; done)), H', ⟨by have := HK1.out; omega⟩, ⟨bE z2⟩, ⟨hW HB⟩⟩
     ·rw [if_neg c6] at H
      exact absurd H (by simp)
    ·rw [if_neg c5] at H
     exact absurd H (by simp)
   ·rw [if_neg c4] at H
    have zc : decide (z0 < (l0.length : Int)) = false := decide_eq_false c4; clear c4
    obtain rfl := Option.some.inj H
    go_wp2
    repeat (go_quiet (fail); try go_wp2)
    go_ret
    exact ⟨by first | rfl | (simp [errW_none, errW_some] <;> rfl) | (simp [*, errW_none, errW_some] <;> rfl), by repeat (first | (with_reducible first | exact HB.out | apply below_alloc | apply pw_below_drewN | apply below_drew1 | refine below_set ?_ z6.out) | exact HB.out)⟩

/-! ### api_Triple_78: function 78 -/
def api_Triple_78.f (k : Nat) (l0 : List (S30)) (a1_0 : ByteArray) (a1_1 : ByteArray) (a1_2 : ByteArray) : Option (Bool) := (api_Triple_95.f k l0 a1_0 a1_1 a1_2).bind fun t189 => (some (decide (t189 ≥ 0)))
set_option maxHeartbeats 8000000 in
set_option maxRecDepth 100000 in
theorem api_Triple_78.calls (k : Nat) (A0 : Option Addr) (c0 : Nat) (l0 : List (S30)) (a1_0 : ByteArray) (a1_1 : ByteArray) (a1_2 : ByteArray) (r : Bool) (w : World) (hr0 : Kd.C k30 w A0 l0.length l0) (hc0 : l0.length ≤ c0) (h : api_Triple_78.f k l0 a1_0 a1_1 a1_2 = some r) :
  Calls Tryd.prog 78 #[.slice A0 l0.length c0, .agg #[.string a1_0, .string a1_1, .string a1_2]] w fun e w' => e = .returned (.bool r) ∧ Below w.heap.size w w' := by
 have hu30 := Tryd.underlying30; have HR0 := Aside0.mk hr0; have HC0 := Aside0.mk hc0; clear hr0 hc0; have HB := Aside0.mk (Below.refl w.heap.size w); have H : ((api_Triple_95.f k l0 a1_0 a1_1 a1_2).bind fun t189 => (some (decide (t189 ≥ 0)))) = some r := h; clear h; replace H := Option.bind_eq_some_iff.mp H; obtain ⟨t189, A30, H⟩ := H; replace H : (some (decide (t189 ≥ 0))) = some r := H; have A3 := Aside0.mk A30; clear A30
 obtain rfl := Option.some.inj H
 go_enter Tryd.func78, Tryd.ntmps78
 go_wp2_with (first | ((with_reducible refine gate_dst (N := 3) rfl ?_); refine box_event ?hg (N := 3) ?hd (cs := #[.string a1_0, .string a1_1, .string a1_2]) (t := 30) ?hr ?_; (case hd => rfl); (case hg => rfl); (case hr => first | (go_simp; done) | (go_simp; rfl)); intro z1 hg w4 hbox hb; have z0 := Aside0.mk (hbox); have z3 := Aside0.mk ((by rw [hg]; exact (below_size (hW HB)) : w.heap.size ≤ z1)); have z2 := Aside0.mk ((by rw [hg]; exact (below_size (hW HB)) : w.heap.size ≤ z1)); replace HB := hF HB hb; clear hb hbox hg; obtain ⟨z4, z5, z6, z7, z8, z9⟩ := bC3 z0) | ((with_reducible refine gate_callee (f := 95) rfl ?_); refine goesL_ (some 7) rfl rfl Tryd.func95 (by kernel_rfl) rfl #[.slice A0 l0.length c0, .agg #[.string a1_0, .string a1_1, .string a1_2]] rfl (by (try simp only [List.map_toArray, List.map_cons, List.map_nil]); first | done | rfl | (simp only [List.length_drop, List.length_take]; rfl)) ?_; (with_reducible refine (api_Triple_95.calls k _ _ l0 a1_0 a1_1 a1_2 t189 _ ?side1 ?side2 A3.out).mono ?_); (case side1 => exact cE (Kd.C_below HR0.out HB.out)); (case side2 => exact HC0.out); rintro e w6 ⟨rfl, hb⟩; refine ⟨_, rfl, ?_⟩; replace z0 := kF z0 hb; replace HB := hF HB hb; (try clear hb); (try clear hb2); (try clear hk); (try clear hi)))
 go_ret
 exact ⟨by first | rfl | (simp [errW_none, errW_some] <;> rfl) | (simp [*, errW_none, errW_some] <;> rfl), by repeat (first | (with_reducible first | exact HB.out | apply below_alloc | apply pw_below_drewN | apply below_drew1 | refine below_set ?_ z2.out) | exact HB.out)⟩

-- NOT PRINTED: function 48 (mean_allows)

-- NOT PRINTED: function 96 (mean_side_has)

/-! ### mean_Passes: function 97 -/
def mean_Passes.f (a0_0 : Bool) (a0_1 : ByteArray) (a0_2 : ByteArray) (z1 : List ByteArray) (a0_4 : Int) (a0_5 : Nat) (a1 : Nat) : Option (Bool) := if a0_4 = 0 then (some true) else (if a0_4 = 1 then (some (fge a1 a0_5)) else (if a0_4 = 2 then (some (flt a1 a0_5)) else (some false)))
set_option maxHeartbeats 8000000 in
set_option maxRecDepth 100000 in
theorem mean_Passes.calls (a0_0 : Bool) (a0_1 : ByteArray) (a0_2 : ByteArray) (z4 : Option Addr) (z5 : Nat) (z1 : List ByteArray) (a0_4 : Int) (a0_5 : Nat) (a1 : Nat) (r : Bool) (w : World) (hr0_3 : Kd.C Kd.string w z4 z1.length z1) (hc0_3 : z1.length ≤ z5) (h : mean_Passes.f a0_0 a0_1 a0_2 z1 a0_4 a0_5 a1 = some r) :
  Calls Tryd.prog 97 #[.agg #[.bool a0_0, .string a0_1, .string a0_2, .slice z4 z1.length z5, .int .i8 a0_4, .float .f64 a0_5], .float .f64 a1] w fun e w' => e = .returned (.bool r) ∧ Below w.heap.size w w' := by
 have hu48 := Tryd.underlying48; have ze := Aside0.mk hr0_3; have zd := Aside0.mk hc0_3; clear hr0_3 hc0_3; have HB := Aside0.mk (Below.refl w.heap.size w); have H : (if a0_4 = 0 then (some true) else (if a0_4 = 1 then (some (fge a1 a0_5)) else (if a0_4 = 2 then (some (flt a1 a0_5)) else (some false)))) = some r := h; clear h
 by_cases c3 : a0_4 = 0
 ·rw [if_pos c3] at H
  have z7 : (a0_4 == 0) = true := beq_iff_eq.mpr c3; have z8 : (a0_4 != 0) = false := bne_eq_false_iff_eq.mpr c3; clear c3
  obtain rfl := Option.some.inj H
  go_enter Tryd.func97, Tryd.ntmps97
  go_wp2_with (first | ((with_reducible refine gate_dst (N := 2) rfl ?_); refine box_event ?hg (N := 2) ?hd (cs := #[.bool a0_0, .string a0_1, .string a0_2, .slice z4 z1.length z5, .int .i8 a0_4, .float .f64 a0_5]) (t := 48) ?hr ?_; (case hd => rfl); (case hg => rfl); (case hr => first | (go_simp; done) | (go_simp; rfl)); intro z0 hg w4 hbox hb; have z2 := Aside0.mk (hbox); have z6 := Aside0.mk ((by rw [hg]; exact (below_size (hW HB)) : w.heap.size ≤ z0)); have z3 := Aside0.mk ((by rw [hg]; exact (below_size (hW HB)) : w.heap.size ≤ z0)); replace HB := hF HB hb; clear hb hbox hg; obtain ⟨zr, zs, zt, zu, zv, zw, zP, zQ, zR, zS, zT, zU⟩ := bC6 z2))
  go_ret
  exact ⟨by first | rfl | (simp [errW_none, errW_some] <;> rfl) | (simp [*, errW_none, errW_some] <;> rfl), by repeat (first | (with_reducible first | exact HB.out | apply below_alloc | apply pw_below_drewN | apply below_drew1 | refine below_set ?_ z3.out) | exact HB.out)⟩
 ·rw [if_neg c3] at H
  have z7 : (a0_4 == 0) = false := beq_eq_false_iff_ne.mpr c3; have z8 : (a0_4 != 0) = true := bne_iff_ne.mpr c3
  by_cases c6 : a0_4 = 1
  ·rw [if_pos c6] at H
   have z9 : (a0_4 == 1) = true := beq_iff_eq.mpr c6; have za : (a0_4 != 1) = false := bne_eq_false_iff_eq.mpr c6; clear c6
   obtain rfl := Option.some.inj H
   go_enter Tryd.func97, Tryd.ntmps97
   go_wp2_with (first | ((with_reducible refine gate_dst (N := 2) rfl ?_); refine box_event ?hg (N := 2) ?hd (cs := #[.bool a0_0, .string a0_1, .string a0_2, .slice z4 z1.length z5, .int .i8 a0_4, .float .f64 a0_5]) (t := 48) ?hr ?_; (case hd => rfl); (case hg => rfl); (case hr => first | (go_simp; done) | (go_simp; rfl)); intro z0 hg w7 hbox hb; have z2 := Aside0.mk (hbox); have z6 := Aside0.mk ((by rw [hg]; exact (below_size (hW HB)) : w.heap.size ≤ z0)); have z3 := Aside0.mk ((by rw [hg]; exact (below_size (hW HB)) : w.heap.size ≤ z0)); replace HB := hF HB hb; clear hb hbox hg; obtain ⟨zx, zy, zz, zA, zB, zC, zV, zW, zX, zY, zZ, z10⟩ := bC6 z2))
   go_ret
   exact ⟨by first | rfl | (simp [errW_none, errW_some] <;> rfl) | (simp [*, errW_none, errW_some] <;> rfl), by repeat (first | (with_reducible first | exact HB.out | apply below_alloc | apply pw_below_drewN | apply below_drew1 | refine below_set ?_ z3.out) | exact HB.out)⟩
  ·rw [if_neg c6] at H
   have z9 : (a0_4 == 1) = false := beq_eq_false_iff_ne.mpr c6; have za : (a0_4 != 1) = true := bne_iff_ne.mpr c6
   by_cases c9 : a0_4 = 2
   ·rw [if_pos c9] at H
    have zb : (a0_4 == 2) = true := beq_iff_eq.mpr c9; have zc : (a0_4 != 2) = false := bne_eq_false_iff_eq.mpr c9; clear c9
    obtain rfl := Option.some.inj H
    go_enter Tryd.func97, Tryd.ntmps97
    go_wp2_with (first | ((with_reducible refine gate_dst (N := 2) rfl ?_); refine box_event ?hg (N := 2) ?hd (cs := #[.bool a0_0, .string a0_1, .string a0_2, .slice z4 z1.length z5, .int .i8 a0_4, .float .f64 a0_5]) (t := 48) ?hr ?_; (case hd => rfl); (case hg => rfl); (case hr => first | (go_simp; done) | (go_simp; rfl)); intro z0 hg w10 hbox hb; have z2 := Aside0.mk (hbox); have z6 := Aside0.mk ((by rw [hg]; exact (below_size (hW HB)) : w.heap.size ≤ z0)); have z3 := Aside0.mk ((by rw [hg]; exact (below_size (hW HB)) : w.heap.size ≤ z0)); replace HB := hF HB hb; clear hb hbox hg; obtain ⟨zf, zg, zh, zi, zj, zk, zD, zE, zF, zG, zH, zI⟩ := bC6 z2))
    go_ret
    exact ⟨by first | rfl | (simp [errW_none, errW_some] <;> rfl) | (simp [*, errW_none, errW_some] <;> rfl), by repeat (first | (with_reducible first | exact HB.out | apply below_alloc | apply pw_below_drewN | apply below_drew1 | refine below_set ?_ z3.out) | exact HB.out)⟩
   ·rw [if_neg c9] at H
    have zb : (a0_4 == 2) = false := beq_eq_false_iff_ne.mpr c9; have zc : (a0_4 != 2) = true := bne_iff_ne.mpr c9
    obtain rfl := Option.some.inj H
    go_enter Tryd.func97, Tryd.ntmps97
    go_wp2_with (first | ((with_reducible refine gate_dst (N := 2) rfl ?_); refine box_event ?hg (N := 2) ?hd (cs := #[.bool a0_0, .string a0_1, .string a0_2, .slice z4 z1.length z5, .int .i8 a0_4, .float .f64 a0_5]) (t := 48) ?hr ?_; (case hd => rfl); (case hg => rfl); (case hr => first | (go_simp; done) | (go_simp; rfl)); intro z0 hg w12 hbox hb; have z2 := Aside0.mk (hbox); have z6 := Aside0.mk ((by rw [hg]; exact (below_size (hW HB)) : w.heap.size ≤ z0)); have z3 := Aside0.mk ((by rw [hg]; exact (below_size (hW HB)) : w.heap.size ≤ z0)); replace HB := hF HB hb; clear hb hbox hg; obtain ⟨zl, zm, zn, zo, zp, zq, zJ, zK, zL, zM, zN, zO⟩ := bC6 z2))
    go_ret
    exact ⟨by first | rfl | (simp [errW_none, errW_some] <;> rfl) | (simp [*, errW_none, errW_some] <;> rfl), by repeat (first | (with_reducible first | exact HB.out | apply below_alloc | apply pw_below_drewN | apply below_drew1 | refine below_set ?_ z3.out) | exact HB.out)⟩

-- NOT PRINTED: function 79 (mean_speaks)

-- NOT PRINTED: function 49 (mean_about)

-- by hand: function 20 (mean_Allows)

-- NOT PRINTED: function 93 (api_Subject_93)

-- NOT PRINTED: function 72 (api_Subject_72)

-- NOT PRINTED: function 38 (why_there)

-- NOT PRINTED: function 50 (why_known)

-- by hand: function 51 (mean_Matches)

/-! ### api_Pair_101: function 101 -/
def api_Pair_101.l0 : Nat → List (S97) → Int → Int → ByteArray → ByteArray → Option (Int)
 | 0, _, _, _, _, _ => none
 | k + 1, x0, x7, x8, z7, z8 => if x8 < x7 then (if 0 ≤ x8 then (if x8 < (x0.length : Int) then (if (z7.toList == (((rd_T97 x0 x8).f0).toList) && (z8.toList == (((rd_T97 x0 x8).f1).toList))) = true then (some x8) else (api_Pair_101.l0 k x0 x7 (wrap64 (x8 + 1)) z7 z8)) else (none)) else (none)) else (some (-1))
def api_Pair_101.f (k : Nat) (l0 : List (S97)) (a1_0 : ByteArray) (a1_1 : ByteArray) : Option (Int) := api_Pair_101.l0 k l0 (l0.length : Int) 0 a1_0 a1_1
set_option maxHeartbeats 8000000 in
set_option maxRecDepth 100000 in
theorem api_Pair_101.calls (k : Nat) (A0 : Option Addr) (c0 : Nat) (l0 : List (S97)) (a1_0 : ByteArray) (a1_1 : ByteArray) (r : Int) (w : World) (hr0 : Kd.C k97 w A0 l0.length l0) (hc0 : l0.length ≤ c0) (h : api_Pair_101.f k l0 a1_0 a1_1 = some r) :
  Calls Tryd.prog 101 #[.slice A0 l0.length c0, .agg #[.string a1_0, .string a1_1]] w fun e w' => e = .returned (.int .i64 r) ∧ Below w.heap.size w w' := by
 have hu97 := Tryd.underlying97; have HR0 := Aside0.mk hr0; have HC0 := Aside0.mk hc0; clear hr0 hc0; have HB := Aside0.mk (Below.refl w.heap.size w); have H : (api_Pair_101.l0 k l0 (l0.length : Int) 0 a1_0 a1_1) = some r := h; clear h; have H' := Aside0.mk H; clear H
 go_enter Tryd.func101, Tryd.ntmps101
 go_wp2_with (first | ((with_reducible refine gate_dst (N := 3) rfl ?_); refine box_event ?hg (N := 3) ?hd (cs := #[.string a1_0, .string a1_1]) (t := 97) ?hr ?_; (case hd => rfl); (case hg => rfl); (case hr => first | (go_simp; done) | (go_simp; rfl)); intro z1 hg w3 hbox hb; have z2 := Aside0.mk (hbox); have z6 := Aside0.mk ((by rw [hg]; exact (below_size (hW HB)) : w.heap.size ≤ z1)); have z5 := Aside0.mk ((by rw [hg]; exact (below_size (hW HB)) : w.heap.size ≤ z1)); replace HB := hF HB hb; clear hb hbox hg))
 repeat (go_quiet (first | ((with_reducible refine gate_dst (N := 3) rfl ?_); refine box_event ?hg (N := 3) ?hd (cs := #[.string a1_0, .string a1_1]) (t := 97) ?hr ?_; (case hd => rfl); (case hg => rfl); (case hr => first | (go_simp; done) | (go_simp; rfl)); intro z1 hg w3 hbox hb; have z2 := Aside0.mk (hbox); have z6 := Aside0.mk ((by rw [hg]; exact (below_size (hW HB)) : w.heap.size ≤ z1)); have z5 := Aside0.mk ((by rw [hg]; exact (below_size (hW HB)) : w.heap.size ≤ z1)); replace HB := hF HB hb; clear hb hbox hg)); try go_wp2_with (first | ((with_reducible refine gate_dst (N := 3) rfl ?_); refine box_event ?hg (N := 3) ?hd (cs := #[.string a1_0, .string a1_1]) (t := 97) ?hr ?_; (case hd => rfl); (case hg => rfl); (case hr => first | (go_simp; done) | (go_simp; rfl)); intro z1 hg w3 hbox hb; have z2 := Aside0.mk (hbox); have z6 := Aside0.mk ((by rw [hg]; exact (below_size (hW HB)) : w.heap.size ≤ z1)); have z5 := Aside0.mk ((by rw [hg]; exact (below_size (hW HB)) : w.heap.size ≤ z1)); replace HB := hF HB hb; clear hb hbox hg)))
 go_loopg [8] k (fun kq v8 w' => ∃ (z0 : Int), v8 = .int .i64 z0 ∧ Aside0 (api_Pair_101.l0 kq l0 (l0.length : Int) z0 a1_0 a1_1 = some r) ∧ Aside0 (kq ≤ k) ∧ Aside0 (w'.heap[z1]? = some (.cells #[.string a1_0, .string a1_1] 97 (0, 0))) ∧ Aside0 (Below w.heap.size w w'))
 case atStart => exact ⟨(0), (by first | rfl | (simp; done) | (simp [*]; done)), H', ⟨Nat.le_refl _⟩, ⟨bE z2⟩, ⟨hW HB⟩⟩
 case round =>
  clear H'
  try clear c1
  try clear p2
  obtain ⟨z0, rfl, HA, HK1, z2, HB⟩ := hrel
  cases gk with
  | zero => exact absurd HA.out (by simp [api_Pair_101.l0])
  | succ k1 =>
   have H := HA.out; clear HA
   simp only [api_Pair_101.l0] at H
   by_cases c4 : z0 < (l0.length : Int)
   ·rw [if_pos c4] at H
    have za : decide (z0 < (l0.length : Int)) = true := decide_eq_true c4; clear c4
    by_cases c5 : 0 ≤ z0
    ·rw [if_pos c5] at H
     have ze : decide (0 ≤ z0) = true := decide_eq_true c5; clear c5
     by_cases c6 : z0 < (l0.length : Int)
     ·rw [if_pos c6] at H
      have zf : decide (z0 < (l0.length : Int)) = true := decide_eq_true c6; clear c6
      by_cases c7 : (a1_0.toList == (((rd_T97 l0 z0).f0).toList) && (a1_1.toList == (((rd_T97 l0 z0).f1).toList))) = true
      ·rw [if_pos c7] at H
       have zb : (a1_0.toList == (((rd_T97 l0 z0).f0).toList) && (a1_1.toList == (((rd_T97 l0 z0).f1).toList))) = true := c7
       (try (have zc : decide (a1_0.toList = (((rd_T97 l0 z0).f0).toList) && (a1_1.toList == (((rd_T97 l0 z0).f1).toList))) = true := by simpa using c7))
       (try (have zd : (a1_0.toList == (((rd_T97 l0 z0).f0).toList) && (a1_1.toList == (((rd_T97 l0 z0).f1).toList))) = true := by simpa using c7))
       clear c7
       obtain rfl := Option.some.inj H
       obtain ⟨zh, zi, zl, zm⟩ := bC2 z2; have p194 : 0 ≤ (z0 : Int) := of_decide_eq_true (by first | (with_reducible assumption) | assumption); have q194 : z0 < (l0.length : Int) := of_decide_eq_true (by first | (with_reducible assumption) | assumption); obtain ⟨z9, e194, z3, z4⟩ := at_T97 HR0.out z0 p194 q194
       cases e194
       replace z3 := hC HB z3; replace z4 := hC HB z4; replace p194 := eq_true p194; replace q194 := eq_true q194
       go_wp2
       repeat (go_quiet (fail); try go_wp2)
       go_ret
       exact ⟨by first | rfl | (simp [errW_none, errW_some] <;> rfl) | (simp [*, errW_none, errW_some] <;> rfl), by repeat (first | (with_reducible first | exact HB.out | apply below_alloc | apply pw_below_drewN | apply below_drew1 | refine below_set ?_ z5.out) | exact HB.out)⟩
      ·rw [if_neg c7] at H
       have zb : (a1_0.toList == (((rd_T97 l0 z0).f0).toList) && (a1_1.toList == (((rd_T97 l0 z0).f1).toList))) = false := by simpa using c7
       (try (have zc : decide (a1_0.toList = (((rd_T97 l0 z0).f0).toList) && (a1_1.toList == (((rd_T97 l0 z0).f1).toList))) = false := by simpa using c7))
       (try (have zd : (a1_0.toList == (((rd_T97 l0 z0).f0).toList) && (a1_1.toList == (((rd_T97 l0 z0).f1).toList))) = false := by simpa using c7))
       (try (have zg : ¬ (a1_0.toList = (((rd_T97 l0 z0).f0).toList) && (a1_1.toList == (((rd_T97 l0 z0).f1).toList))) := by simpa using c7))
       clear c7; have H' := Aside0.mk H; clear H; obtain ⟨zj, zk, zn, zo⟩ := bC2 z2; have p194 : 0 ≤ (z0 : Int) := of_decide_eq_true (by first | (with_reducible assumption) | assumption); have q194 : z0 < (l0.length : Int) := of_decide_eq_true (by first | (with_reducible assumption) | assumption); obtain ⟨z9, e194, z3, z4⟩ := at_T97 HR0.out z0 p194 q194
       cases e194
       replace z3 := hC HB z3; replace z4 := hC HB z4; replace p194 := eq_true p194; replace q194 := eq_true q194
       go_wp2
       repeat (go_quiet (fail); try go_wp2)
       go_roundg k1
       case measure => have := HK1.out; omega
       case rel => exact ⟨(wrap64 (z0 + 1)), (by first | rfl | (simp; done) | (simp [*]; done)), H', ⟨by have := HK1.out; omega⟩, ⟨bE z2⟩, ⟨hW HB⟩⟩
     ·rw [if_neg c6] at H
      exact absurd H (by simp)
    ·rw [if_neg c5] at H
     exact absurd H (by simp)
   ·rw [if_neg c4] at H
    have za : decide (z0 < (l0.length : Int)) = false := decide_eq_false c4; clear c4
    obtain rfl := Option.some.inj H
    go_wp2
    repeat (go_quiet (fail); try go_wp2)
    go_ret
    exact ⟨by first | rfl | (simp [errW_none, errW_some] <;> rfl) | (simp [*, errW_none, errW_some] <;> rfl), by repeat (first | (with_reducible first | exact HB.out | apply below_alloc | apply pw_below_drewN | apply below_drew1 | refine below_set ?_ z5.out) | exact HB.out)⟩

/-! ### api_Pair_81: function 81 -/
def api_Pair_81.f (k : Nat) (l0 : List (S97)) (a1_0 : ByteArray) (a1_1 : ByteArray) : Option (Bool) := (api_Pair_101.f k l0 a1_0 a1_1).bind fun t196 => (some (decide (t196 ≥ 0)))
set_option maxHeartbeats 8000000 in
set_option maxRecDepth 100000 in
theorem api_Pair_81.calls (k : Nat) (A0 : Option Addr) (c0 : Nat) (l0 : List (S97)) (a1_0 : ByteArray) (a1_1 : ByteArray) (r : Bool) (w : World) (hr0 : Kd.C k97 w A0 l0.length l0) (hc0 : l0.length ≤ c0) (h : api_Pair_81.f k l0 a1_0 a1_1 = some r) :
  Calls Tryd.prog 81 #[.slice A0 l0.length c0, .agg #[.string a1_0, .string a1_1]] w fun e w' => e = .returned (.bool r) ∧ Below w.heap.size w w' := by
 have hu97 := Tryd.underlying97; have HR0 := Aside0.mk hr0; have HC0 := Aside0.mk hc0; clear hr0 hc0; have HB := Aside0.mk (Below.refl w.heap.size w); have H : ((api_Pair_101.f k l0 a1_0 a1_1).bind fun t196 => (some (decide (t196 ≥ 0)))) = some r := h; clear h; replace H := Option.bind_eq_some_iff.mp H; obtain ⟨t196, A30, H⟩ := H; replace H : (some (decide (t196 ≥ 0))) = some r := H; have A3 := Aside0.mk A30; clear A30
 obtain rfl := Option.some.inj H
 go_enter Tryd.func81, Tryd.ntmps81
 go_wp2_with (first | ((with_reducible refine gate_dst (N := 3) rfl ?_); refine box_event ?hg (N := 3) ?hd (cs := #[.string a1_0, .string a1_1]) (t := 97) ?hr ?_; (case hd => rfl); (case hg => rfl); (case hr => first | (go_simp; done) | (go_simp; rfl)); intro z1 hg w4 hbox hb; have z0 := Aside0.mk (hbox); have z3 := Aside0.mk ((by rw [hg]; exact (below_size (hW HB)) : w.heap.size ≤ z1)); have z2 := Aside0.mk ((by rw [hg]; exact (below_size (hW HB)) : w.heap.size ≤ z1)); replace HB := hF HB hb; clear hb hbox hg; obtain ⟨z4, z5, z6, z7⟩ := bC2 z0) | ((with_reducible refine gate_callee (f := 101) rfl ?_); refine goesL_ (some 7) rfl rfl Tryd.func101 (by kernel_rfl) rfl #[.slice A0 l0.length c0, .agg #[.string a1_0, .string a1_1]] rfl (by (try simp only [List.map_toArray, List.map_cons, List.map_nil]); first | done | rfl | (simp only [List.length_drop, List.length_take]; rfl)) ?_; (with_reducible refine (api_Pair_101.calls k _ _ l0 a1_0 a1_1 t196 _ ?side1 ?side2 A3.out).mono ?_); (case side1 => exact cE (Kd.C_below HR0.out HB.out)); (case side2 => exact HC0.out); rintro e w6 ⟨rfl, hb⟩; refine ⟨_, rfl, ?_⟩; replace z0 := kF z0 hb; replace HB := hF HB hb; (try clear hb); (try clear hb2); (try clear hk); (try clear hi)))
 go_ret
 exact ⟨by first | rfl | (simp [errW_none, errW_some] <;> rfl) | (simp [*, errW_none, errW_some] <;> rfl), by repeat (first | (with_reducible first | exact HB.out | apply below_alloc | apply pw_below_drewN | apply below_drew1 | refine below_set ?_ z2.out) | exact HB.out)⟩

/-! ### why_way: function 53 -/
mutual
def why_way.j0 : Nat → List (S97) → List ByteArray → Bool → Option (Bool)
 | 0, _, _, _ => none
 | k + 1, x0, x1, x29 => if x29 = true then (some false) else (why_way.l0 k x0 x1 1)
def why_way.l0 : Nat → List (S97) → List ByteArray → Int → Option (Bool)
 | 0, _, _, _ => none
 | k + 1, x0, x1, x9 => if x9 < (x1.length : Int) then (if 0 ≤ (wrap64 (x9 - 1)) then (if (wrap64 (x9 - 1)) < (x1.length : Int) then (if 0 ≤ x9 then ((api_Pair_81.f k x0 (rdOf ByteArray.empty x1 (wrap64 (x9 - 1))) (rdOf ByteArray.empty x1 x9)).bind fun t201 => (if t201 = true then (why_way.l0 k x0 x1 (wrap64 (x9 + 1))) else (some false))) else (none)) else (none)) else (none)) else (some true)
end
def why_way.f (k : Nat) (l0 : List (S97)) (l1 : List ByteArray) (a2 : ByteArray) (a3 : ByteArray) : Option (Bool) := if (l1.length : Int) = 0 then (why_way.j0 k l0 l1 true) else (if 0 < (l1.length : Int) then (if (rdOf ByteArray.empty l1 0).toList = a2.toList then (if 0 ≤ (wrap64 ((l1.length : Int) - 1)) then (if (wrap64 ((l1.length : Int) - 1)) < (l1.length : Int) then (why_way.j0 k l0 l1 ((rdOf ByteArray.empty l1 (wrap64 ((l1.length : Int) - 1))).toList != a3.toList)) else (none)) else (none)) else (why_way.j0 k l0 l1 true)) else (none))
def why_way.T6 : Bool × List (List Nat × List Nat) := (true, [([], []), ([], []), ([], []), ([2], [2]), ([1, 3], [1, 3]), ([4], [4]), ([], []), ([], []), ([6, 7], [6, 7]), ([8], [8]), ([5, 9], [5, 9]), ([0, 10], [0, 10]), ([11], [11])])
def why_way.B6 : List Nat := [0, 0, 0, 4, 14, 30, 0, 0, 192, 448, 1022, 2047, 4095]
theorem why_way.tab6 : rtab .any (opsOf Tryd.f53 6) = why_way.T6 := by kernel_rfl
theorem why_way.bits6 : waitsOk why_way.T6.2 why_way.B6 = true := by kernel_rfl
set_option maxHeartbeats 8000000 in
set_option maxRecDepth 100000 in
theorem why_way.calls (k : Nat) (A0 : Option Addr) (c0 : Nat) (l0 : List (S97)) (A1 : Option Addr) (c1 : Nat) (l1 : List ByteArray) (a2 : ByteArray) (a3 : ByteArray) (r : Bool) (w : World) (hr0 : Kd.C k97 w A0 l0.length l0) (hc0 : l0.length ≤ c0) (hr1 : Kd.C Kd.string w A1 l1.length l1) (hc1 : l1.length ≤ c1) (h : why_way.f k l0 l1 a2 a3 = some r) :
  Calls Tryd.prog 53 #[.slice A0 l0.length c0, .slice A1 l1.length c1, .string a2, .string a3] w fun e w' => e = .returned (.bool r) ∧ Below w.heap.size w w' := by
 have hu97 := Tryd.underlying97; have HR0 := Aside0.mk hr0; have HC0 := Aside0.mk hc0; clear hr0 hc0; have HR1 := Aside0.mk hr1; have HC1 := Aside0.mk hc1; clear hr1 hc1; have HB := Aside0.mk (Below.refl w.heap.size w); have H : (if (l1.length : Int) = 0 then (why_way.j0 k l0 l1 true) else (if 0 < (l1.length : Int) then (if (rdOf ByteArray.empty l1 0).toList = a2.toList then (if 0 ≤ (wrap64 ((l1.length : Int) - 1)) then (if (wrap64 ((l1.length : Int) - 1)) < (l1.length : Int) then (why_way.j0 k l0 l1 ((rdOf ByteArray.empty l1 (wrap64 ((l1.length : Int) - 1))).toList != a3.toList)) else (none)) else (none)) else (why_way.j0 k l0 l1 true)) else (none))) = some r := h; clear h; have HC5 := Aside0.mk H; clear H
 go_enter Tryd.func53, Tryd.ntmps53
 go_upto_region 1 with (fail)
 go_cut [29] (fun v29 wc => ∃ (kq : Nat) (z9 : Bool), v29 = .bool z9 ∧ Aside0 (why_way.j0 kq l0 l1 z9 = some r) ∧ Aside0 (kq ≤ k) ∧ Aside0 (Below w.heap.size w wc))
 case first =>
  have H := HC5.out; clear HC5
  by_cases c6 : (l1.length : Int) = 0
  ·rw [if_pos c6] at H
   have z7 : ((l1.length : Int) == 0) = true := beq_iff_eq.mpr c6; have zb : ((l1.length : Int) != 0) = false := bne_eq_false_iff_eq.mpr c6; clear c6
   (first | rw [z7] | (simp only [i64_w, i32_w]; rw [z7]) | skip)
   have H' := Aside0.mk H; clear H
   go_wp2
   go_meet
   case rel => exact ⟨_, (true), (by first | rfl | (simp; done) | (simp [*]; done)), H', ⟨by first | omega | exact Nat.le_refl _⟩, ⟨hW HB⟩⟩
  ·rw [if_neg c6] at H
   have z7 : ((l1.length : Int) == 0) = false := beq_eq_false_iff_ne.mpr c6; have zb : ((l1.length : Int) != 0) = true := bne_iff_ne.mpr c6
   have zh : ¬ (l1 = []) := fun h_ => c6 (by rw [h_]; rfl)
   (first | rw [z7] | (simp only [i64_w, i32_w]; rw [z7]) | skip)
   by_cases c7 : 0 < (l1.length : Int)
   ·rw [if_pos c7] at H
    have zi : decide (0 < (l1.length : Int)) = true := decide_eq_true c7; have zj : decide (0 < l1.length) = true := decide_eq_true (by omega); clear c7
    by_cases c8 : (rdOf ByteArray.empty l1 0).toList = a2.toList
    ·rw [if_pos c8] at H
     have zc : ((rdOf ByteArray.empty l1 0).toList == a2.toList) = true := beq_iff_eq.mpr c8; have zd : ((rdOf ByteArray.empty l1 0).toList != a2.toList) = false := bne_eq_false_iff_eq.mpr c8; clear c8; obtain ⟨ji9, hji9⟩ : ∃ j_ : Int, (wrap64 ((l1.length : Int) - 1)) = j_ := ⟨_, rfl⟩
     replace H : (if 0 ≤ (ji9) then (if (ji9) < (l1.length : Int) then (why_way.j0 k l0 l1 ((rdOf ByteArray.empty l1 (ji9)).toList != a3.toList)) else (none)) else (none)) = some r := by first | (rw [hji9] at H; exact H) | (simp only [hji9] at H ⊢; exact H)
     have hji9w : (IntKind.i64.wrap ((l1.length : Int) - 1)) = ji9 := (i64_w _).trans hji9
     by_cases c10 : 0 ≤ (ji9)
     ·rw [if_pos c10] at H
      have zf : decide (0 ≤ (ji9)) = true := decide_eq_true c10; clear c10
      by_cases c11 : (ji9) < (l1.length : Int)
      ·rw [if_pos c11] at H
       have zg : decide ((ji9) < (l1.length : Int)) = true := decide_eq_true c11; clear c11; have H' := Aside0.mk H; clear H; have p197 : 0 ≤ (0 : Int) := (by omega); have q197 : 0 < (l1.length : Int) := of_decide_eq_true (by first | (with_reducible assumption) | assumption); obtain ⟨ze, e197, z1⟩ := Kd.at_string HR1.out 0 p197 q197
       cases e197
       have qi197 : (0 < l1.length) = True := eq_true (by omega)
       (try rw [show ((0 : Int)).toNat = 0 from rfl] at z1)
       (try rw [Addr.add_zero'] at z1)
       replace z1 := hC HB z1; replace p197 := eq_true p197; replace q197 := eq_true q197; have p198 : 0 ≤ ((ji9) : Int) := of_decide_eq_true (by first | (with_reducible assumption) | assumption); have q198 : (ji9) < (l1.length : Int) := of_decide_eq_true (by first | (with_reducible assumption) | assumption); obtain ⟨zk, e198, z8⟩ := Kd.at_string HR1.out (ji9) p198 q198
       obtain rfl : ze = zk := (by injection e198)
       replace z8 := hC HB z8; replace p198 := eq_true p198; replace q198 := eq_true q198
       go_wp2
       go_meet
       case rel => exact ⟨_, (((rdOf ByteArray.empty l1 (ji9)).toList != a3.toList)), (by first | rfl | (simp; done) | (simp only [← hji9] <;> (first | rfl | simp)) | (simp [*]; done)), H', ⟨by first | omega | exact Nat.le_refl _⟩, ⟨hW HB⟩⟩
      ·rw [if_neg c11] at H
       exact absurd H (by simp)
     ·rw [if_neg c10] at H
      exact absurd H (by simp)
    ·rw [if_neg c8] at H
     have zc : ((rdOf ByteArray.empty l1 0).toList == a2.toList) = false := beq_eq_false_iff_ne.mpr c8; have zd : ((rdOf ByteArray.empty l1 0).toList != a2.toList) = true := bne_iff_ne.mpr c8; have H' := Aside0.mk H; clear H; have p197 : 0 ≤ (0 : Int) := (by omega); have q197 : 0 < (l1.length : Int) := of_decide_eq_true (by first | (with_reducible assumption) | assumption); obtain ⟨ze, e197, z1⟩ := Kd.at_string HR1.out 0 p197 q197
     cases e197
     have qi197 : (0 < l1.length) = True := eq_true (by omega)
     (try rw [show ((0 : Int)).toNat = 0 from rfl] at z1)
     (try rw [Addr.add_zero'] at z1)
     replace z1 := hC HB z1; replace p197 := eq_true p197; replace q197 := eq_true q197
     go_wp2
     go_meet
     case rel => exact ⟨_, (true), (by first | rfl | (simp; done) | (simp [*]; done)), H', ⟨by first | omega | exact Nat.le_refl _⟩, ⟨hW HB⟩⟩
   ·rw [if_neg c7] at H
    exact absurd H (by simp)
 case rest =>
  clear HC5
  try clear c1
  try clear p1
  try clear q1
  try clear hx1
  try clear qi1
  try clear p2
  try clear c5
  try clear c6
  try clear z7
  try clear zb
  try clear zh
  try clear p6
  try clear c7
  try clear zi
  try clear zj
  try clear c8
  try clear zc
  try clear zd
  try clear c10
  try clear zf
  try clear c11
  try clear zg
  try clear z1
  try clear z8
  try clear p197
  try clear p198
  try clear q197
  try clear q198
  obtain ⟨kq, z9, rfl, HA, HJ4, HB⟩ := hcut
  cases kq with
  | zero => exact absurd HA.out (by simp [why_way.j0])
  | succ kj4 =>
   have H := HA.out; clear HA
   simp only [why_way.j0] at H
   by_cases c12 : z9 = true
   ·subst c12
    have H1 : (some false) = some r := by rw [if_pos rfl] at H; exact H
    clear H; have H := H1; clear H1
    obtain rfl := Option.some.inj H
    go_wp2
    go_ret
    exact ⟨by first | rfl | (simp [errW_none, errW_some] <;> rfl) | (simp [*, errW_none, errW_some] <;> rfl), by repeat (first | (with_reducible first | exact HB.out | apply below_alloc | apply pw_below_drewN | apply below_drew1) | exact HB.out)⟩
   ·replace c12 := Bool.eq_false_iff.mpr c12
    subst c12
    have H1 : (why_way.l0 kj4 l0 l1 1) = some r := by rw [if_neg (show ¬ (false = true) by decide)] at H; exact H
    clear H; have H := H1; clear H1; have H' := Aside0.mk H; clear H
    go_wp2
    go_loopg [9] kj4 (fun kq v9 w' => ∃ (z0 : Int), v9 = .int .i64 z0 ∧ Aside0 (why_way.l0 kq l0 l1 z0 = some r) ∧ Aside0 (kq ≤ kj4) ∧ Aside0 (Below w.heap.size w w'))
    case atStart => exact ⟨(1), (by first | rfl | (simp; done) | (simp [*]; done)), H', ⟨Nat.le_refl _⟩, ⟨hW HB⟩⟩
    case round =>
     clear H'
     try clear c1
     try clear p1
     try clear q1
     try clear hx1
     try clear qi1
     try clear p2
     try clear c5
     try clear c6
     try clear z7
     try clear zb
     try clear zh
     try clear p6
     try clear c7
     try clear zi
     try clear zj
     try clear c8
     try clear zc
     try clear zd
     try clear c10
     try clear zf
     try clear c11
     try clear zg
     try clear c12
     try clear z1
     try clear z8
     try clear p1
     try clear p197
     try clear p198
     try clear p2
     try clear p6
     try clear q1
     try clear q197
     try clear q198
     obtain ⟨z0, rfl, HA, HK2, HB⟩ := hrel
     cases gk with
     | zero => exact absurd HA.out (by simp [why_way.l0])
     | succ k2 =>
      have H := HA.out; clear HA
      simp only [why_way.l0] at H
      by_cases c13 : z0 < (l1.length : Int)
      ·rw [if_pos c13] at H
       have zl : decide (z0 < (l1.length : Int)) = true := decide_eq_true c13; clear c13; obtain ⟨ji14, hji14⟩ : ∃ j_ : Int, (wrap64 (z0 - 1)) = j_ := ⟨_, rfl⟩
       replace H : (if 0 ≤ (ji14) then (if (ji14) < (l1.length : Int) then (if 0 ≤ z0 then ((api_Pair_81.f k2 l0 (rdOf ByteArray.empty l1 (ji14)) (rdOf ByteArray.empty l1 z0)).bind fun t201 => (if t201 = true then (why_way.l0 k2 l0 l1 (wrap64 (z0 + 1))) else (some false))) else (none)) else (none)) else (none)) = some r := by first | (rw [hji14] at H; exact H) | (simp only [hji14] at H ⊢; exact H)
       have hji14w : (IntKind.i64.wrap (z0 - 1)) = ji14 := (i64_w _).trans hji14
       by_cases c15 : 0 ≤ (ji14)
       ·rw [if_pos c15] at H
        have zm : decide (0 ≤ (ji14)) = true := decide_eq_true c15; clear c15
        by_cases c16 : (ji14) < (l1.length : Int)
        ·rw [if_pos c16] at H
         have zn : decide ((ji14) < (l1.length : Int)) = true := decide_eq_true c16; clear c16
         by_cases c17 : 0 ≤ z0
         ·rw [if_pos c17] at H
          have zo : decide (0 ≤ z0) = true := decide_eq_true c17; clear c17; replace H := Option.bind_eq_some_iff.mp H; obtain ⟨t201, A180, H⟩ := H; replace H : (if t201 = true then (why_way.l0 k2 l0 l1 (wrap64 (z0 + 1))) else (some false)) = some r := H; have A18 := Aside0.mk A180; clear A180
          by_cases c19 : t201 = true
          ·subst c19
           have H1 : (why_way.l0 k2 l0 l1 (wrap64 (z0 + 1))) = some r := by rw [if_pos rfl] at H; exact H
           clear H; have H := H1; clear H1; have H' := Aside0.mk H; clear H
           try go_wp2
           replace HB := Aside0.mk (below_drew1 HB.out); have p199 : 0 ≤ ((ji14) : Int) := of_decide_eq_true (by first | (with_reducible assumption) | assumption); have q199 : (ji14) < (l1.length : Int) := of_decide_eq_true (by first | (with_reducible assumption) | assumption); obtain ⟨z6, e199, z4⟩ := Kd.at_string HR1.out (ji14) p199 q199; have z2 := z4
           cases e199
           replace z4 := hC HB z4; replace p199 := eq_true p199; replace q199 := eq_true q199; have p200 : 0 ≤ (z0 : Int) := of_decide_eq_true (by first | (with_reducible assumption) | assumption); have q200 : z0 < (l1.length : Int) := of_decide_eq_true (by first | (with_reducible assumption) | assumption); obtain ⟨za, e200, z5⟩ := Kd.at_string HR1.out z0 p200 q200; have z3 := z5
           obtain rfl : z6 = za := (by injection e200)
           replace z5 := hC HB z5; replace p200 := eq_true p200; replace q200 := eq_true q200
           refine start_ (n := 13) (S := fun w' => w'.cell? (z6.add ((ji14)).toNat) = some (.string (rdOf ByteArray.empty l1 (ji14))) ∧ w'.cell? (z6.add (z0).toNat) = some (.string (rdOf ByteArray.empty l1 z0))) (ds := []) #[false, false, false, false, false, false, false, false, false, false, false, false, false] (by kernel_rfl) rfl rfl ⟨((HB.out.cell (World.block_lt_of_cell? w _ z2)).trans z2), ((HB.out.cell (World.block_lt_of_cell? w _ z3)).trans z3)⟩ (fun hHeld => ?_); refine with_tabW why_way.tab6 why_way.bits6 (fun HT_ HW_ => ?_)
           generalize wr.drew = w20 at HB z4 z5 hHeld ⊢; refine pT 0 36 HT_ rfl ?_; refine pT 1 37 HT_ rfl ?_; refine pT 2 38 HT_ rfl ?_; refine pT 3 39 HT_ rfl ?_; refine pT 4 40 HT_ rfl ?_; refine pT 6 42 HT_ rfl ?_; refine pT 7 43 HT_ rfl ?_; refine pT 8 44 HT_ rfl ?_; refine tT 5 41 HT_ rfl HW_ hHeld (by (rintro w' ⟨s0, s1⟩; go_simp; with_reducible rfl)) ?_; refine tT 9 45 HT_ rfl HW_ hHeld (by (rintro w' ⟨s0, s1⟩; go_simp; with_reducible rfl)) ?_; refine pT 10 46 HT_ rfl ?_
           refine one_ (i := 11) (N := some 47) #[true, true, true, true, true, true, true, true, true, true, true, true, false] rfl rfl (one_of HT_.out (by kernel_rfl)) (by decide) (fun K hK => ?_)
           refine goes_ Tryd.func81 (by kernel_rfl) rfl #[.slice A0 l0.length c0, .agg #[.string (rdOf ByteArray.empty l1 (ji14)), .string (rdOf ByteArray.empty l1 z0)]] (by rfl) rfl rfl (by (try simp only [List.map_toArray, List.map_cons, List.map_nil]); first | done | (simp only [hji14]; rfl) | rfl | (simp only [List.length_drop, List.length_take]; rfl)) ?_
           with_reducible refine (api_Pair_81.calls k2 _ _ l0 (rdOf ByteArray.empty l1 (ji14)) (rdOf ByteArray.empty l1 z0) true _ ?side1 ?side2 A18.out).mono ?_
           (case side1 => exact cE (Kd.C_below HR0.out HB.out)); (case side2 => exact HC0.out)
           rintro e w21 ⟨rfl, hb⟩
           refine ⟨_, rfl, ?_⟩
           replace HB := hF HB hb; (try clear hb); (try clear hb2); (try clear hk); (try clear hi)
           refine hK.out _ _ ⟨((HB.out.cell (World.block_lt_of_cell? w _ z2)).trans z2), ((HB.out.cell (World.block_lt_of_cell? w _ z3)).trans z3)⟩ (fun hHeld => ?_)
           clear hK K
           refine norm_ (a' := ?_) ?_ ?_
           rotate_left
           ·show Act.put _ (some 47) _ = _
            simp only [Act.put, List.setIfInBounds_toArray, List.set_cons_zero, List.set_cons_succ, i64_w, i32_w]
            rfl
           refine pT 12 48 HT_ rfl ?_
           refine done_ (done_of HT_.out (by kernel_rfl)) ?_
           try go_wp2
           go_roundg k2
           case measure => have := HJ4.out; have := HK2.out; omega
           case rel => exact ⟨(wrap64 (z0 + 1)), (by first | rfl | (simp; done) | (simp [*]; done)), H', ⟨by have := HJ4.out; have := HK2.out; omega⟩, ⟨hW HB⟩⟩
          ·replace c19 := Bool.eq_false_iff.mpr c19
           subst c19
           have H1 : (some false) = some r := by rw [if_neg (show ¬ (false = true) by decide)] at H; exact H
           clear H; have H := H1; clear H1
           obtain rfl := Option.some.inj H
           try go_wp2
           replace HB := Aside0.mk (below_drew1 HB.out); have p199 : 0 ≤ ((ji14) : Int) := of_decide_eq_true (by first | (with_reducible assumption) | assumption); have q199 : (ji14) < (l1.length : Int) := of_decide_eq_true (by first | (with_reducible assumption) | assumption); obtain ⟨z6, e199, z4⟩ := Kd.at_string HR1.out (ji14) p199 q199; have z2 := z4
           cases e199
           replace z4 := hC HB z4; replace p199 := eq_true p199; replace q199 := eq_true q199; have p200 : 0 ≤ (z0 : Int) := of_decide_eq_true (by first | (with_reducible assumption) | assumption); have q200 : z0 < (l1.length : Int) := of_decide_eq_true (by first | (with_reducible assumption) | assumption); obtain ⟨za, e200, z5⟩ := Kd.at_string HR1.out z0 p200 q200; have z3 := z5
           obtain rfl : z6 = za := (by injection e200)
           replace z5 := hC HB z5; replace p200 := eq_true p200; replace q200 := eq_true q200
           refine start_ (n := 13) (S := fun w' => w'.cell? (z6.add ((ji14)).toNat) = some (.string (rdOf ByteArray.empty l1 (ji14))) ∧ w'.cell? (z6.add (z0).toNat) = some (.string (rdOf ByteArray.empty l1 z0))) (ds := []) #[false, false, false, false, false, false, false, false, false, false, false, false, false] (by kernel_rfl) rfl rfl ⟨((HB.out.cell (World.block_lt_of_cell? w _ z2)).trans z2), ((HB.out.cell (World.block_lt_of_cell? w _ z3)).trans z3)⟩ (fun hHeld => ?_); refine with_tabW why_way.tab6 why_way.bits6 (fun HT_ HW_ => ?_)
           generalize wr.drew = w22 at HB z4 z5 hHeld ⊢; refine pT 0 36 HT_ rfl ?_; refine pT 1 37 HT_ rfl ?_; refine pT 2 38 HT_ rfl ?_; refine pT 3 39 HT_ rfl ?_; refine pT 4 40 HT_ rfl ?_; refine pT 6 42 HT_ rfl ?_; refine pT 7 43 HT_ rfl ?_; refine pT 8 44 HT_ rfl ?_; refine tT 5 41 HT_ rfl HW_ hHeld (by (rintro w' ⟨s0, s1⟩; go_simp; with_reducible rfl)) ?_; refine tT 9 45 HT_ rfl HW_ hHeld (by (rintro w' ⟨s0, s1⟩; go_simp; with_reducible rfl)) ?_; refine pT 10 46 HT_ rfl ?_
           refine one_ (i := 11) (N := some 47) #[true, true, true, true, true, true, true, true, true, true, true, true, false] rfl rfl (one_of HT_.out (by kernel_rfl)) (by decide) (fun K hK => ?_)
           refine goes_ Tryd.func81 (by kernel_rfl) rfl #[.slice A0 l0.length c0, .agg #[.string (rdOf ByteArray.empty l1 (ji14)), .string (rdOf ByteArray.empty l1 z0)]] (by rfl) rfl rfl (by (try simp only [List.map_toArray, List.map_cons, List.map_nil]); first | done | (simp only [hji14]; rfl) | rfl | (simp only [List.length_drop, List.length_take]; rfl)) ?_
           with_reducible refine (api_Pair_81.calls k2 _ _ l0 (rdOf ByteArray.empty l1 (ji14)) (rdOf ByteArray.empty l1 z0) false _ ?side1 ?side2 A18.out).mono ?_
           (case side1 => exact cE (Kd.C_below HR0.out HB.out)); (case side2 => exact HC0.out)
           rintro e w23 ⟨rfl, hb⟩
           refine ⟨_, rfl, ?_⟩
           replace HB := hF HB hb; (try clear hb); (try clear hb2); (try clear hk); (try clear hi)
           refine hK.out _ _ ⟨((HB.out.cell (World.block_lt_of_cell? w _ z2)).trans z2), ((HB.out.cell (World.block_lt_of_cell? w _ z3)).trans z3)⟩ (fun hHeld => ?_)
           clear hK K
           refine norm_ (a' := ?_) ?_ ?_
           rotate_left
           ·show Act.put _ (some 47) _ = _
            simp only [Act.put, List.setIfInBounds_toArray, List.set_cons_zero, List.set_cons_succ, i64_w, i32_w]
            rfl
           refine pT 12 48 HT_ rfl ?_
           refine done_ (done_of HT_.out (by kernel_rfl)) ?_
           try go_wp2
           go_ret
           exact ⟨by first | rfl | (simp [errW_none, errW_some] <;> rfl) | (simp only [← hji14]; first | rfl | (simp [errW_none, errW_some] <;> rfl)) | (simp [*, errW_none, errW_some] <;> rfl), by repeat (first | (with_reducible first | exact HB.out | apply below_alloc | apply pw_below_drewN | apply below_drew1) | exact HB.out)⟩
         ·rw [if_neg c17] at H
          exact absurd H (by simp)
        ·rw [if_neg c16] at H
         exact absurd H (by simp)
       ·rw [if_neg c15] at H
        exact absurd H (by simp)
      ·rw [if_neg c13] at H
       have zl : decide (z0 < (l1.length : Int)) = false := decide_eq_false c13; clear c13
       obtain rfl := Option.some.inj H
       go_wp2
       go_ret
       exact ⟨by first | rfl | (simp [errW_none, errW_some] <;> rfl) | (simp [*, errW_none, errW_some] <;> rfl), by repeat (first | (with_reducible first | exact HB.out | apply below_alloc | apply pw_below_drewN | apply below_drew1) | exact HB.out)⟩

-- NOT PRINTED: function 54 (why_whos)

-- NOT PRINTED: function 55 (why_whats)

-- NOT PRINTED: function 83 (api_Rule_83)

-- NOT PRINTED: function 56 (api_Rule_56)

-- NOT PRINTED: function 22 (why_Holds)

-- NOT PRINTED: function 105 (strconv_small)

-- NOT PRINTED: function 113 (strconv_log10Pow2)

-- NOT PRINTED: function 114 (bits_Len64)

-- NOT PRINTED: function 115 (strconv_bool2_int)

-- NOT PRINTED: function 106 (strconv_numDigits)

-- NOT PRINTED: function 107 (strconv_formatBase10)

-- NOT PRINTED: function 116 (strconv_isPowerOfTwo)

-- NOT PRINTED: function 118 (bits_TrailingZeros32)

-- NOT PRINTED: function 119 (bits_TrailingZeros64)

-- NOT PRINTED: function 117 (bits_TrailingZeros)

-- NOT PRINTED: function 108 (strconv_formatBits)

-- NOT PRINTED: function 90 (strconv_FormatInt)

-- NOT PRINTED: function 68 (strconv_Itoa_68)

-- NOT PRINTED: function 36 (strconv_Itoa_36)

-- NOT PRINTED: function 109 (abi_NoEscape)

-- NOT PRINTED: function 91 (strings_Builder_copyCheck)

-- NOT PRINTED: function 110 (bytealg_MakeNoZero)

-- NOT PRINTED: function 92 (strings_Builder_grow)

-- NOT PRINTED: function 69 (strings_Builder_Grow)

-- NOT PRINTED: function 70 (strings_Builder_WriteString)

-- NOT PRINTED: function 71 (strings_Builder_String)

-- NOT PRINTED: function 37 (strings_Join)

-- NOT PRINTED: function 13 (why_Tell)

/-! ### gatehouselaw10_sameNames: function 17 -/
def gatehouselaw10_sameNames.l0 : Nat → List ByteArray → List ByteArray → Int → Option (Bool)
 | 0, _, _, _ => none
 | k + 1, x0, x1, x5 => if x5 < (x0.length : Int) then (if 0 ≤ x5 then (if x5 < (x1.length : Int) then (if (rdOf ByteArray.empty x0 x5).toList = (rdOf ByteArray.empty x1 x5).toList then (gatehouselaw10_sameNames.l0 k x0 x1 (wrap64 (x5 + 1))) else (some false)) else (none)) else (none)) else (some true)
def gatehouselaw10_sameNames.f (k : Nat) (l0 : List ByteArray) (l1 : List ByteArray) : Option (Bool) := if (l0.length : Int) = (l1.length : Int) then (gatehouselaw10_sameNames.l0 k l0 l1 0) else (some false)
set_option maxHeartbeats 8000000 in
set_option maxRecDepth 100000 in
theorem gatehouselaw10_sameNames.calls (k : Nat) (A0 : Option Addr) (c0 : Nat) (l0 : List ByteArray) (A1 : Option Addr) (c1 : Nat) (l1 : List ByteArray) (r : Bool) (w : World) (hr0 : Kd.C Kd.string w A0 l0.length l0) (hc0 : l0.length ≤ c0) (hr1 : Kd.C Kd.string w A1 l1.length l1) (hc1 : l1.length ≤ c1) (h : gatehouselaw10_sameNames.f k l0 l1 = some r) :
  Calls Tryd.prog 17 #[.slice A0 l0.length c0, .slice A1 l1.length c1] w fun e w' => e = .returned (.bool r) ∧ Drawn0 w w' := by
 have HR0 := Aside0.mk hr0; have HC0 := Aside0.mk hc0; clear hr0 hc0; have HR1 := Aside0.mk hr1; have HC1 := Aside0.mk hc1; clear hr1 hc1; have H : (if (l0.length : Int) = (l1.length : Int) then (gatehouselaw10_sameNames.l0 k l0 l1 0) else (some false)) = some r := h; clear h
 by_cases c3 : (l0.length : Int) = (l1.length : Int)
 ·rw [if_pos c3] at H
  have z1 : ((l0.length : Int) == (l1.length : Int)) = true := beq_iff_eq.mpr c3; have z2 : ((l0.length : Int) != (l1.length : Int)) = false := bne_eq_false_iff_eq.mpr c3
  have z3 : (l0.length == l1.length) = true := by first | simpa using c3 | (simp at c3 ⊢; omega)
  clear c3; have H' := Aside0.mk H; clear H
  go_enter Tryd.func17, Tryd.ntmps17
  go_wp2
  repeat (go_quiet (fail); try go_wp2)
  go_loopg [5] k (fun kq v5 w' => ∃ (z0 : Int), v5 = .int .i64 z0 ∧ Aside0 (gatehouselaw10_sameNames.l0 kq l0 l1 z0 = some r) ∧ Aside0 (kq ≤ k) ∧ Drawn0 w w')
  case atStart => exact ⟨(0), (by first | rfl | (simp; done) | (simp [*]; done)), H', ⟨Nat.le_refl _⟩, by repeat (first | exact Drawn0.refl _ | apply Drawn0.step)⟩
  case round =>
   clear H'
   try clear c1
   try clear p2
   try clear c3
   try clear z1
   try clear z2
   try clear z3
   obtain ⟨z0, rfl, HA, HK1, ⟨m1, rfl⟩⟩ := hrel
   cases gk with
   | zero => exact absurd HA.out (by simp [gatehouselaw10_sameNames.l0])
   | succ k1 =>
    have H := HA.out; clear HA
    simp only [gatehouselaw10_sameNames.l0] at H
    by_cases c4 : z0 < (l0.length : Int)
    ·rw [if_pos c4] at H
     have z6 : decide (z0 < (l0.length : Int)) = true := decide_eq_true c4; clear c4
     by_cases c5 : 0 ≤ z0
     ·rw [if_pos c5] at H
      have zb : decide (0 ≤ z0) = true := decide_eq_true c5; clear c5
      by_cases c6 : z0 < (l1.length : Int)
      ·rw [if_pos c6] at H
       have zc : decide (z0 < (l1.length : Int)) = true := decide_eq_true c6; clear c6
       by_cases c7 : (rdOf ByteArray.empty l0 z0).toList = (rdOf ByteArray.empty l1 z0).toList
       ·rw [if_pos c7] at H
        have z7 : ((rdOf ByteArray.empty l0 z0).toList == (rdOf ByteArray.empty l1 z0).toList) = true := beq_iff_eq.mpr c7; have z8 : ((rdOf ByteArray.empty l0 z0).toList != (rdOf ByteArray.empty l1 z0).toList) = false := bne_eq_false_iff_eq.mpr c7; clear c7; have H' := Aside0.mk H; clear H; have p233 : 0 ≤ (z0 : Int) := of_decide_eq_true (by first | (with_reducible assumption) | assumption); have q233 : z0 < (l0.length : Int) := of_decide_eq_true (by first | (with_reducible assumption) | assumption); obtain ⟨z4, e233, z9⟩ := Kd.at_string HR0.out z0 p233 q233
        cases e233
        replace p233 := eq_true p233; replace q233 := eq_true q233; have p234 : 0 ≤ (z0 : Int) := of_decide_eq_true (by first | (with_reducible assumption) | assumption); have q234 : z0 < (l1.length : Int) := of_decide_eq_true (by first | (with_reducible assumption) | assumption); obtain ⟨z5, e234, za⟩ := Kd.at_string HR1.out z0 p234 q234
        cases e234
        replace p234 := eq_true p234; replace q234 := eq_true q234
        go_wp2
        repeat (go_quiet (fail); try go_wp2)
        go_roundg k1
        case measure => have := HK1.out; omega
        case rel => exact ⟨(wrap64 (z0 + 1)), (by first | rfl | (simp; done) | (simp [*]; done)), H', ⟨by have := HK1.out; omega⟩, by repeat (first | exact Drawn0.refl _ | apply Drawn0.step)⟩
       ·rw [if_neg c7] at H
        have z7 : ((rdOf ByteArray.empty l0 z0).toList == (rdOf ByteArray.empty l1 z0).toList) = false := beq_eq_false_iff_ne.mpr c7; have z8 : ((rdOf ByteArray.empty l0 z0).toList != (rdOf ByteArray.empty l1 z0).toList) = true := bne_iff_ne.mpr c7
        obtain rfl := Option.some.inj H
        have p233 : 0 ≤ (z0 : Int) := of_decide_eq_true (by first | (with_reducible assumption) | assumption); have q233 : z0 < (l0.length : Int) := of_decide_eq_true (by first | (with_reducible assumption) | assumption); obtain ⟨z4, e233, z9⟩ := Kd.at_string HR0.out z0 p233 q233
        cases e233
        replace p233 := eq_true p233; replace q233 := eq_true q233; have p234 : 0 ≤ (z0 : Int) := of_decide_eq_true (by first | (with_reducible assumption) | assumption); have q234 : z0 < (l1.length : Int) := of_decide_eq_true (by first | (with_reducible assumption) | assumption); obtain ⟨z5, e234, za⟩ := Kd.at_string HR1.out z0 p234 q234
        cases e234
        replace p234 := eq_true p234; replace q234 := eq_true q234
        go_wp2
        repeat (go_quiet (fail); try go_wp2)
        go_ret
        exact ⟨by first | rfl | (simp; done) | (simp [*]; done), by repeat (first | exact Drawn0.refl _ | apply Drawn0.step)⟩
      ·rw [if_neg c6] at H
       exact absurd H (by simp)
     ·rw [if_neg c5] at H
      exact absurd H (by simp)
    ·rw [if_neg c4] at H
     have z6 : decide (z0 < (l0.length : Int)) = false := decide_eq_false c4; clear c4
     obtain rfl := Option.some.inj H
     go_wp2
     repeat (go_quiet (fail); try go_wp2)
     go_ret
     exact ⟨by first | rfl | (simp; done) | (simp [*]; done), by repeat (first | exact Drawn0.refl _ | apply Drawn0.step)⟩
 ·rw [if_neg c3] at H
  have z1 : ((l0.length : Int) == (l1.length : Int)) = false := beq_eq_false_iff_ne.mpr c3; have z2 : ((l0.length : Int) != (l1.length : Int)) = true := bne_iff_ne.mpr c3
  have z3 : (l0.length == l1.length) = false := by first | simpa using c3 | (simp at c3 ⊢; omega)
  obtain rfl := Option.some.inj H
  go_enter Tryd.func17, Tryd.ntmps17
  go_wp2
  repeat (go_quiet (fail); try go_wp2)
  go_ret
  exact ⟨by first | rfl | (simp; done) | (simp [*]; done), by repeat (first | exact Drawn0.refl _ | apply Drawn0.step)⟩

-- by hand: function 80 (reach_Path)

-- NOT PRINTED: function 52 (why_by)

-- NOT PRINTED: function 21 (why_Explain)

-- NOT PRINTED: function 59 (why_once)

-- NOT PRINTED: function 24 (why_Who)

/-! ### gatehouselaw10_small: function 44 -/
def gatehouselaw10_small.f  : Option (List ByteArray × (List (S61)) × List ByteArray × List ByteArray × List ByteArray × (List (S97)) × (List (S97)) × (List (S97)) × (List (S97)) × (List (S48)) × (List (S30))) := some ((([(⟨#[111, 112, 101, 110]⟩ : ByteArray), (⟨#[115, 104, 117, 116]⟩ : ByteArray)] : List ByteArray)), (([(⟨(⟨#[97, 110, 110]⟩ : ByteArray), 4607182418800017408⟩ : S61)] : List (S61))), (([(⟨#[99, 108, 101, 114, 107]⟩ : ByteArray)] : List ByteArray)), (([(⟨#[100, 111, 111, 114]⟩ : ByteArray)] : List ByteArray)), ([] : List ByteArray), (([(⟨(⟨#[97, 110, 110]⟩ : ByteArray), (⟨#[99, 108, 101, 114, 107]⟩ : ByteArray)⟩ : S97)] : List (S97))), ([] : List (S97)), ([] : List (S97)), ([] : List (S97)), (([(⟨false, (⟨#[99, 108, 101, 114, 107]⟩ : ByteArray), (⟨#[100, 111, 111, 114]⟩ : ByteArray), ([] : List ByteArray), 0, (0 : Nat)⟩ : S48)] : List (S48))), (([(⟨(⟨#[97, 110, 110]⟩ : ByteArray), (⟨#[100, 111, 111, 114]⟩ : ByteArray), (⟨#[115, 104, 117, 116]⟩ : ByteArray)⟩ : S30)] : List (S30))))
set_option maxHeartbeats 8000000 in
set_option maxRecDepth 100000 in
theorem gatehouselaw10_small.calls  (r1 : List ByteArray) (r2 : List (S61)) (r3 : List ByteArray) (r4 : List ByteArray) (r5 : List ByteArray) (r6 : List (S97)) (r7 : List (S97)) (r8 : List (S97)) (r9 : List (S97)) (r10 : List (S48)) (r11 : List (S30)) (w : World) (h : gatehouselaw10_small.f  = some (r1, r2, r3, r4, r5, r6, r7, r8, r9, r10, r11)) :
  Calls Tryd.prog 44 #[] w fun e w' => ∃ v0_ v1_ v2_ v3_ v4_ v5_ v6_ v7_ v8_ v9_ v10_ : Value, e = .returned (.agg #[v0_, v1_, v2_, v3_, v4_, v5_, v6_, v7_, v8_, v9_, v10_]) ∧ Kd.R Kd.string 9 w' w.heap.size (fun k_ => oN k_ v2_ ∧ oN k_ v3_ ∧ oN k_ v4_) v0_ r1 ∧ Kd.R k61 61 w' w.heap.size (fun _ => True) v1_ r2 ∧ Kd.R Kd.string 9 w' w.heap.size (fun k_ => oN k_ v0_ ∧ oN k_ v3_ ∧ oN k_ v4_) v2_ r3 ∧ Kd.R Kd.string 9 w' w.heap.size (fun k_ => oN k_ v0_ ∧ oN k_ v2_ ∧ oN k_ v4_) v3_ r4 ∧ Kd.R Kd.string 9 w' w.heap.size (fun k_ => oN k_ v0_ ∧ oN k_ v2_ ∧ oN k_ v3_) v4_ r5 ∧ Kd.R k97 97 w' w.heap.size (fun k_ => oN k_ v6_ ∧ oN k_ v7_ ∧ oN k_ v8_) v5_ r6 ∧ Kd.R k97 97 w' w.heap.size (fun k_ => oN k_ v5_ ∧ oN k_ v7_ ∧ oN k_ v8_) v6_ r7 ∧ Kd.R k97 97 w' w.heap.size (fun k_ => oN k_ v5_ ∧ oN k_ v6_ ∧ oN k_ v8_) v7_ r8 ∧ Kd.R k97 97 w' w.heap.size (fun k_ => oN k_ v5_ ∧ oN k_ v6_ ∧ oN k_ v7_) v8_ r9 ∧ Kd.S k48 48 w' w.heap.size (fun k_ => oN k_ v0_ ∧ oN k_ v2_ ∧ oN k_ v3_ ∧ oN k_ v4_) v9_ r10 ∧ Kd.R k30 30 w' w.heap.size (fun _ => True) v10_ r11 ∧ Below w.heap.size w w' := by
 have hu28 := Tryd.underlying28; have hu61 := Tryd.underlying61; have hu97 := Tryd.underlying97; have hu48 := Tryd.underlying48; have hu30 := Tryd.underlying30; have HB := Aside0.mk (Below.refl w.heap.size w); have H : (some ((([(⟨#[111, 112, 101, 110]⟩ : ByteArray), (⟨#[115, 104, 117, 116]⟩ : ByteArray)] : List ByteArray)), (([(⟨(⟨#[97, 110, 110]⟩ : ByteArray), 4607182418800017408⟩ : S61)] : List (S61))), (([(⟨#[99, 108, 101, 114, 107]⟩ : ByteArray)] : List ByteArray)), (([(⟨#[100, 111, 111, 114]⟩ : ByteArray)] : List ByteArray)), ([] : List ByteArray), (([(⟨(⟨#[97, 110, 110]⟩ : ByteArray), (⟨#[99, 108, 101, 114, 107]⟩ : ByteArray)⟩ : S97)] : List (S97))), ([] : List (S97)), ([] : List (S97)), ([] : List (S97)), (([(⟨false, (⟨#[99, 108, 101, 114, 107]⟩ : ByteArray), (⟨#[100, 111, 111, 114]⟩ : ByteArray), ([] : List ByteArray), 0, (0 : Nat)⟩ : S48)] : List (S48))), (([(⟨(⟨#[97, 110, 110]⟩ : ByteArray), (⟨#[100, 111, 111, 114]⟩ : ByteArray), (⟨#[115, 104, 117, 116]⟩ : ByteArray)⟩ : S30)] : List (S30))))) = some (r1, r2, r3, r4, r5, r6, r7, r8, r9, r10, r11) := h; clear h; obtain ⟨y244, hy244⟩ : ∃ y_ : List ByteArray, y_ = (([(⟨#[111, 112, 101, 110]⟩ : ByteArray), (⟨#[115, 104, 117, 116]⟩ : ByteArray)] : List ByteArray)) := ⟨_, rfl⟩
 replace H : (some (y244, (([(⟨(⟨#[97, 110, 110]⟩ : ByteArray), 4607182418800017408⟩ : S61)] : List (S61))), (([(⟨#[99, 108, 101, 114, 107]⟩ : ByteArray)] : List ByteArray)), (([(⟨#[100, 111, 111, 114]⟩ : ByteArray)] : List ByteArray)), ([] : List ByteArray), (([(⟨(⟨#[97, 110, 110]⟩ : ByteArray), (⟨#[99, 108, 101, 114, 107]⟩ : ByteArray)⟩ : S97)] : List (S97))), ([] : List (S97)), ([] : List (S97)), ([] : List (S97)), (([(⟨false, (⟨#[99, 108, 101, 114, 107]⟩ : ByteArray), (⟨#[100, 111, 111, 114]⟩ : ByteArray), ([] : List ByteArray), 0, (0 : Nat)⟩ : S48)] : List (S48))), (([(⟨(⟨#[97, 110, 110]⟩ : ByteArray), (⟨#[100, 111, 111, 114]⟩ : ByteArray), (⟨#[115, 104, 117, 116]⟩ : ByteArray)⟩ : S30)] : List (S30))))) = some (r1, r2, r3, r4, r5, r6, r7, r8, r9, r10, r11) := by first | (rw [hy244]; with_reducible exact H) | (have H2_ := (Option.bind_some _ _).symm.trans H; rw [hy244]; with_reducible exact H2_) | (have H2_ := (Option.bind_some _ _).symm.trans H; with_reducible exact H2_) | with_reducible exact H | (rw [hy244]; exact H) | exact H
 have zn := Aside0.mk hy244; clear hy244; obtain ⟨y247, hy247⟩ : ∃ y_ : List (S61), y_ = (([(⟨(⟨#[97, 110, 110]⟩ : ByteArray), 4607182418800017408⟩ : S61)] : List (S61))) := ⟨_, rfl⟩
 replace H : (some (y244, y247, (([(⟨#[99, 108, 101, 114, 107]⟩ : ByteArray)] : List ByteArray)), (([(⟨#[100, 111, 111, 114]⟩ : ByteArray)] : List ByteArray)), ([] : List ByteArray), (([(⟨(⟨#[97, 110, 110]⟩ : ByteArray), (⟨#[99, 108, 101, 114, 107]⟩ : ByteArray)⟩ : S97)] : List (S97))), ([] : List (S97)), ([] : List (S97)), ([] : List (S97)), (([(⟨false, (⟨#[99, 108, 101, 114, 107]⟩ : ByteArray), (⟨#[100, 111, 111, 114]⟩ : ByteArray), ([] : List ByteArray), 0, (0 : Nat)⟩ : S48)] : List (S48))), (([(⟨(⟨#[97, 110, 110]⟩ : ByteArray), (⟨#[100, 111, 111, 114]⟩ : ByteArray), (⟨#[115, 104, 117, 116]⟩ : ByteArray)⟩ : S30)] : List (S30))))) = some (r1, r2, r3, r4, r5, r6, r7, r8, r9, r10, r11) := by first | (rw [hy247]; with_reducible exact H) | (have H2_ := (Option.bind_some _ _).symm.trans H; rw [hy247]; with_reducible exact H2_) | (have H2_ := (Option.bind_some _ _).symm.trans H; with_reducible exact H2_) | with_reducible exact H | (rw [hy247]; exact H) | exact H
 have zo := Aside0.mk hy247; clear hy247; obtain ⟨y250, hy250⟩ : ∃ y_ : List ByteArray, y_ = (([(⟨#[99, 108, 101, 114, 107]⟩ : ByteArray)] : List ByteArray)) := ⟨_, rfl⟩
 replace H : (some (y244, y247, y250, (([(⟨#[100, 111, 111, 114]⟩ : ByteArray)] : List ByteArray)), ([] : List ByteArray), (([(⟨(⟨#[97, 110, 110]⟩ : ByteArray), (⟨#[99, 108, 101, 114, 107]⟩ : ByteArray)⟩ : S97)] : List (S97))), ([] : List (S97)), ([] : List (S97)), ([] : List (S97)), (([(⟨false, (⟨#[99, 108, 101, 114, 107]⟩ : ByteArray), (⟨#[100, 111, 111, 114]⟩ : ByteArray), ([] : List ByteArray), 0, (0 : Nat)⟩ : S48)] : List (S48))), (([(⟨(⟨#[97, 110, 110]⟩ : ByteArray), (⟨#[100, 111, 111, 114]⟩ : ByteArray), (⟨#[115, 104, 117, 116]⟩ : ByteArray)⟩ : S30)] : List (S30))))) = some (r1, r2, r3, r4, r5, r6, r7, r8, r9, r10, r11) := by first | (rw [hy250]; with_reducible exact H) | (have H2_ := (Option.bind_some _ _).symm.trans H; rw [hy250]; with_reducible exact H2_) | (have H2_ := (Option.bind_some _ _).symm.trans H; with_reducible exact H2_) | with_reducible exact H | (rw [hy250]; exact H) | exact H
 have zp := Aside0.mk hy250; clear hy250; obtain ⟨y253, hy253⟩ : ∃ y_ : List ByteArray, y_ = (([(⟨#[100, 111, 111, 114]⟩ : ByteArray)] : List ByteArray)) := ⟨_, rfl⟩
 replace H : (some (y244, y247, y250, y253, ([] : List ByteArray), (([(⟨(⟨#[97, 110, 110]⟩ : ByteArray), (⟨#[99, 108, 101, 114, 107]⟩ : ByteArray)⟩ : S97)] : List (S97))), ([] : List (S97)), ([] : List (S97)), ([] : List (S97)), (([(⟨false, (⟨#[99, 108, 101, 114, 107]⟩ : ByteArray), (⟨#[100, 111, 111, 114]⟩ : ByteArray), ([] : List ByteArray), 0, (0 : Nat)⟩ : S48)] : List (S48))), (([(⟨(⟨#[97, 110, 110]⟩ : ByteArray), (⟨#[100, 111, 111, 114]⟩ : ByteArray), (⟨#[115, 104, 117, 116]⟩ : ByteArray)⟩ : S30)] : List (S30))))) = some (r1, r2, r3, r4, r5, r6, r7, r8, r9, r10, r11) := by first | (rw [hy253]; with_reducible exact H) | (have H2_ := (Option.bind_some _ _).symm.trans H; rw [hy253]; with_reducible exact H2_) | (have H2_ := (Option.bind_some _ _).symm.trans H; with_reducible exact H2_) | with_reducible exact H | (rw [hy253]; exact H) | exact H
 have zq := Aside0.mk hy253; clear hy253; obtain ⟨y256, hy256⟩ : ∃ y_ : List (S97), y_ = (([(⟨(⟨#[97, 110, 110]⟩ : ByteArray), (⟨#[99, 108, 101, 114, 107]⟩ : ByteArray)⟩ : S97)] : List (S97))) := ⟨_, rfl⟩
 replace H : (some (y244, y247, y250, y253, ([] : List ByteArray), y256, ([] : List (S97)), ([] : List (S97)), ([] : List (S97)), (([(⟨false, (⟨#[99, 108, 101, 114, 107]⟩ : ByteArray), (⟨#[100, 111, 111, 114]⟩ : ByteArray), ([] : List ByteArray), 0, (0 : Nat)⟩ : S48)] : List (S48))), (([(⟨(⟨#[97, 110, 110]⟩ : ByteArray), (⟨#[100, 111, 111, 114]⟩ : ByteArray), (⟨#[115, 104, 117, 116]⟩ : ByteArray)⟩ : S30)] : List (S30))))) = some (r1, r2, r3, r4, r5, r6, r7, r8, r9, r10, r11) := by first | (rw [hy256]; with_reducible exact H) | (have H2_ := (Option.bind_some _ _).symm.trans H; rw [hy256]; with_reducible exact H2_) | (have H2_ := (Option.bind_some _ _).symm.trans H; with_reducible exact H2_) | with_reducible exact H | (rw [hy256]; exact H) | exact H
 have zr := Aside0.mk hy256; clear hy256; obtain ⟨y259, hy259⟩ : ∃ y_ : List (S48), y_ = (([(⟨false, (⟨#[99, 108, 101, 114, 107]⟩ : ByteArray), (⟨#[100, 111, 111, 114]⟩ : ByteArray), ([] : List ByteArray), 0, (0 : Nat)⟩ : S48)] : List (S48))) := ⟨_, rfl⟩
 replace H : (some (y244, y247, y250, y253, ([] : List ByteArray), y256, ([] : List (S97)), ([] : List (S97)), ([] : List (S97)), y259, (([(⟨(⟨#[97, 110, 110]⟩ : ByteArray), (⟨#[100, 111, 111, 114]⟩ : ByteArray), (⟨#[115, 104, 117, 116]⟩ : ByteArray)⟩ : S30)] : List (S30))))) = some (r1, r2, r3, r4, r5, r6, r7, r8, r9, r10, r11) := by first | (rw [hy259]; with_reducible exact H) | (have H2_ := (Option.bind_some _ _).symm.trans H; rw [hy259]; with_reducible exact H2_) | (have H2_ := (Option.bind_some _ _).symm.trans H; with_reducible exact H2_) | with_reducible exact H | (rw [hy259]; exact H) | exact H
 have zs := Aside0.mk hy259; clear hy259; obtain ⟨y262, hy262⟩ : ∃ y_ : List (S30), y_ = (([(⟨(⟨#[97, 110, 110]⟩ : ByteArray), (⟨#[100, 111, 111, 114]⟩ : ByteArray), (⟨#[115, 104, 117, 116]⟩ : ByteArray)⟩ : S30)] : List (S30))) := ⟨_, rfl⟩
 replace H : (some (y244, y247, y250, y253, ([] : List ByteArray), y256, ([] : List (S97)), ([] : List (S97)), ([] : List (S97)), y259, y262)) = some (r1, r2, r3, r4, r5, r6, r7, r8, r9, r10, r11) := by first | (rw [hy262]; with_reducible exact H) | (have H2_ := (Option.bind_some _ _).symm.trans H; rw [hy262]; with_reducible exact H2_) | (have H2_ := (Option.bind_some _ _).symm.trans H; with_reducible exact H2_) | with_reducible exact H | (rw [hy262]; exact H) | exact H
 have zt := Aside0.mk hy262; clear hy262
 simp only [Option.some.injEq, Prod.mk.injEq] at H
 obtain ⟨rfl, rfl, rfl, rfl, rfl, rfl, rfl, rfl, rfl, rfl, rfl⟩ := H
 go_enter Tryd.func44, Tryd.ntmps44
 go_wp2_with (first | ((with_reducible refine gate_dst (N := 0) rfl ?_); refine box_event ?hg (N := 0) ?hd (cs := #[.slice none 0 0, .slice none 0 0, .slice none 0 0, .slice none 0 0, .slice none 0 0, .slice none 0 0, .slice none 0 0, .slice none 0 0, .slice none 0 0, .slice none 0 0, .slice none 0 0]) (t := 28) ?hr ?_; (case hd => rfl); (case hg => rfl); (case hr => first | (go_simp; done) | (go_simp; rfl)); intro z0 hg w1 hbox hb; have z1 := Aside0.mk (hbox); have zC := Aside0.mk ((by rw [hg]; exact (below_size (hW HB)) : w.heap.size ≤ z0)); have zu := Aside0.mk ((by rw [hg]; exact (below_size (hW HB)) : w.heap.size ≤ z0)); replace HB := hF HB hb; clear hb hbox hg) | ((with_reducible refine gate_dst (N := 1) rfl ?_); refine Kd.R_lit Kd.string _ 9 ?hg (N := 1) ?hd (xs := ([(⟨#[111, 112, 101, 110]⟩ : ByteArray), (⟨#[115, 104, 117, 116]⟩ : ByteArray)] : List ByteArray)) (inner := [.string (⟨#[111, 112, 101, 110]⟩ : ByteArray), .string (⟨#[115, 104, 117, 116]⟩ : ByteArray)]) (ok := fun _ => True) (okp := fun _ => True) ?hr ?hp (fun _ hk => hk) trivial (Below.refl _ _) (Nat.le_refl _) (by simp) ?_; (case hd => rfl); (case hg => rfl); (case hr => first | (go_simp; done) | (go_simp; rfl)); (case hp => exact (Reps.one (show Kd.M Kd.string _ _ _ (⟨#[111, 112, 101, 110]⟩ : ByteArray) [.string (⟨#[111, 112, 101, 110]⟩ : ByteArray)] from rfl) (Reps.one (show Kd.M Kd.string _ _ _ (⟨#[115, 104, 117, 116]⟩ : ByteArray) [.string (⟨#[115, 104, 117, 116]⟩ : ByteArray)] from rfl) (Reps.none _ _)))); intro v245 w2 ho3 hb hg_ hnew_; clear hg_ hnew_; (first | rw [← zn.out] at ho3 | (simp only [Int.reduceToNat] at ho3; rw [← zn.out] at ho3)); have z2 := Aside0.mk (Kd.R_lower ho3 (below_size (hW HB))); replace z1 := kF z1 hb; replace HB := hF HB hb; clear hb ho3) | ((with_reducible refine gate_dst (N := 3) rfl ?_); refine Kd.R_lit k61 _ 61 ?hg (N := 3) ?hd (xs := ([(⟨(⟨#[97, 110, 110]⟩ : ByteArray), 4607182418800017408⟩ : S61)] : List (S61))) (inner := [.string (⟨#[97, 110, 110]⟩ : ByteArray), .float .f64 4607182418800017408]) (ok := fun _ => True) (okp := fun _ => True) ?hr ?hp (fun _ hk => hk) trivial (Below.refl _ _) (Nat.le_refl _) (by simp) ?_; (case hd => rfl); (case hg => rfl); (case hr => first | (go_simp; done) | (go_simp; rfl)); (case hp => exact (Reps.c2 (show Kd.M k61 _ _ _ (⟨(⟨#[97, 110, 110]⟩ : ByteArray), 4607182418800017408⟩ : S61) [.string (⟨#[97, 110, 110]⟩ : ByteArray), .float .f64 4607182418800017408] from (k61_mkM _ _ _ (⟨(⟨#[97, 110, 110]⟩ : ByteArray), 4607182418800017408⟩ : S61) )) (Reps.none _ _))); intro v248 w4 ho5 hb hg_ hnew_; clear hg_ hnew_; (first | rw [← zo.out] at ho5 | (simp only [Int.reduceToNat] at ho5; rw [← zo.out] at ho5)); replace z2 := rF z2 hb; have z3 := Aside0.mk (Kd.R_lower ho5 (below_size (hW HB))); replace z1 := kF z1 hb; replace HB := hF HB hb; clear hb ho5) | ((with_reducible refine gate_dst (N := 4) rfl ?_); refine Kd.R_lit Kd.string _ 9 ?hg (N := 4) ?hd (xs := ([(⟨#[99, 108, 101, 114, 107]⟩ : ByteArray)] : List ByteArray)) (inner := [.string (⟨#[99, 108, 101, 114, 107]⟩ : ByteArray)]) (ok := fun _ => True) (okp := fun _ => True) ?hr ?hp (fun _ hk => hk) trivial (Below.refl _ _) (Nat.le_refl _) (by simp) ?_; (case hd => rfl); (case hg => rfl); (case hr => first | (go_simp; done) | (go_simp; rfl)); (case hp => exact (Reps.one (show Kd.M Kd.string _ _ _ (⟨#[99, 108, 101, 114, 107]⟩ : ByteArray) [.string (⟨#[99, 108, 101, 114, 107]⟩ : ByteArray)] from rfl) (Reps.none _ _))); intro v251 w6 ho7 hb hg_ hnew_; clear hg_ hnew_; (first | rw [← zp.out] at ho7 | (simp only [Int.reduceToNat] at ho7; rw [← zp.out] at ho7)); replace z3 := rF z3 hb; have z4 := Aside0.mk (Kd.R_lower (Kd.R_new' ho7 (Kd.R_lt (rE z2.out))) (below_size (hW HB))); replace z2 := Aside0.mk (Kd.R_elder' (rE z2.out) (Kd.R_base ho7) hb); replace z1 := kF z1 hb; replace HB := hF HB hb; clear hb ho7) | ((with_reducible refine gate_dst (N := 5) rfl ?_); refine Kd.R_lit Kd.string _ 9 ?hg (N := 5) ?hd (xs := ([(⟨#[100, 111, 111, 114]⟩ : ByteArray)] : List ByteArray)) (inner := [.string (⟨#[100, 111, 111, 114]⟩ : ByteArray)]) (ok := fun _ => True) (okp := fun _ => True) ?hr ?hp (fun _ hk => hk) trivial (Below.refl _ _) (Nat.le_refl _) (by simp) ?_; (case hd => rfl); (case hg => rfl); (case hr => first | (go_simp; done) | (go_simp; rfl)); (case hp => exact (Reps.one (show Kd.M Kd.string _ _ _ (⟨#[100, 111, 111, 114]⟩ : ByteArray) [.string (⟨#[100, 111, 111, 114]⟩ : ByteArray)] from rfl) (Reps.none _ _))); intro v254 w8 ho9 hb hg_ hnew_; clear hg_ hnew_; (first | rw [← zq.out] at ho9 | (simp only [Int.reduceToNat] at ho9; rw [← zq.out] at ho9)); replace z3 := rF z3 hb; have z5 := Aside0.mk (Kd.R_lower (Kd.R_new' (Kd.R_new' ho9 (Kd.R_lt (rE z2.out))) (Kd.R_lt (rE z4.out))) (below_size (hW HB))); replace z2 := Aside0.mk (Kd.R_elder' (rE z2.out) (Kd.R_base ho9) hb); replace z4 := Aside0.mk (Kd.R_elder' (rE z4.out) (Kd.R_base ho9) hb); replace z1 := kF z1 hb; replace HB := hF HB hb; clear hb ho9) | ((with_reducible refine gate_dst (N := 7) rfl ?_); refine Kd.R_lit k97 _ 97 ?hg (N := 7) ?hd (xs := ([(⟨(⟨#[97, 110, 110]⟩ : ByteArray), (⟨#[99, 108, 101, 114, 107]⟩ : ByteArray)⟩ : S97)] : List (S97))) (inner := [.string (⟨#[97, 110, 110]⟩ : ByteArray), .string (⟨#[99, 108, 101, 114, 107]⟩ : ByteArray)]) (ok := fun _ => True) (okp := fun _ => True) ?hr ?hp (fun _ hk => hk) trivial (Below.refl _ _) (Nat.le_refl _) (by simp) ?_; (case hd => rfl); (case hg => rfl); (case hr => first | (go_simp; done) | (go_simp; rfl)); (case hp => exact (Reps.c2 (show Kd.M k97 _ _ _ (⟨(⟨#[97, 110, 110]⟩ : ByteArray), (⟨#[99, 108, 101, 114, 107]⟩ : ByteArray)⟩ : S97) [.string (⟨#[97, 110, 110]⟩ : ByteArray), .string (⟨#[99, 108, 101, 114, 107]⟩ : ByteArray)] from (k97_mkM _ _ _ (⟨(⟨#[97, 110, 110]⟩ : ByteArray), (⟨#[99, 108, 101, 114, 107]⟩ : ByteArray)⟩ : S97) )) (Reps.none _ _))); intro v257 w10 ho11 hb hg_ hnew_; clear hg_ hnew_; (first | rw [← zr.out] at ho11 | (simp only [Int.reduceToNat] at ho11; rw [← zr.out] at ho11)); replace z2 := rF z2 hb; replace z3 := rF z3 hb; replace z4 := rF z4 hb; replace z5 := rF z5 hb; have zk := Aside0.mk (Kd.R_lower ho11 (below_size (hW HB))); replace z1 := kF z1 hb; replace HB := hF HB hb; clear hb ho11) | ((with_reducible refine gate_dst (N := 9) rfl ?_); refine Kd.S_lit k48 _ 48 ?hg (N := 9) ?hd (xs := ([(⟨false, (⟨#[99, 108, 101, 114, 107]⟩ : ByteArray), (⟨#[100, 111, 111, 114]⟩ : ByteArray), ([] : List ByteArray), 0, (0 : Nat)⟩ : S48)] : List (S48))) (inner := [.bool false, .string (⟨#[99, 108, 101, 114, 107]⟩ : ByteArray), .string (⟨#[100, 111, 111, 114]⟩ : ByteArray), .slice none 0 0, .int .i8 0, .float .f64 (0 : Nat)]) (ok := fun _ => True) (okp := fun _ => True) ?hr ?hp (fun _ hk => hk) trivial (Below.refl _ _) (Nat.le_refl _) (by simp) ?_; (case hd => rfl); (case hg => rfl); (case hr => first | (go_simp; done) | (go_simp; rfl)); (case hp => exact (Reps.c6 (show Kd.M k48 _ _ _ (⟨false, (⟨#[99, 108, 101, 114, 107]⟩ : ByteArray), (⟨#[100, 111, 111, 114]⟩ : ByteArray), ([] : List ByteArray), 0, (0 : Nat)⟩ : S48) [.bool false, .string (⟨#[99, 108, 101, 114, 107]⟩ : ByteArray), .string (⟨#[100, 111, 111, 114]⟩ : ByteArray), .slice none 0 0, .int .i8 0, .float .f64 (0 : Nat)] from (k48_mkM _ _ _ (⟨false, (⟨#[99, 108, 101, 114, 107]⟩ : ByteArray), (⟨#[100, 111, 111, 114]⟩ : ByteArray), ([] : List ByteArray), 0, (0 : Nat)⟩ : S48) (Kd.R_nil _ _ _ _ _))) (Reps.none _ _))); intro v260 w12 ho13 hb hg_ hnew_; clear hg_ hnew_; (first | rw [← zs.out] at ho13 | (simp only [Int.reduceToNat] at ho13; rw [← zs.out] at ho13)); replace z3 := rF z3 hb; replace zk := rF zk hb; have zl := Aside0.mk (Kd.S_lower (Kd.S_new' (Kd.S_new' (Kd.S_new' ho13 (Kd.R_lt (rE z2.out))) (Kd.R_lt (rE z4.out))) (Kd.R_lt (rE z5.out))) (below_size (hW HB))); replace z2 := rF z2 hb; replace z4 := rF z4 hb; replace z5 := rF z5 hb; replace z1 := kF z1 hb; replace HB := hF HB hb; clear hb ho13) | ((with_reducible refine gate_dst (N := 11) rfl ?_); refine Kd.R_lit k30 _ 30 ?hg (N := 11) ?hd (xs := ([(⟨(⟨#[97, 110, 110]⟩ : ByteArray), (⟨#[100, 111, 111, 114]⟩ : ByteArray), (⟨#[115, 104, 117, 116]⟩ : ByteArray)⟩ : S30)] : List (S30))) (inner := [.string (⟨#[97, 110, 110]⟩ : ByteArray), .string (⟨#[100, 111, 111, 114]⟩ : ByteArray), .string (⟨#[115, 104, 117, 116]⟩ : ByteArray)]) (ok := fun _ => True) (okp := fun _ => True) ?hr ?hp (fun _ hk => hk) trivial (Below.refl _ _) (Nat.le_refl _) (by simp) ?_; (case hd => rfl); (case hg => rfl); (case hr => first | (go_simp; done) | (go_simp; rfl)); (case hp => exact (Reps.c3 (show Kd.M k30 _ _ _ (⟨(⟨#[97, 110, 110]⟩ : ByteArray), (⟨#[100, 111, 111, 114]⟩ : ByteArray), (⟨#[115, 104, 117, 116]⟩ : ByteArray)⟩ : S30) [.string (⟨#[97, 110, 110]⟩ : ByteArray), .string (⟨#[100, 111, 111, 114]⟩ : ByteArray), .string (⟨#[115, 104, 117, 116]⟩ : ByteArray)] from (k30_mkM _ _ _ (⟨(⟨#[97, 110, 110]⟩ : ByteArray), (⟨#[100, 111, 111, 114]⟩ : ByteArray), (⟨#[115, 104, 117, 116]⟩ : ByteArray)⟩ : S30) )) (Reps.none _ _))); intro v263 w14 ho15 hb hg_ hnew_; clear hg_ hnew_; (first | rw [← zt.out] at ho15 | (simp only [Int.reduceToNat] at ho15; rw [← zt.out] at ho15)); replace z2 := rF z2 hb; replace z3 := rF z3 hb; replace z4 := rF z4 hb; replace z5 := rF z5 hb; replace zk := rF zk hb; replace zl := Aside0.mk (Kd.S_below (sE zl.out) hb); have zm := Aside0.mk (Kd.R_lower ho15 (below_size (hW HB))); replace z1 := kF z1 hb; replace HB := hF HB hb; clear hb ho15; obtain ⟨z6, zd, zv⟩ := Kd.R_slice zm.out; subst zv; obtain ⟨z7, ze, zw⟩ := Kd.S_slice zl.out; subst zw; obtain ⟨z8, zf, zx⟩ := Kd.R_slice zk.out; subst zx; obtain ⟨z9, zg, zy⟩ := Kd.R_slice z5.out; subst zy; obtain ⟨za, zh, zz⟩ := Kd.R_slice z4.out; subst zz; obtain ⟨zb, zi, zA⟩ := Kd.R_slice z3.out; subst zA; obtain ⟨zc, zj, zB⟩ := Kd.R_slice z2.out; subst zB; obtain ⟨zD, zE, zG, zH, zI, zJ, zK, zL, zM, zN, zF, zO, zP, zR, zS, zT, zU, zV, zW, zX, zY, zQ⟩ := bC11 z1))
 refine bodyPost_ret (results_cell_row rfl _ _ z0 28 #[.slice zc y244.length zj, .slice zb y247.length zi, .slice za y250.length zh, .slice z9 y253.length zg, .slice none 0 0, .slice z8 y256.length zf, .slice none 0 0, .slice none 0 0, .slice none 0 0, .slice z7 y259.length ze, .slice z6 y262.length zd] (0, 0) _ rfl (pK z1) Tryd.underlying28 rfl (by kernel_rfl)) rfl ?_
 exact ⟨_, _, _, _, _, _, _, _, _, _, _, by first | rfl | (simp [errW_none, errW_some] <;> rfl) | (simp [*, errW_none, errW_some] <;> rfl), by (with_reducible repeat (first | apply Kd.R_alloc | apply Kd.R_drewN | apply Kd.R_drew)); exact Kd.R_mono (Kd.R_far (p := ⟨z0, 10, none⟩) (Kd.R_far (p := ⟨z0, 9, none⟩) (Kd.R_far (p := ⟨z0, 8, none⟩) (Kd.R_far (p := ⟨z0, 7, none⟩) (Kd.R_far (p := ⟨z0, 6, none⟩) (Kd.R_far (p := ⟨z0, 5, none⟩) (Kd.R_far (p := ⟨z0, 4, none⟩) (Kd.R_far (p := ⟨z0, 3, none⟩) (Kd.R_far (p := ⟨z0, 2, none⟩) (Kd.R_far (p := ⟨z0, 1, none⟩) (Kd.R_far (p := ⟨z0, 0, none⟩) (Kd.R_types z2.out z1.out (by decide)) (fun _ hk => hk.2) (.slice zc y244.length zj)) (fun _ hk => hk.2) (.slice zb y247.length zi)) (fun _ hk => hk.2) (.slice za y250.length zh)) (fun _ hk => hk.2) (.slice z9 y253.length zg)) (fun _ hk => hk.2) (.slice none 0 0)) (fun _ hk => hk.2) (.slice z8 y256.length zf)) (fun _ hk => hk.2) (.slice none 0 0)) (fun _ hk => hk.2) (.slice none 0 0)) (fun _ hk => hk.2) (.slice none 0 0)) (fun _ hk => hk.2) (.slice z7 y259.length ze)) (fun _ hk => hk.2) (.slice z6 y262.length zd)) (fun _ hk => ⟨hk.1.1.2, ⟨hk.1.2, (by simp [Value.ownBlock])⟩⟩), by (with_reducible repeat (first | apply Kd.R_alloc | apply Kd.R_drewN | apply Kd.R_drew)); exact Kd.R_mono (Kd.R_far (p := ⟨z0, 10, none⟩) (Kd.R_far (p := ⟨z0, 9, none⟩) (Kd.R_far (p := ⟨z0, 8, none⟩) (Kd.R_far (p := ⟨z0, 7, none⟩) (Kd.R_far (p := ⟨z0, 6, none⟩) (Kd.R_far (p := ⟨z0, 5, none⟩) (Kd.R_far (p := ⟨z0, 4, none⟩) (Kd.R_far (p := ⟨z0, 3, none⟩) (Kd.R_far (p := ⟨z0, 2, none⟩) (Kd.R_far (p := ⟨z0, 1, none⟩) (Kd.R_far (p := ⟨z0, 0, none⟩) (Kd.R_types z3.out z1.out (by decide)) (fun _ hk => hk.2) (.slice zc y244.length zj)) (fun _ hk => hk.2) (.slice zb y247.length zi)) (fun _ hk => hk.2) (.slice za y250.length zh)) (fun _ hk => hk.2) (.slice z9 y253.length zg)) (fun _ hk => hk.2) (.slice none 0 0)) (fun _ hk => hk.2) (.slice z8 y256.length zf)) (fun _ hk => hk.2) (.slice none 0 0)) (fun _ hk => hk.2) (.slice none 0 0)) (fun _ hk => hk.2) (.slice none 0 0)) (fun _ hk => hk.2) (.slice z7 y259.length ze)) (fun _ hk => hk.2) (.slice z6 y262.length zd)) (fun _ hk => trivial), by (with_reducible repeat (first | apply Kd.R_alloc | apply Kd.R_drewN | apply Kd.R_drew)); exact Kd.R_mono (Kd.R_far (p := ⟨z0, 10, none⟩) (Kd.R_far (p := ⟨z0, 9, none⟩) (Kd.R_far (p := ⟨z0, 8, none⟩) (Kd.R_far (p := ⟨z0, 7, none⟩) (Kd.R_far (p := ⟨z0, 6, none⟩) (Kd.R_far (p := ⟨z0, 5, none⟩) (Kd.R_far (p := ⟨z0, 4, none⟩) (Kd.R_far (p := ⟨z0, 3, none⟩) (Kd.R_far (p := ⟨z0, 2, none⟩) (Kd.R_far (p := ⟨z0, 1, none⟩) (Kd.R_far (p := ⟨z0, 0, none⟩) (Kd.R_types z4.out z1.out (by decide)) (fun _ hk => hk.2) (.slice zc y244.length zj)) (fun _ hk => hk.2) (.slice zb y247.length zi)) (fun _ hk => hk.2) (.slice za y250.length zh)) (fun _ hk => hk.2) (.slice z9 y253.length zg)) (fun _ hk => hk.2) (.slice none 0 0)) (fun _ hk => hk.2) (.slice z8 y256.length zf)) (fun _ hk => hk.2) (.slice none 0 0)) (fun _ hk => hk.2) (.slice none 0 0)) (fun _ hk => hk.2) (.slice none 0 0)) (fun _ hk => hk.2) (.slice z7 y259.length ze)) (fun _ hk => hk.2) (.slice z6 y262.length zd)) (fun _ hk => ⟨hk.1.1.2, ⟨hk.1.2, (by simp [Value.ownBlock])⟩⟩), by (with_reducible repeat (first | apply Kd.R_alloc | apply Kd.R_drewN | apply Kd.R_drew)); exact Kd.R_mono (Kd.R_far (p := ⟨z0, 10, none⟩) (Kd.R_far (p := ⟨z0, 9, none⟩) (Kd.R_far (p := ⟨z0, 8, none⟩) (Kd.R_far (p := ⟨z0, 7, none⟩) (Kd.R_far (p := ⟨z0, 6, none⟩) (Kd.R_far (p := ⟨z0, 5, none⟩) (Kd.R_far (p := ⟨z0, 4, none⟩) (Kd.R_far (p := ⟨z0, 3, none⟩) (Kd.R_far (p := ⟨z0, 2, none⟩) (Kd.R_far (p := ⟨z0, 1, none⟩) (Kd.R_far (p := ⟨z0, 0, none⟩) (Kd.R_types z5.out z1.out (by decide)) (fun _ hk => hk.2) (.slice zc y244.length zj)) (fun _ hk => hk.2) (.slice zb y247.length zi)) (fun _ hk => hk.2) (.slice za y250.length zh)) (fun _ hk => hk.2) (.slice z9 y253.length zg)) (fun _ hk => hk.2) (.slice none 0 0)) (fun _ hk => hk.2) (.slice z8 y256.length zf)) (fun _ hk => hk.2) (.slice none 0 0)) (fun _ hk => hk.2) (.slice none 0 0)) (fun _ hk => hk.2) (.slice none 0 0)) (fun _ hk => hk.2) (.slice z7 y259.length ze)) (fun _ hk => hk.2) (.slice z6 y262.length zd)) (fun _ hk => ⟨hk.1.1.2, ⟨hk.1.2, (by simp [Value.ownBlock])⟩⟩), by first | exact Kd.R_nil _ _ _ _ _ | exact Kd.N_nil _ _ _ _ _ | exact Kd.V_nil _ _ _ _ _ | exact Kd.Q_nil _ _ _ _ _ | exact Kd.S_nil _ _ _ _ _, by (with_reducible repeat (first | apply Kd.R_alloc | apply Kd.R_drewN | apply Kd.R_drew)); exact Kd.R_mono (Kd.R_far (p := ⟨z0, 10, none⟩) (Kd.R_far (p := ⟨z0, 9, none⟩) (Kd.R_far (p := ⟨z0, 8, none⟩) (Kd.R_far (p := ⟨z0, 7, none⟩) (Kd.R_far (p := ⟨z0, 6, none⟩) (Kd.R_far (p := ⟨z0, 5, none⟩) (Kd.R_far (p := ⟨z0, 4, none⟩) (Kd.R_far (p := ⟨z0, 3, none⟩) (Kd.R_far (p := ⟨z0, 2, none⟩) (Kd.R_far (p := ⟨z0, 1, none⟩) (Kd.R_far (p := ⟨z0, 0, none⟩) (Kd.R_types zk.out z1.out (by decide)) (fun _ hk => hk.2) (.slice zc y244.length zj)) (fun _ hk => hk.2) (.slice zb y247.length zi)) (fun _ hk => hk.2) (.slice za y250.length zh)) (fun _ hk => hk.2) (.slice z9 y253.length zg)) (fun _ hk => hk.2) (.slice none 0 0)) (fun _ hk => hk.2) (.slice z8 y256.length zf)) (fun _ hk => hk.2) (.slice none 0 0)) (fun _ hk => hk.2) (.slice none 0 0)) (fun _ hk => hk.2) (.slice none 0 0)) (fun _ hk => hk.2) (.slice z7 y259.length ze)) (fun _ hk => hk.2) (.slice z6 y262.length zd)) (fun _ hk => ⟨(by simp [Value.ownBlock]), ⟨(by simp [Value.ownBlock]), (by simp [Value.ownBlock])⟩⟩), by first | exact Kd.R_nil _ _ _ _ _ | exact Kd.N_nil _ _ _ _ _ | exact Kd.V_nil _ _ _ _ _ | exact Kd.Q_nil _ _ _ _ _ | exact Kd.S_nil _ _ _ _ _, by first | exact Kd.R_nil _ _ _ _ _ | exact Kd.N_nil _ _ _ _ _ | exact Kd.V_nil _ _ _ _ _ | exact Kd.Q_nil _ _ _ _ _ | exact Kd.S_nil _ _ _ _ _, by first | exact Kd.R_nil _ _ _ _ _ | exact Kd.N_nil _ _ _ _ _ | exact Kd.V_nil _ _ _ _ _ | exact Kd.Q_nil _ _ _ _ _ | exact Kd.S_nil _ _ _ _ _, by (with_reducible repeat (first | apply Kd.S_alloc | apply Kd.S_drewN | apply Kd.S_drew)); exact Kd.S_mono (Kd.S_far (p := ⟨z0, 10, none⟩) (Kd.S_far (p := ⟨z0, 9, none⟩) (Kd.S_far (p := ⟨z0, 8, none⟩) (Kd.S_far (p := ⟨z0, 7, none⟩) (Kd.S_far (p := ⟨z0, 6, none⟩) (Kd.S_far (p := ⟨z0, 5, none⟩) (Kd.S_far (p := ⟨z0, 4, none⟩) (Kd.S_far (p := ⟨z0, 3, none⟩) (Kd.S_far (p := ⟨z0, 2, none⟩) (Kd.S_far (p := ⟨z0, 1, none⟩) (Kd.S_far (p := ⟨z0, 0, none⟩) (Kd.S_types zl.out z1.out (by decide)) (fun _ hk => hk.2) (.slice zc y244.length zj)) (fun _ hk => hk.2) (.slice zb y247.length zi)) (fun _ hk => hk.2) (.slice za y250.length zh)) (fun _ hk => hk.2) (.slice z9 y253.length zg)) (fun _ hk => hk.2) (.slice none 0 0)) (fun _ hk => hk.2) (.slice z8 y256.length zf)) (fun _ hk => hk.2) (.slice none 0 0)) (fun _ hk => hk.2) (.slice none 0 0)) (fun _ hk => hk.2) (.slice none 0 0)) (fun _ hk => hk.2) (.slice z7 y259.length ze)) (fun _ hk => hk.2) (.slice z6 y262.length zd)) (fun _ hk => ⟨hk.1.1.1.2, ⟨hk.1.1.2, ⟨hk.1.2, (by simp [Value.ownBlock])⟩⟩⟩), by (with_reducible repeat (first | apply Kd.R_alloc | apply Kd.R_drewN | apply Kd.R_drew)); exact Kd.R_mono (Kd.R_far (p := ⟨z0, 10, none⟩) (Kd.R_far (p := ⟨z0, 9, none⟩) (Kd.R_far (p := ⟨z0, 8, none⟩) (Kd.R_far (p := ⟨z0, 7, none⟩) (Kd.R_far (p := ⟨z0, 6, none⟩) (Kd.R_far (p := ⟨z0, 5, none⟩) (Kd.R_far (p := ⟨z0, 4, none⟩) (Kd.R_far (p := ⟨z0, 3, none⟩) (Kd.R_far (p := ⟨z0, 2, none⟩) (Kd.R_far (p := ⟨z0, 1, none⟩) (Kd.R_far (p := ⟨z0, 0, none⟩) (Kd.R_types zm.out z1.out (by decide)) (fun _ hk => hk.2) (.slice zc y244.length zj)) (fun _ hk => hk.2) (.slice zb y247.length zi)) (fun _ hk => hk.2) (.slice za y250.length zh)) (fun _ hk => hk.2) (.slice z9 y253.length zg)) (fun _ hk => hk.2) (.slice none 0 0)) (fun _ hk => hk.2) (.slice z8 y256.length zf)) (fun _ hk => hk.2) (.slice none 0 0)) (fun _ hk => hk.2) (.slice none 0 0)) (fun _ hk => hk.2) (.slice none 0 0)) (fun _ hk => hk.2) (.slice z7 y259.length ze)) (fun _ hk => hk.2) (.slice z6 y262.length zd)) (fun _ hk => trivial), by repeat (first | (with_reducible first | exact HB.out | apply below_alloc | apply pw_below_drewN | apply below_drew1 | refine below_set ?_ zu.out) | exact HB.out)⟩

-- NOT PRINTED: function 19 (gatehouselaw10_alive)

-- NOT PRINTED: function 25 (why_What)

-- NOT PRINTED: function 8 (gatehouselaw10_WhyAll)

/-! ### gatehouselaw10_line: function 58 -/
/-! ### gatehouselaw10_leads: function 23 -/
def gatehouselaw10_leads.T6 : Bool × List (List Nat × List Nat) := (true, [([], []), ([], []), ([], []), ([], []), ([3], [3]), ([2, 4], [2, 4]), ([5], [5]), ([], []), ([], []), ([7, 8], [7, 8]), ([9], [9]), ([0, 1, 6, 10], [0, 1, 6, 10]), ([11, 11, 0, 1, 2, 3, 4, 5, 6, 7, 8, 9, 10, 11], [11])])
def gatehouselaw10_leads.B6 : List Nat := [0, 0, 0, 0, 8, 28, 60, 0, 0, 384, 896, 2047, 4095]
theorem gatehouselaw10_leads.tab6 : rtab .any (opsOf Tryd.f23 6) = gatehouselaw10_leads.T6 := by kernel_rfl
theorem gatehouselaw10_leads.bits6 : waitsOk gatehouselaw10_leads.T6.2 gatehouselaw10_leads.B6 = true := by kernel_rfl
-- NOT PRINTED: function 6 (gatehouselaw10_WhyChecked)

-- NOT PRINTED: function 7 (gatehouselaw10_WhyFirst)

-- NOT PRINTED: function 4 (gatehouselaw10_WhyNames)

-- NOT PRINTED: function 5 (gatehouselaw10_WhySound)

end Go.Proofs.YteefneemmdfncaaDoor.F
