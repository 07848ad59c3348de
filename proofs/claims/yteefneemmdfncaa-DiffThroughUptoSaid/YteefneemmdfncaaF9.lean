import Derived.Test.YteefneemmdfncaaF0
import Derived.Test.YteefneemmdfncaaF7
import Derived.Test.YteefneemmdfncaaF3
-- Written by a program of this session (mk.py over the kit's print, turned for floats and for contracts given by hand). Not trusted: Lean checks it.
namespace Go.Proofs.Yteefneemmdfncaa.F
open Go.RowKit Go.Proofs.YteefneemmdfncaaW.PrintWords Go.Proofs.YteefneemmdfncaaW.PrintLast Go.Proofs.YteefneemmdfncaaW.PrintMore
attribute [local go_sem] max2_int min2_int max_two min_two max_three min_three max_four min_four   -- for this text's walks alone
attribute [local go_sem] flt_eql flt_neq flt_lss flt_leq flt_gtr flt_geq run_store_float
set_option linter.unusedVariables false
set_option linter.unusedSimpArgs false

attribute [local go_sem high] eqA30 eqA105
/-! ### gatehouseref10_matched: function 66 -/
def gatehouseref10_matched.T5 : Bool × List (List Nat × List Nat) := (true, [([], []), ([], []), ([1], [1]), ([], []), ([2, 3], [2, 3]), ([4], [4]), ([], []), ([0, 5, 6], [0, 5, 6]), ([7, 7, 0, 1, 2, 3, 4, 5, 6, 7], [7])])
def gatehouseref10_matched.B5 : List Nat := [0, 0, 2, 0, 14, 30, 0, 127, 255]
/-! ### gatehouseref08_excepted: function 96 -/
/-! ### gatehouseref08_Allows: function 47 -/
def gatehouseref08_Allows.T6 : Bool × List (List Nat × List Nat) := (true, [([], []), ([], []), ([1], [1]), ([], []), ([2, 3], [2, 3]), ([4], [4]), ([], []), ([0, 5, 6], [0, 5, 6]), ([7, 7, 0, 1, 2, 3, 4, 5, 6, 7], [7])])
def gatehouseref08_Allows.B6 : List Nat := [0, 0, 2, 0, 14, 30, 0, 127, 255]
-- NOT PRINTED: function 104 (gatehouseref10_Way)

-- NOT PRINTED: function 67 (gatehouseref10_byRule)

-- NOT PRINTED: function 24 (gatehouseref10_Holds)

-- NOT PRINTED: function 92 (mean_about)

/-! ### api_Triple_130: function 130 -/
def api_Triple_130.l0 : Nat → List (S30) → Int → Int → ByteArray → ByteArray → ByteArray → Option (Int)
 | 0, _, _, _, _, _, _ => none
 | k + 1, x0, x7, x8, z8, z9, za => if x8 < x7 then (if 0 ≤ x8 then (if x8 < (x0.length : Int) then (if (z8.toList == (((rd_T30 x0 x8).f0).toList) && (z9.toList == (((rd_T30 x0 x8).f1).toList) && (za.toList == (((rd_T30 x0 x8).f2).toList)))) = true then (some x8) else (api_Triple_130.l0 k x0 x7 (wrap64 (x8 + 1)) z8 z9 za)) else (none)) else (none)) else (some (-1))
def api_Triple_130.f (k : Nat) (l0 : List (S30)) (a1_0 : ByteArray) (a1_1 : ByteArray) (a1_2 : ByteArray) : Option (Int) := api_Triple_130.l0 k l0 (l0.length : Int) 0 a1_0 a1_1 a1_2
set_option maxHeartbeats 8000000 in
set_option maxRecDepth 100000 in
theorem api_Triple_130.calls (k : Nat) (A0 : Option Addr) (c0 : Nat) (l0 : List (S30)) (a1_0 : ByteArray) (a1_1 : ByteArray) (a1_2 : ByteArray) (r : Int) (w : World) (hr0 : Kd.C k30 w A0 l0.length l0) (hc0 : l0.length ≤ c0) (h : api_Triple_130.f k l0 a1_0 a1_1 a1_2 = some r) :
  Calls Try.prog 130 #[.slice A0 l0.length c0, .agg #[.string a1_0, .string a1_1, .string a1_2]] w fun e w' => e = .returned (.int .i64 r) ∧ Below w.heap.size w w' := by
 have hu30 := Try.underlying30; have HR0 := Aside0.mk hr0; have HC0 := Aside0.mk hc0; clear hr0 hc0; have HB := Aside0.mk (Below.refl w.heap.size w); have H : (api_Triple_130.l0 k l0 (l0.length : Int) 0 a1_0 a1_1 a1_2) = some r := h; clear h; have H' := Aside0.mk H; clear H
 go_enter Try.func130, Try.ntmps130
 go_wp2_with (first | ((with_reducible refine gate_dst (N := 3) rfl ?_); refine box_event ?hg (N := 3) ?hd (cs := #[.string a1_0, .string a1_1, .string a1_2]) (t := 30) ?hr ?_; (case hd => rfl); (case hg => rfl); (case hr => first | (go_simp; done) | (go_simp; rfl)); intro z1 hg w3 hbox hb; have z2 := Aside0.mk (hbox); have z7 := Aside0.mk ((by rw [hg]; exact (below_size (hW HB)) : w.heap.size ≤ z1)); have z6 := Aside0.mk ((by rw [hg]; exact (below_size (hW HB)) : w.heap.size ≤ z1)); replace HB := hF HB hb; clear hb hbox hg))
 repeat (go_quiet (first | ((with_reducible refine gate_dst (N := 3) rfl ?_); refine box_event ?hg (N := 3) ?hd (cs := #[.string a1_0, .string a1_1, .string a1_2]) (t := 30) ?hr ?_; (case hd => rfl); (case hg => rfl); (case hr => first | (go_simp; done) | (go_simp; rfl)); intro z1 hg w3 hbox hb; have z2 := Aside0.mk (hbox); have z7 := Aside0.mk ((by rw [hg]; exact (below_size (hW HB)) : w.heap.size ≤ z1)); have z6 := Aside0.mk ((by rw [hg]; exact (below_size (hW HB)) : w.heap.size ≤ z1)); replace HB := hF HB hb; clear hb hbox hg)); try go_wp2_with (first | ((with_reducible refine gate_dst (N := 3) rfl ?_); refine box_event ?hg (N := 3) ?hd (cs := #[.string a1_0, .string a1_1, .string a1_2]) (t := 30) ?hr ?_; (case hd => rfl); (case hg => rfl); (case hr => first | (go_simp; done) | (go_simp; rfl)); intro z1 hg w3 hbox hb; have z2 := Aside0.mk (hbox); have z7 := Aside0.mk ((by rw [hg]; exact (below_size (hW HB)) : w.heap.size ≤ z1)); have z6 := Aside0.mk ((by rw [hg]; exact (below_size (hW HB)) : w.heap.size ≤ z1)); replace HB := hF HB hb; clear hb hbox hg)))
 go_loopg [8] k (fun kq v8 w' => ∃ (z0 : Int), v8 = .int .i64 z0 ∧ Aside0 (api_Triple_130.l0 kq l0 (l0.length : Int) z0 a1_0 a1_1 a1_2 = some r) ∧ Aside0 (kq ≤ k) ∧ Aside0 (w'.heap[z1]? = some (.cells #[.string a1_0, .string a1_1, .string a1_2] 30 (0, 0))) ∧ Aside0 (Below w.heap.size w w'))
 case atStart => exact ⟨(0), (by first | rfl | (simp; done) | (simp [*]; done)), H', ⟨Nat.le_refl _⟩, ⟨bE z2⟩, ⟨hW HB⟩⟩
 case round =>
  clear H'
  try clear c1
  try clear p2
  obtain ⟨z0, rfl, HA, HK1, z2, HB⟩ := hrel
  cases gk with
  | zero => exact absurd HA.out (by simp [api_Triple_130.l0])
  | succ k1 =>
   have H := HA.out; clear HA
   simp only [api_Triple_130.l0] at H
   by_cases c4 : z0 < (l0.length : Int)
   ·rw [if_pos c4] at H
    have zc : decide (z0 < (l0.length : Int)) = true := decide_eq_true c4; clear c4
    by_cases c5 : 0 ≤ z0
    ·rw [if_pos c5] at H
     have zg : decide (0 ≤ z0) = true := decide_eq_true c5; clear c5
     by_cases c6 : z0 < (l0.length : Int)
     ·rw [if_pos c6] at H
      have zh : decide (z0 < (l0.length : Int)) = true := decide_eq_true c6; clear c6
      by_cases c7 : (a1_0.toList == (((rd_T30 l0 z0).f0).toList) && (a1_1.toList == (((rd_T30 l0 z0).f1).toList) && (a1_2.toList == (((rd_T30 l0 z0).f2).toList)))) = true
      ·rw [if_pos c7] at H
       have zd : (a1_0.toList == (((rd_T30 l0 z0).f0).toList) && (a1_1.toList == (((rd_T30 l0 z0).f1).toList) && (a1_2.toList == (((rd_T30 l0 z0).f2).toList)))) = true := c7
       (try (have ze : decide (a1_0.toList = (((rd_T30 l0 z0).f0).toList) && (a1_1.toList == (((rd_T30 l0 z0).f1).toList) && (a1_2.toList == (((rd_T30 l0 z0).f2).toList)))) = true := by simpa using c7))
       (try (have zf : (a1_0.toList == (((rd_T30 l0 z0).f0).toList) && (a1_1.toList == (((rd_T30 l0 z0).f1).toList) && (a1_2.toList == (((rd_T30 l0 z0).f2).toList)))) = true := by simpa using c7))
       clear c7
       obtain rfl := Option.some.inj H
       obtain ⟨zj, zk, zl, zp, zq, zr⟩ := bC3 z2; have p428 : 0 ≤ (z0 : Int) := of_decide_eq_true (by first | (with_reducible assumption) | assumption); have q428 : z0 < (l0.length : Int) := of_decide_eq_true (by first | (with_reducible assumption) | assumption); obtain ⟨zb, e428, z3, z4, z5⟩ := at_T30 HR0.out z0 p428 q428
       cases e428
       replace z3 := hC HB z3; replace z4 := hC HB z4; replace z5 := hC HB z5; replace p428 := eq_true p428; replace q428 := eq_true q428
       go_wp2
       repeat (go_quiet (fail); try go_wp2)
       go_ret
       exact ⟨by first | rfl | (simp [errW_none, errW_some] <;> rfl) | (simp [*, errW_none, errW_some] <;> rfl), by repeat (first | (with_reducible first | exact HB.out | apply below_alloc | apply pw_below_drewN | apply below_drew1 | refine below_set ?_ z6.out) | exact HB.out)⟩
      ·rw [if_neg c7] at H
       have zd : (a1_0.toList == (((rd_T30 l0 z0).f0).toList) && (a1_1.toList == (((rd_T30 l0 z0).f1).toList) && (a1_2.toList == (((rd_T30 l0 z0).f2).toList)))) = false := by simpa using c7
       (try (have ze : decide (a1_0.toList = (((rd_T30 l0 z0).f0).toList) && (a1_1.toList == (((rd_T30 l0 z0).f1).toList) && (a1_2.toList == (((rd_T30 l0 z0).f2).toList)))) = false := by simpa using c7))
       (try (have zf : (a1_0.toList == (((rd_T30 l0 z0).f0).toList) && (a1_1.toList == (((rd_T30 l0 z0).f1).toList) && (a1_2.toList == (((rd_T30 l0 z0).f2).toList)))) = false := by simpa using c7))
       (try (have zi : ¬ (a1_0.toList = (((rd_T30 l0 z0).f0).toList) && (a1_1.toList == (((rd_T30 l0 z0).f1).toList) && (a1_2.toList == (((rd_T30 l0 z0).f2).toList)))) := by simpa using c7))
       clear c7; have H' := Aside0.mk H; clear H; obtain ⟨zm, zn, zo, zs, zt, zu⟩ := bC3 z2; have p428 : 0 ≤ (z0 : Int) := of_decide_eq_true (by first | (with_reducible assumption) | assumption); have q428 : z0 < (l0.length : Int) := of_decide_eq_true (by first | (with_reducible assumption) | assumption); obtain ⟨zb, e428, z3, z4, z5⟩ := at_T30 HR0.out z0 p428 q428
       cases e428
       replace z3 := hC HB z3; replace z4 := hC HB z4; replace z5 := hC HB z5; replace p428 := eq_true p428; replace q428 := eq_true q428
       go_wp2
       repeat (go_quiet (fail); try go_wp2)
       go_roundg k1
       case measure => have := HK1.out; omega
       case rel => exact ⟨(wrap64 (z0 + 1)), (by first | rfl | (simp; done) | (simp [*]; done)), H', ⟨by have := HK1.out; omega⟩, ⟨bE z2⟩, ⟨hW HB⟩⟩
     ·rw [if_neg c6] at H
      exact absurd H (by simp)
    ·rw [if_neg c5] at H
     exact absurd H (by simp)
   ·rw [if_neg c4] at H
    have zc : decide (z0 < (l0.length : Int)) = false := decide_eq_false c4; clear c4
    obtain rfl := Option.some.inj H
    go_wp2
    repeat (go_quiet (fail); try go_wp2)
    go_ret
    exact ⟨by first | rfl | (simp [errW_none, errW_some] <;> rfl) | (simp [*, errW_none, errW_some] <;> rfl), by repeat (first | (with_reducible first | exact HB.out | apply below_alloc | apply pw_below_drewN | apply below_drew1 | refine below_set ?_ z6.out) | exact HB.out)⟩

/-! ### api_Triple_116: function 116 -/
def api_Triple_116.f (k : Nat) (l0 : List (S30)) (a1_0 : ByteArray) (a1_1 : ByteArray) (a1_2 : ByteArray) : Option (Bool) := (api_Triple_130.f k l0 a1_0 a1_1 a1_2).bind fun t430 => (some (decide (t430 ≥ 0)))
set_option maxHeartbeats 8000000 in
set_option maxRecDepth 100000 in
theorem api_Triple_116.calls (k : Nat) (A0 : Option Addr) (c0 : Nat) (l0 : List (S30)) (a1_0 : ByteArray) (a1_1 : ByteArray) (a1_2 : ByteArray) (r : Bool) (w : World) (hr0 : Kd.C k30 w A0 l0.length l0) (hc0 : l0.length ≤ c0) (h : api_Triple_116.f k l0 a1_0 a1_1 a1_2 = some r) :
  Calls Try.prog 116 #[.slice A0 l0.length c0, .agg #[.string a1_0, .string a1_1, .string a1_2]] w fun e w' => e = .returned (.bool r) ∧ Below w.heap.size w w' := by
 have hu30 := Try.underlying30; have HR0 := Aside0.mk hr0; have HC0 := Aside0.mk hc0; clear hr0 hc0; have HB := Aside0.mk (Below.refl w.heap.size w); have H : ((api_Triple_130.f k l0 a1_0 a1_1 a1_2).bind fun t430 => (some (decide (t430 ≥ 0)))) = some r := h; clear h; replace H := Option.bind_eq_some_iff.mp H; obtain ⟨t430, A30, H⟩ := H; replace H : (some (decide (t430 ≥ 0))) = some r := H; have A3 := Aside0.mk A30; clear A30
 obtain rfl := Option.some.inj H
 go_enter Try.func116, Try.ntmps116
 go_wp2_with (first | ((with_reducible refine gate_dst (N := 3) rfl ?_); refine box_event ?hg (N := 3) ?hd (cs := #[.string a1_0, .string a1_1, .string a1_2]) (t := 30) ?hr ?_; (case hd => rfl); (case hg => rfl); (case hr => first | (go_simp; done) | (go_simp; rfl)); intro z1 hg w4 hbox hb; have z0 := Aside0.mk (hbox); have z3 := Aside0.mk ((by rw [hg]; exact (below_size (hW HB)) : w.heap.size ≤ z1)); have z2 := Aside0.mk ((by rw [hg]; exact (below_size (hW HB)) : w.heap.size ≤ z1)); replace HB := hF HB hb; clear hb hbox hg; obtain ⟨z4, z5, z6, z7, z8, z9⟩ := bC3 z0) | ((with_reducible refine gate_callee (f := 130) rfl ?_); refine goesL_ (some 7) rfl rfl Try.func130 (by kernel_rfl) rfl #[.slice A0 l0.length c0, .agg #[.string a1_0, .string a1_1, .string a1_2]] rfl (by (try simp only [List.map_toArray, List.map_cons, List.map_nil]); first | done | rfl | (simp only [List.length_drop, List.length_take]; rfl)) ?_; (with_reducible refine (api_Triple_130.calls k _ _ l0 a1_0 a1_1 a1_2 t430 _ ?side1 ?side2 A3.out).mono ?_); (case side1 => exact cE (Kd.C_below HR0.out HB.out)); (case side2 => exact HC0.out); rintro e w6 ⟨rfl, hb⟩; refine ⟨_, rfl, ?_⟩; replace z0 := kF z0 hb; replace HB := hF HB hb; (try clear hb); (try clear hb2); (try clear hk); (try clear hi)))
 go_ret
 exact ⟨by first | rfl | (simp [errW_none, errW_some] <;> rfl) | (simp [*, errW_none, errW_some] <;> rfl), by repeat (first | (with_reducible first | exact HB.out | apply below_alloc | apply pw_below_drewN | apply below_drew1 | refine below_set ?_ z2.out) | exact HB.out)⟩

-- NOT PRINTED: function 93 (mean_allows)

-- by hand: function 45 (mean_Allows)

/-! ### api_Pair_127: function 127 -/
/-! ### api_Pair_105: function 105 -/
/-! ### why_way: function 68 -/
def why_way.T6 : Bool × List (List Nat × List Nat) := (true, [([], []), ([], []), ([], []), ([2], [2]), ([1, 3], [1, 3]), ([4], [4]), ([], []), ([], []), ([6, 7], [6, 7]), ([8], [8]), ([5, 9], [5, 9]), ([0, 10], [0, 10]), ([11], [11])])
def why_way.B6 : List Nat := [0, 0, 0, 4, 14, 30, 0, 0, 192, 448, 1022, 2047, 4095]
-- NOT PRINTED: function 107 (api_Rule_107)

-- NOT PRINTED: function 71 (api_Rule_71)

-- NOT PRINTED: function 26 (why_Holds)

-- NOT PRINTED: function 5 (gatehouselaw10_WhyHolds)

end Go.Proofs.Yteefneemmdfncaa.F
