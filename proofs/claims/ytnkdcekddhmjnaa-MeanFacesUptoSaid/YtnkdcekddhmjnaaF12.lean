-- Written by a program of this session (mk.py over the kit's print, turned for floats and for contracts given by hand). Not trusted: Lean checks it.
-- tight
import Derived.Test.YtnkdcekddhmjnaaF0
import Derived.Test.YtnkdcekddhmjnaaF9
namespace Go.Proofs.Ytnkdcekddhmjnaa.F
open Go.RowKit Go.Proofs.YtnkdcekddhmjnaaW.PrintWords Go.Proofs.YtnkdcekddhmjnaaW.PrintLast Go.Proofs.YtnkdcekddhmjnaaW.PrintMore
attribute [local go_sem] max2_int min2_int max_two min_two max_three min_three max_four min_four   -- for this text's walks alone
attribute [local go_sem] flt_eql flt_neq flt_lss flt_leq flt_gtr flt_geq run_store_float
set_option linter.unusedVariables false
set_option linter.unusedSimpArgs false

/-! ### gatehouselaw08_all: function 37 -/
mutual
def gatehouselaw08_all.l0 : Nat → List (S36) → Int → List ByteArray → List (S57) → List ByteArray → List ByteArray → List ByteArray → List (S86) → List (S86) → List (S86) → List (S86) → List (S27) → List (S36) → Option ((List (S36)))
 | 0, _, _, _, _, _, _, _, _, _, _, _, _, _ => none
 | k + 1, x3, x4, x520000, x520001, x520002, x520003, x520004, x520005, x520006, x520007, x520008, x520009, x520010 => if x4 < (x520001.length : Int) then (gatehouselaw08_all.l1 k x3 x4 0 x520000 x520001 x520002 x520003 x520004 x520005 x520006 x520007 x520008 x520009 x520010) else (some x3)
def gatehouselaw08_all.l1 : Nat → List (S36) → Int → Int → List ByteArray → List (S57) → List ByteArray → List ByteArray → List ByteArray → List (S86) → List (S86) → List (S86) → List (S86) → List (S27) → List (S36) → Option ((List (S36)))
 | 0, _, _, _, _, _, _, _, _, _, _, _, _, _, _ => none
 | k + 1, x3, x4, x5, x520000, x520001, x520002, x520003, x520004, x520005, x520006, x520007, x520008, x520009, x520010 => if x5 < (x520003.length : Int) then (gatehouselaw08_all.l2 k x3 x4 x5 0 x520000 x520001 x520002 x520003 x520004 x520005 x520006 x520007 x520008 x520009 x520010) else (gatehouselaw08_all.l0 k x3 (wrap64 (x4 + 1)) x520000 x520001 x520002 x520003 x520004 x520005 x520006 x520007 x520008 x520009 x520010)
def gatehouselaw08_all.l2 : Nat → List (S36) → Int → Int → Int → List ByteArray → List (S57) → List ByteArray → List ByteArray → List ByteArray → List (S86) → List (S86) → List (S86) → List (S86) → List (S27) → List (S36) → Option ((List (S36)))
 | 0, _, _, _, _, _, _, _, _, _, _, _, _, _, _, _ => none
 | k + 1, x3, x4, x5, x6, x520000, x520001, x520002, x520003, x520004, x520005, x520006, x520007, x520008, x520009, x520010 => if x6 < (x520000.length : Int) then (if 0 ≤ x4 then (if x4 < (x520001.length : Int) then (if 0 ≤ x5 then (if x5 < (x520003.length : Int) then (if 0 ≤ x6 then ((gatehouselaw08_tri.f ((rd_T57 x520001 x4).f0) (rdOf ByteArray.empty x520003 x5) (rdOf ByteArray.empty x520000 x6)).bind fun bt523 => ((gatehouselaw08_has.f k x3 bt523.1 bt523.2.1 bt523.2.2).bind fun t527 => (if t527 = true then (gatehouselaw08_all.l2 k x3 x4 x5 (wrap64 (x6 + 1)) x520000 x520001 x520002 x520003 x520004 x520005 x520006 x520007 x520008 x520009 x520010) else (if x3.length < 2932031007402 then (gatehouselaw08_all.l2 k (x3 ++ [(⟨bt523.1, bt523.2.1, bt523.2.2⟩ : S36)]) x4 x5 (wrap64 (x6 + 1)) x520000 x520001 x520002 x520003 x520004 x520005 x520006 x520007 x520008 x520009 x520010) else (none))))) else (none)) else (none)) else (none)) else (none)) else (none)) else (gatehouselaw08_all.l1 k x3 x4 (wrap64 (x5 + 1)) x520000 x520001 x520002 x520003 x520004 x520005 x520006 x520007 x520008 x520009 x520010)
end
def gatehouselaw08_all.f (k : Nat) (l0_0 : List ByteArray) (l0_1 : List (S57)) (l0_2 : List ByteArray) (l0_3 : List ByteArray) (l0_4 : List ByteArray) (l0_5 : List (S86)) (l0_6 : List (S86)) (l0_7 : List (S86)) (l0_8 : List (S86)) (l0_9 : List (S27)) (l0_10 : List (S36)) : Option ((List (S36))) := gatehouselaw08_all.l0 k ([] : List (S36)) 0 l0_0 l0_1 l0_2 l0_3 l0_4 l0_5 l0_6 l0_7 l0_8 l0_9 l0_10
theorem gatehouselaw08_all.mono_l : ∀ k, (∀ y0 y1 y2 y3 y4 y5 y6 y7 y8 y9 y10 y11 y12, LeO (gatehouselaw08_all.l0 k y0 y1 y2 y3 y4 y5 y6 y7 y8 y9 y10 y11 y12) (gatehouselaw08_all.l0 (k + 1) y0 y1 y2 y3 y4 y5 y6 y7 y8 y9 y10 y11 y12)) ∧ (∀ y0 y1 y2 y3 y4 y5 y6 y7 y8 y9 y10 y11 y12 y13, LeO (gatehouselaw08_all.l1 k y0 y1 y2 y3 y4 y5 y6 y7 y8 y9 y10 y11 y12 y13) (gatehouselaw08_all.l1 (k + 1) y0 y1 y2 y3 y4 y5 y6 y7 y8 y9 y10 y11 y12 y13)) ∧ (∀ y0 y1 y2 y3 y4 y5 y6 y7 y8 y9 y10 y11 y12 y13 y14, LeO (gatehouselaw08_all.l2 k y0 y1 y2 y3 y4 y5 y6 y7 y8 y9 y10 y11 y12 y13 y14) (gatehouselaw08_all.l2 (k + 1) y0 y1 y2 y3 y4 y5 y6 y7 y8 y9 y10 y11 y12 y13 y14))
 | 0 => ⟨fun _ _ _ _ _ _ _ _ _ _ _ _ _ r h => by simp [gatehouselaw08_all.l0] at h, fun _ _ _ _ _ _ _ _ _ _ _ _ _ _ r h => by simp [gatehouselaw08_all.l1] at h, fun _ _ _ _ _ _ _ _ _ _ _ _ _ _ _ r h => by simp [gatehouselaw08_all.l2] at h⟩
 | k + 1 => by
  obtain ⟨ih0, ih1, ih2⟩ := gatehouselaw08_all.mono_l k
  refine ⟨?_, ?_, ?_⟩
  ·intro y0 y1 y2 y3 y4 y5 y6 y7 y8 y9 y10 y11 y12
   unfold gatehouselaw08_all.l0
   repeat' first
   | (with_reducible exact ih0 _ _ _ _ _ _ _ _ _ _ _ _ _)
   | (with_reducible exact ih1 _ _ _ _ _ _ _ _ _ _ _ _ _ _)
   | (with_reducible exact ih2 _ _ _ _ _ _ _ _ _ _ _ _ _ _ _)
   | (with_reducible exact gatehouselaw08_has.mono _ _ _ _ _)
   | (with_reducible exact LeO.refl _)
   | (with_reducible exact LeO.none _)
   | (with_reducible refine LeO.ite ?_ ?_)
   | (with_reducible refine LeO.bind ?_ (fun _ => ?_))
   | exact ih0 _ _ _ _ _ _ _ _ _ _ _ _ _
   | exact ih1 _ _ _ _ _ _ _ _ _ _ _ _ _ _
   | exact ih2 _ _ _ _ _ _ _ _ _ _ _ _ _ _ _
   | exact gatehouselaw08_has.mono _ _ _ _ _
   | exact LeO.none _
   | refine LeO.ite ?_ ?_
   | refine LeO.bind ?_ (fun _ => ?_)
  ·intro y0 y1 y2 y3 y4 y5 y6 y7 y8 y9 y10 y11 y12 y13
   unfold gatehouselaw08_all.l1
   repeat' first
   | (with_reducible exact ih0 _ _ _ _ _ _ _ _ _ _ _ _ _)
   | (with_reducible exact ih1 _ _ _ _ _ _ _ _ _ _ _ _ _ _)
   | (with_reducible exact ih2 _ _ _ _ _ _ _ _ _ _ _ _ _ _ _)
   | (with_reducible exact gatehouselaw08_has.mono _ _ _ _ _)
   | (with_reducible exact LeO.refl _)
   | (with_reducible exact LeO.none _)
   | (with_reducible refine LeO.ite ?_ ?_)
   | (with_reducible refine LeO.bind ?_ (fun _ => ?_))
   | exact ih0 _ _ _ _ _ _ _ _ _ _ _ _ _
   | exact ih1 _ _ _ _ _ _ _ _ _ _ _ _ _ _
   | exact ih2 _ _ _ _ _ _ _ _ _ _ _ _ _ _ _
   | exact gatehouselaw08_has.mono _ _ _ _ _
   | exact LeO.none _
   | refine LeO.ite ?_ ?_
   | refine LeO.bind ?_ (fun _ => ?_)
  ·intro y0 y1 y2 y3 y4 y5 y6 y7 y8 y9 y10 y11 y12 y13 y14
   unfold gatehouselaw08_all.l2
   repeat' first
   | (with_reducible exact ih0 _ _ _ _ _ _ _ _ _ _ _ _ _)
   | (with_reducible exact ih1 _ _ _ _ _ _ _ _ _ _ _ _ _ _)
   | (with_reducible exact ih2 _ _ _ _ _ _ _ _ _ _ _ _ _ _ _)
   | (with_reducible exact gatehouselaw08_has.mono _ _ _ _ _)
   | (with_reducible exact LeO.refl _)
   | (with_reducible exact LeO.none _)
   | (with_reducible refine LeO.ite ?_ ?_)
   | (with_reducible refine LeO.bind ?_ (fun _ => ?_))
   | exact ih0 _ _ _ _ _ _ _ _ _ _ _ _ _
   | exact ih1 _ _ _ _ _ _ _ _ _ _ _ _ _ _
   | exact ih2 _ _ _ _ _ _ _ _ _ _ _ _ _ _ _
   | exact gatehouselaw08_has.mono _ _ _ _ _
   | exact LeO.none _
   | refine LeO.ite ?_ ?_
   | refine LeO.bind ?_ (fun _ => ?_)
theorem gatehouselaw08_all.mono : ∀ a0 a1 a2 a3 a4 a5 a6 a7 a8 a9 a10 k, LeO (gatehouselaw08_all.f k a0 a1 a2 a3 a4 a5 a6 a7 a8 a9 a10) (gatehouselaw08_all.f (k + 1) a0 a1 a2 a3 a4 a5 a6 a7 a8 a9 a10) := by
 intro a0 a1 a2 a3 a4 a5 a6 a7 a8 a9 a10 k
 obtain ⟨ih0, ih1, ih2⟩ := gatehouselaw08_all.mono_l k
 unfold gatehouselaw08_all.f
 repeat' first
   | (with_reducible exact ih0 _ _ _ _ _ _ _ _ _ _ _ _ _)
   | (with_reducible exact ih1 _ _ _ _ _ _ _ _ _ _ _ _ _ _)
   | (with_reducible exact ih2 _ _ _ _ _ _ _ _ _ _ _ _ _ _ _)
   | (with_reducible exact gatehouselaw08_has.mono _ _ _ _ _)
   | (with_reducible exact LeO.refl _)
   | (with_reducible exact LeO.none _)
   | (with_reducible refine LeO.ite ?_ ?_)
   | (with_reducible refine LeO.bind ?_ (fun _ => ?_))
   | exact ih0 _ _ _ _ _ _ _ _ _ _ _ _ _
   | exact ih1 _ _ _ _ _ _ _ _ _ _ _ _ _ _
   | exact ih2 _ _ _ _ _ _ _ _ _ _ _ _ _ _ _
   | exact gatehouselaw08_has.mono _ _ _ _ _
   | exact LeO.none _
   | refine LeO.ite ?_ ?_
   | refine LeO.bind ?_ (fun _ => ?_)
def gatehouselaw08_all.T11 : Bool × List (List Nat × List Nat) := (true, [([], []), ([0], [0]), ([], []), ([1, 2], [1, 2]), ([3], [3]), ([4], [4]), ([], []), ([6], [6]), ([], []), ([7, 8], [7, 8]), ([9], [9]), ([], []), ([11], [11]), ([], []), ([12, 13], [12, 13]), ([14], [14]), ([5, 10, 15], [5, 10, 15]), ([], []), ([17, 16, 16, 0, 1, 2, 3, 4, 5, 6, 7, 8, 9, 10, 11, 12, 13, 14, 15, 16, 17], [16, 17])])
def gatehouselaw08_all.B11 : List Nat := [0, 1, 0, 7, 15, 31, 0, 64, 0, 448, 960, 0, 2048, 0, 14336, 30720, 65535, 0, 262143]
theorem gatehouselaw08_all.tab11 : rtab .any (opsOf Try.f37 11) = gatehouselaw08_all.T11 := by kernel_rfl
theorem gatehouselaw08_all.bits11 : waitsOk gatehouselaw08_all.T11.2 gatehouselaw08_all.B11 = true := by kernel_rfl
set_option maxHeartbeats 8000000 in
set_option maxRecDepth 100000 in
theorem gatehouselaw08_all.calls (k : Nat) (A0_0 : Option Addr) (c0_0 : Nat) (l0_0 : List ByteArray) (A0_1 : Option Addr) (c0_1 : Nat) (l0_1 : List (S57)) (A0_2 : Option Addr) (c0_2 : Nat) (l0_2 : List ByteArray) (A0_3 : Option Addr) (c0_3 : Nat) (l0_3 : List ByteArray) (A0_4 : Option Addr) (c0_4 : Nat) (l0_4 : List ByteArray) (A0_5 : Option Addr) (c0_5 : Nat) (l0_5 : List (S86)) (A0_6 : Option Addr) (c0_6 : Nat) (l0_6 : List (S86)) (A0_7 : Option Addr) (c0_7 : Nat) (l0_7 : List (S86)) (A0_8 : Option Addr) (c0_8 : Nat) (l0_8 : List (S86)) (A0_9 : Option Addr) (c0_9 : Nat) (l0_9 : List (S27)) (A0_10 : Option Addr) (c0_10 : Nat) (l0_10 : List (S36)) (r : List (S36)) (w : World) (hr0_0 : Kd.C Kd.string w A0_0 l0_0.length l0_0) (hc0_0 : l0_0.length ≤ c0_0) (hr0_1 : Kd.C k57 w A0_1 l0_1.length l0_1) (hc0_1 : l0_1.length ≤ c0_1) (hr0_2 : Kd.C Kd.string w A0_2 l0_2.length l0_2) (hc0_2 : l0_2.length ≤ c0_2) (hr0_3 : Kd.C Kd.string w A0_3 l0_3.length l0_3) (hc0_3 : l0_3.length ≤ c0_3) (hr0_4 : Kd.C Kd.string w A0_4 l0_4.length l0_4) (hc0_4 : l0_4.length ≤ c0_4) (hr0_5 : Kd.C k86 w A0_5 l0_5.length l0_5) (hc0_5 : l0_5.length ≤ c0_5) (hr0_6 : Kd.C k86 w A0_6 l0_6.length l0_6) (hc0_6 : l0_6.length ≤ c0_6) (hr0_7 : Kd.C k86 w A0_7 l0_7.length l0_7) (hc0_7 : l0_7.length ≤ c0_7) (hr0_8 : Kd.C k86 w A0_8 l0_8.length l0_8) (hc0_8 : l0_8.length ≤ c0_8) (hr0_9 : Kd.C k27 w A0_9 l0_9.length l0_9) (hc0_9 : l0_9.length ≤ c0_9) (hr0_10 : Kd.C k36 w A0_10 l0_10.length l0_10) (hc0_10 : l0_10.length ≤ c0_10) (h : gatehouselaw08_all.f k l0_0 l0_1 l0_2 l0_3 l0_4 l0_5 l0_6 l0_7 l0_8 l0_9 l0_10 = some r) :
  Calls Try.prog 37 #[.agg #[.slice A0_0 l0_0.length c0_0, .slice A0_1 l0_1.length c0_1, .slice A0_2 l0_2.length c0_2, .slice A0_3 l0_3.length c0_3, .slice A0_4 l0_4.length c0_4, .slice A0_5 l0_5.length c0_5, .slice A0_6 l0_6.length c0_6, .slice A0_7 l0_7.length c0_7, .slice A0_8 l0_8.length c0_8, .slice A0_9 l0_9.length c0_9, .slice A0_10 l0_10.length c0_10]] w fun e w' => ∃ v0_ : Value, e = .returned (v0_) ∧ Kd.R k36 36 w' w.heap.size (fun _ => True) v0_ r ∧ Below w.heap.size w w' := by
 have hu34 := Try.underlying34
 have hu36 := Try.underlying36
 have HR0_0 := Aside0.mk hr0_0
 have HC0_0 := Aside0.mk hc0_0
 clear hr0_0 hc0_0
 have HR0_1 := Aside0.mk hr0_1
 have HC0_1 := Aside0.mk hc0_1
 clear hr0_1 hc0_1
 have HR0_2 := Aside0.mk hr0_2
 have HC0_2 := Aside0.mk hc0_2
 clear hr0_2 hc0_2
 have HR0_3 := Aside0.mk hr0_3
 have HC0_3 := Aside0.mk hc0_3
 clear hr0_3 hc0_3
 have HR0_4 := Aside0.mk hr0_4
 have HC0_4 := Aside0.mk hc0_4
 clear hr0_4 hc0_4
 have HR0_5 := Aside0.mk hr0_5
 have HC0_5 := Aside0.mk hc0_5
 clear hr0_5 hc0_5
 have HR0_6 := Aside0.mk hr0_6
 have HC0_6 := Aside0.mk hc0_6
 clear hr0_6 hc0_6
 have HR0_7 := Aside0.mk hr0_7
 have HC0_7 := Aside0.mk hc0_7
 clear hr0_7 hc0_7
 have HR0_8 := Aside0.mk hr0_8
 have HC0_8 := Aside0.mk hc0_8
 clear hr0_8 hc0_8
 have HR0_9 := Aside0.mk hr0_9
 have HC0_9 := Aside0.mk hc0_9
 clear hr0_9 hc0_9
 have HR0_10 := Aside0.mk hr0_10
 have HC0_10 := Aside0.mk hc0_10
 clear hr0_10 hc0_10
 have HB := Aside0.mk (Below.refl w.heap.size w)
 have H : (gatehouselaw08_all.l0 k ([] : List (S36)) 0 l0_0 l0_1 l0_2 l0_3 l0_4 l0_5 l0_6 l0_7 l0_8 l0_9 l0_10) = some r := h
 clear h
 have H' := Aside0.mk H
 clear H
 go_enter Try.func37, Try.ntmps37
 go_wp2_with (first | ((with_reducible refine gate_dst (N := 1) rfl ?_); refine box_event ?hg (N := 1) ?hd (cs := #[.slice A0_0 l0_0.length c0_0, .slice A0_1 l0_1.length c0_1, .slice A0_2 l0_2.length c0_2, .slice A0_3 l0_3.length c0_3, .slice A0_4 l0_4.length c0_4, .slice A0_5 l0_5.length c0_5, .slice A0_6 l0_6.length c0_6, .slice A0_7 l0_7.length c0_7, .slice A0_8 l0_8.length c0_8, .slice A0_9 l0_9.length c0_9, .slice A0_10 l0_10.length c0_10]) (t := 34) ?hr ?_; (case hd => rfl); (case hg => rfl); (case hr => first | (go_simp; done) | (go_simp; rfl)); intro gb519 hg w2 hbox hb; have n0_ := Aside0.mk (below_step (by repeat (first | (with_reducible first | exact HB.out | apply below_alloc | apply pw_below_drewN | apply below_drew1) | exact HB.out)) hb); have n1_ := Aside0.mk (hbox); have n2_ := Aside0.mk ((by rw [hg]; exact (below_size (by repeat (first | (with_reducible first | exact HB.out | apply below_alloc | apply pw_below_drewN | apply below_drew1) | exact HB.out))) : w.heap.size ≤ gb519)); have n3_ := Aside0.mk ((by rw [hg]; exact (below_size (by repeat (first | (with_reducible first | exact HB.out | apply below_alloc | apply pw_below_drewN | apply below_drew1) | exact HB.out))) : w.heap.size ≤ gb519)); clear HB; have HB := n0_; have BK519 := n1_; have GW519 := n2_; have GE519 := n3_; clear n0_ n1_ n2_ n3_; clear hb hbox hg))
 go_loopg [3, 4] k (fun kq v3 v4 w' => ∃ (x3_1 : List (S36)) (x4_1 : Int), v4 = .int .i64 x4_1 ∧ Aside0 (gatehouselaw08_all.l0 kq x3_1 x4_1 l0_0 l0_1 l0_2 l0_3 l0_4 l0_5 l0_6 l0_7 l0_8 l0_9 l0_10 = some r) ∧ Aside0 (kq ≤ k) ∧ Aside0 (Kd.R k36 36 w' w.heap.size (fun _ => True) v3 x3_1) ∧ Aside0 (w'.heap[gb519]? = some (.cells #[(.slice A0_0 l0_0.length c0_0), (.slice A0_1 l0_1.length c0_1), (.slice A0_2 l0_2.length c0_2), (.slice A0_3 l0_3.length c0_3), (.slice A0_4 l0_4.length c0_4), (.slice A0_5 l0_5.length c0_5), (.slice A0_6 l0_6.length c0_6), (.slice A0_7 l0_7.length c0_7), (.slice A0_8 l0_8.length c0_8), (.slice A0_9 l0_9.length c0_9), (.slice A0_10 l0_10.length c0_10)] 34 (0, 0))) ∧ Aside0 (Below w.heap.size w w'))
 case atStart => exact ⟨(([] : List (S36))), (0), (by first | rfl | (simp; done) | (simp [*]; done)), H', ⟨Nat.le_refl _⟩, ⟨by first | exact Kd.R_nil _ _ _ _ _ | exact Kd.N_nil _ _ _ _ _ | exact Kd.V_nil _ _ _ _ _ | exact Kd.Q_nil _ _ _ _ _ | exact Kd.S_nil _ _ _ _ _⟩, ⟨by (with_reducible repeat (first | refine blk_drewN ?_ _ | refine blk_drew ?_ | refine blk_alloc ?_ _)); exact BK519.out⟩, ⟨by repeat (first | (with_reducible first | exact HB.out | apply below_alloc | apply pw_below_drewN | apply below_drew1 | refine below_set ?_ GE519.out) | exact HB.out)⟩⟩
 case round =>
  clear H'
  try clear p2
  obtain ⟨x3_1, x4_1, rfl, HA, HK1, HO_3, BK519, HB⟩ := hrel
  cases gk with
  | zero => exact absurd HA.out (by simp [gatehouselaw08_all.l0])
  | succ k1 =>
   have H := HA.out
   clear HA
   simp only [gatehouselaw08_all.l0] at H
   by_cases c3 : x4_1 < (l0_1.length : Int)
   ·rw [if_pos c3] at H
    have c3b0 : decide (x4_1 < (l0_1.length : Int)) = true := decide_eq_true c3
    clear c3
    have H' := Aside0.mk H
    clear H
    have hcz4_0 : wr.cell? ⟨gb519, 0, none⟩ = some (.slice A0_0 l0_0.length c0_0) := (blk_cell BK519.out 0).trans rfl
    have hcz4_1 : wr.cell? ⟨gb519, 1, none⟩ = some (.slice A0_1 l0_1.length c0_1) := (blk_cell BK519.out 1).trans rfl
    have hcz4_2 : wr.cell? ⟨gb519, 2, none⟩ = some (.slice A0_2 l0_2.length c0_2) := (blk_cell BK519.out 2).trans rfl
    have hcz4_3 : wr.cell? ⟨gb519, 3, none⟩ = some (.slice A0_3 l0_3.length c0_3) := (blk_cell BK519.out 3).trans rfl
    have hcz4_4 : wr.cell? ⟨gb519, 4, none⟩ = some (.slice A0_4 l0_4.length c0_4) := (blk_cell BK519.out 4).trans rfl
    have hcz4_5 : wr.cell? ⟨gb519, 5, none⟩ = some (.slice A0_5 l0_5.length c0_5) := (blk_cell BK519.out 5).trans rfl
    have hcz4_6 : wr.cell? ⟨gb519, 6, none⟩ = some (.slice A0_6 l0_6.length c0_6) := (blk_cell BK519.out 6).trans rfl
    have hcz4_7 : wr.cell? ⟨gb519, 7, none⟩ = some (.slice A0_7 l0_7.length c0_7) := (blk_cell BK519.out 7).trans rfl
    have hcz4_8 : wr.cell? ⟨gb519, 8, none⟩ = some (.slice A0_8 l0_8.length c0_8) := (blk_cell BK519.out 8).trans rfl
    have hcz4_9 : wr.cell? ⟨gb519, 9, none⟩ = some (.slice A0_9 l0_9.length c0_9) := (blk_cell BK519.out 9).trans rfl
    have hcz4_10 : wr.cell? ⟨gb519, 10, none⟩ = some (.slice A0_10 l0_10.length c0_10) := (blk_cell BK519.out 10).trans rfl
    have hfz4_0 := blk_frozen BK519.out 0
    have hfz4_1 := blk_frozen BK519.out 1
    have hfz4_2 := blk_frozen BK519.out 2
    have hfz4_3 := blk_frozen BK519.out 3
    have hfz4_4 := blk_frozen BK519.out 4
    have hfz4_5 := blk_frozen BK519.out 5
    have hfz4_6 := blk_frozen BK519.out 6
    have hfz4_7 := blk_frozen BK519.out 7
    have hfz4_8 := blk_frozen BK519.out 8
    have hfz4_9 := blk_frozen BK519.out 9
    have hfz4_10 := blk_frozen BK519.out 10
    go_wp2
    go_loopg [3, 5] k1 (fun kq v3 v5 w' => ∃ (x3_2 : List (S36)) (x5_2 : Int), v5 = .int .i64 x5_2 ∧ Aside0 (gatehouselaw08_all.l1 kq x3_2 x4_1 x5_2 l0_0 l0_1 l0_2 l0_3 l0_4 l0_5 l0_6 l0_7 l0_8 l0_9 l0_10 = some r) ∧ Aside0 (kq ≤ k1) ∧ Aside0 (Kd.R k36 36 w' w.heap.size (fun _ => True) v3 x3_2) ∧ Aside0 (w'.heap[gb519]? = some (.cells #[(.slice A0_0 l0_0.length c0_0), (.slice A0_1 l0_1.length c0_1), (.slice A0_2 l0_2.length c0_2), (.slice A0_3 l0_3.length c0_3), (.slice A0_4 l0_4.length c0_4), (.slice A0_5 l0_5.length c0_5), (.slice A0_6 l0_6.length c0_6), (.slice A0_7 l0_7.length c0_7), (.slice A0_8 l0_8.length c0_8), (.slice A0_9 l0_9.length c0_9), (.slice A0_10 l0_10.length c0_10)] 34 (0, 0))) ∧ Aside0 (Below w.heap.size w w'))
    case atStart => exact ⟨(x3_1), (0), (by first | rfl | (simp; done) | (simp [*]; done)), H', ⟨Nat.le_refl _⟩, ⟨by (with_reducible repeat (first | apply Kd.R_alloc | apply Kd.R_drewN | apply Kd.R_drew)); exact HO_3.out⟩, ⟨by (with_reducible repeat (first | refine blk_drewN ?_ _ | refine blk_drew ?_ | refine blk_alloc ?_ _)); exact BK519.out⟩, ⟨by repeat (first | (with_reducible first | exact HB.out | apply below_alloc | apply pw_below_drewN | apply below_drew1 | refine below_set ?_ GE519.out) | exact HB.out)⟩⟩
    case round =>
     clear H'
     try clear p2
     try clear c3
     try clear c3b0
     try clear hcz4_0
     try clear hcz4_1
     try clear hcz4_10
     try clear hcz4_2
     try clear hcz4_3
     try clear hcz4_4
     try clear hcz4_5
     try clear hcz4_6
     try clear hcz4_7
     try clear hcz4_8
     try clear hcz4_9
     try clear hfz4_0
     try clear hfz4_1
     try clear hfz4_10
     try clear hfz4_2
     try clear hfz4_3
     try clear hfz4_4
     try clear hfz4_5
     try clear hfz4_6
     try clear hfz4_7
     try clear hfz4_8
     try clear hfz4_9
     try clear p2
     obtain ⟨x3_2, x5_2, rfl, HA, HK2, HO_3, BK519, HB⟩ := hrel
     cases gk with
     | zero => exact absurd HA.out (by simp [gatehouselaw08_all.l1])
     | succ k2 =>
      have H := HA.out
      clear HA
      simp only [gatehouselaw08_all.l1] at H
      by_cases c5 : x5_2 < (l0_3.length : Int)
      ·rw [if_pos c5] at H
       have c5b0 : decide (x5_2 < (l0_3.length : Int)) = true := decide_eq_true c5
       clear c5
       have H' := Aside0.mk H
       clear H
       have hcz6_0 : wr.cell? ⟨gb519, 0, none⟩ = some (.slice A0_0 l0_0.length c0_0) := (blk_cell BK519.out 0).trans rfl
       have hcz6_1 : wr.cell? ⟨gb519, 1, none⟩ = some (.slice A0_1 l0_1.length c0_1) := (blk_cell BK519.out 1).trans rfl
       have hcz6_2 : wr.cell? ⟨gb519, 2, none⟩ = some (.slice A0_2 l0_2.length c0_2) := (blk_cell BK519.out 2).trans rfl
       have hcz6_3 : wr.cell? ⟨gb519, 3, none⟩ = some (.slice A0_3 l0_3.length c0_3) := (blk_cell BK519.out 3).trans rfl
       have hcz6_4 : wr.cell? ⟨gb519, 4, none⟩ = some (.slice A0_4 l0_4.length c0_4) := (blk_cell BK519.out 4).trans rfl
       have hcz6_5 : wr.cell? ⟨gb519, 5, none⟩ = some (.slice A0_5 l0_5.length c0_5) := (blk_cell BK519.out 5).trans rfl
       have hcz6_6 : wr.cell? ⟨gb519, 6, none⟩ = some (.slice A0_6 l0_6.length c0_6) := (blk_cell BK519.out 6).trans rfl
       have hcz6_7 : wr.cell? ⟨gb519, 7, none⟩ = some (.slice A0_7 l0_7.length c0_7) := (blk_cell BK519.out 7).trans rfl
       have hcz6_8 : wr.cell? ⟨gb519, 8, none⟩ = some (.slice A0_8 l0_8.length c0_8) := (blk_cell BK519.out 8).trans rfl
       have hcz6_9 : wr.cell? ⟨gb519, 9, none⟩ = some (.slice A0_9 l0_9.length c0_9) := (blk_cell BK519.out 9).trans rfl
       have hcz6_10 : wr.cell? ⟨gb519, 10, none⟩ = some (.slice A0_10 l0_10.length c0_10) := (blk_cell BK519.out 10).trans rfl
       have hfz6_0 := blk_frozen BK519.out 0
       have hfz6_1 := blk_frozen BK519.out 1
       have hfz6_2 := blk_frozen BK519.out 2
       have hfz6_3 := blk_frozen BK519.out 3
       have hfz6_4 := blk_frozen BK519.out 4
       have hfz6_5 := blk_frozen BK519.out 5
       have hfz6_6 := blk_frozen BK519.out 6
       have hfz6_7 := blk_frozen BK519.out 7
       have hfz6_8 := blk_frozen BK519.out 8
       have hfz6_9 := blk_frozen BK519.out 9
       have hfz6_10 := blk_frozen BK519.out 10
       go_wp2
       go_loopg [3, 6] k2 (fun kq v3 v6 w' => ∃ (x3_3 : List (S36)) (x6_3 : Int), v6 = .int .i64 x6_3 ∧ Aside0 (gatehouselaw08_all.l2 kq x3_3 x4_1 x5_2 x6_3 l0_0 l0_1 l0_2 l0_3 l0_4 l0_5 l0_6 l0_7 l0_8 l0_9 l0_10 = some r) ∧ Aside0 (kq ≤ k2) ∧ Aside0 (Kd.R k36 36 w' w.heap.size (fun _ => True) v3 x3_3) ∧ Aside0 (w'.heap[gb519]? = some (.cells #[(.slice A0_0 l0_0.length c0_0), (.slice A0_1 l0_1.length c0_1), (.slice A0_2 l0_2.length c0_2), (.slice A0_3 l0_3.length c0_3), (.slice A0_4 l0_4.length c0_4), (.slice A0_5 l0_5.length c0_5), (.slice A0_6 l0_6.length c0_6), (.slice A0_7 l0_7.length c0_7), (.slice A0_8 l0_8.length c0_8), (.slice A0_9 l0_9.length c0_9), (.slice A0_10 l0_10.length c0_10)] 34 (0, 0))) ∧ Aside0 (Below w.heap.size w w'))
       case atStart => exact ⟨(x3_2), (0), (by first | rfl | (simp; done) | (simp [*]; done)), H', ⟨Nat.le_refl _⟩, ⟨by (with_reducible repeat (first | apply Kd.R_alloc | apply Kd.R_drewN | apply Kd.R_drew)); exact HO_3.out⟩, ⟨by (with_reducible repeat (first | refine blk_drewN ?_ _ | refine blk_drew ?_ | refine blk_alloc ?_ _)); exact BK519.out⟩, ⟨by repeat (first | (with_reducible first | exact HB.out | apply below_alloc | apply pw_below_drewN | apply below_drew1 | refine below_set ?_ GE519.out) | exact HB.out)⟩⟩
       case round =>
        clear H'
        try clear p2
        try clear c3
        try clear c3b0
        try clear c5
        try clear c5b0
        try clear hcz4_0
        try clear hcz4_1
        try clear hcz4_10
        try clear hcz4_2
        try clear hcz4_3
        try clear hcz4_4
        try clear hcz4_5
        try clear hcz4_6
        try clear hcz4_7
        try clear hcz4_8
        try clear hcz4_9
        try clear hcz6_0
        try clear hcz6_1
        try clear hcz6_10
        try clear hcz6_2
        try clear hcz6_3
        try clear hcz6_4
        try clear hcz6_5
        try clear hcz6_6
        try clear hcz6_7
        try clear hcz6_8
        try clear hcz6_9
        try clear hfz4_0
        try clear hfz4_1
        try clear hfz4_10
        try clear hfz4_2
        try clear hfz4_3
        try clear hfz4_4
        try clear hfz4_5
        try clear hfz4_6
        try clear hfz4_7
        try clear hfz4_8
        try clear hfz4_9
        try clear hfz6_0
        try clear hfz6_1
        try clear hfz6_10
        try clear hfz6_2
        try clear hfz6_3
        try clear hfz6_4
        try clear hfz6_5
        try clear hfz6_6
        try clear hfz6_7
        try clear hfz6_8
        try clear hfz6_9
        try clear p2
        obtain ⟨x3_3, x6_3, rfl, HA, HK3, HO_3, BK519, HB⟩ := hrel
        cases gk with
        | zero => exact absurd HA.out (by simp [gatehouselaw08_all.l2])
        | succ k3 =>
         have H := HA.out
         clear HA
         simp only [gatehouselaw08_all.l2] at H
         by_cases c7 : x6_3 < (l0_0.length : Int)
         ·rw [if_pos c7] at H
          have c7b0 : decide (x6_3 < (l0_0.length : Int)) = true := decide_eq_true c7
          clear c7
          by_cases c8 : 0 ≤ x4_1
          ·rw [if_pos c8] at H
           have c8b0 : decide (0 ≤ x4_1) = true := decide_eq_true c8
           clear c8
           by_cases c9 : x4_1 < (l0_1.length : Int)
           ·rw [if_pos c9] at H
            have c9b0 : decide (x4_1 < (l0_1.length : Int)) = true := decide_eq_true c9
            clear c9
            by_cases c10 : 0 ≤ x5_2
            ·rw [if_pos c10] at H
             have c10b0 : decide (0 ≤ x5_2) = true := decide_eq_true c10
             clear c10
             by_cases c11 : x5_2 < (l0_3.length : Int)
             ·rw [if_pos c11] at H
              have c11b0 : decide (x5_2 < (l0_3.length : Int)) = true := decide_eq_true c11
              clear c11
              by_cases c12 : 0 ≤ x6_3
              ·rw [if_pos c12] at H
               have c12b0 : decide (0 ≤ x6_3) = true := decide_eq_true c12
               clear c12
               replace H := Option.bind_eq_some_iff.mp H
               obtain ⟨⟨t523, t524, t525⟩, A130, H⟩ := H
               replace H : ((gatehouselaw08_has.f k3 x3_3 t523 t524 t525).bind fun t527 => (if t527 = true then (gatehouselaw08_all.l2 k3 x3_3 x4_1 x5_2 (wrap64 (x6_3 + 1)) l0_0 l0_1 l0_2 l0_3 l0_4 l0_5 l0_6 l0_7 l0_8 l0_9 l0_10) else (if x3_3.length < 2932031007402 then (gatehouselaw08_all.l2 k3 (x3_3 ++ [(⟨t523, t524, t525⟩ : S36)]) x4_1 x5_2 (wrap64 (x6_3 + 1)) l0_0 l0_1 l0_2 l0_3 l0_4 l0_5 l0_6 l0_7 l0_8 l0_9 l0_10) else (none)))) = some r := H
               have A13 := Aside0.mk A130
               clear A130
               replace H := Option.bind_eq_some_iff.mp H
               obtain ⟨t527, A140, H⟩ := H
               replace H : (if t527 = true then (gatehouselaw08_all.l2 k3 x3_3 x4_1 x5_2 (wrap64 (x6_3 + 1)) l0_0 l0_1 l0_2 l0_3 l0_4 l0_5 l0_6 l0_7 l0_8 l0_9 l0_10) else (if x3_3.length < 2932031007402 then (gatehouselaw08_all.l2 k3 (x3_3 ++ [(⟨t523, t524, t525⟩ : S36)]) x4_1 x5_2 (wrap64 (x6_3 + 1)) l0_0 l0_1 l0_2 l0_3 l0_4 l0_5 l0_6 l0_7 l0_8 l0_9 l0_10) else (none))) = some r := H
               have A14 := Aside0.mk A140
               clear A140
               by_cases c15 : t527 = true
               ·subst c15
                have H1 : (gatehouselaw08_all.l2 k3 x3_3 x4_1 x5_2 (wrap64 (x6_3 + 1)) l0_0 l0_1 l0_2 l0_3 l0_4 l0_5 l0_6 l0_7 l0_8 l0_9 l0_10) = some r := by rw [if_pos rfl] at H; exact H
                clear H
                have H := H1
                clear H1
                have H' := Aside0.mk H
                clear H
                have hcz16_0 : wr.cell? ⟨gb519, 0, none⟩ = some (.slice A0_0 l0_0.length c0_0) := (blk_cell BK519.out 0).trans rfl
                have hcz16_1 : wr.cell? ⟨gb519, 1, none⟩ = some (.slice A0_1 l0_1.length c0_1) := (blk_cell BK519.out 1).trans rfl
                have hcz16_2 : wr.cell? ⟨gb519, 2, none⟩ = some (.slice A0_2 l0_2.length c0_2) := (blk_cell BK519.out 2).trans rfl
                have hcz16_3 : wr.cell? ⟨gb519, 3, none⟩ = some (.slice A0_3 l0_3.length c0_3) := (blk_cell BK519.out 3).trans rfl
                have hcz16_4 : wr.cell? ⟨gb519, 4, none⟩ = some (.slice A0_4 l0_4.length c0_4) := (blk_cell BK519.out 4).trans rfl
                have hcz16_5 : wr.cell? ⟨gb519, 5, none⟩ = some (.slice A0_5 l0_5.length c0_5) := (blk_cell BK519.out 5).trans rfl
                have hcz16_6 : wr.cell? ⟨gb519, 6, none⟩ = some (.slice A0_6 l0_6.length c0_6) := (blk_cell BK519.out 6).trans rfl
                have hcz16_7 : wr.cell? ⟨gb519, 7, none⟩ = some (.slice A0_7 l0_7.length c0_7) := (blk_cell BK519.out 7).trans rfl
                have hcz16_8 : wr.cell? ⟨gb519, 8, none⟩ = some (.slice A0_8 l0_8.length c0_8) := (blk_cell BK519.out 8).trans rfl
                have hcz16_9 : wr.cell? ⟨gb519, 9, none⟩ = some (.slice A0_9 l0_9.length c0_9) := (blk_cell BK519.out 9).trans rfl
                have hcz16_10 : wr.cell? ⟨gb519, 10, none⟩ = some (.slice A0_10 l0_10.length c0_10) := (blk_cell BK519.out 10).trans rfl
                have hfz16_0 := blk_frozen BK519.out 0
                have hfz16_1 := blk_frozen BK519.out 1
                have hfz16_2 := blk_frozen BK519.out 2
                have hfz16_3 := blk_frozen BK519.out 3
                have hfz16_4 := blk_frozen BK519.out 4
                have hfz16_5 := blk_frozen BK519.out 5
                have hfz16_6 := blk_frozen BK519.out 6
                have hfz16_7 := blk_frozen BK519.out 7
                have hfz16_8 := blk_frozen BK519.out 8
                have hfz16_9 := blk_frozen BK519.out 9
                have hfz16_10 := blk_frozen BK519.out 10
                try go_wp2
                have n0_ := Aside0.mk (Kd.R_drew HO_3.out)
                have n1_ := Aside0.mk (blk_drew BK519.out)
                have n2_ := Aside0.mk (below_drew1 HB.out)
                clear HO_3
                clear BK519
                clear HB
                have HO_3 := n0_
                have BK519 := n1_
                have HB := n2_
                clear n0_ n1_ n2_
                have p520 : 0 ≤ (x4_1 : Int) := of_decide_eq_true (by first | (with_reducible assumption) | assumption)
                have q520 : x4_1 < (l0_1.length : Int) := of_decide_eq_true (by first | (with_reducible assumption) | assumption)
                obtain ⟨ad520, e520, hx520_0, hx520_1⟩ := at_T57 HR0_1.out x4_1 p520 q520
                have hw520_1 := hx520_1
                have hw520_0 := hx520_0
                cases e520
                replace hx520_0 := (HB.out.cell (World.block_lt_of_cell? w _ hx520_0)).trans hx520_0
                replace hx520_1 := (HB.out.cell (World.block_lt_of_cell? w _ hx520_1)).trans hx520_1
                replace p520 := eq_true p520
                replace q520 := eq_true q520
                have p521 : 0 ≤ (x5_2 : Int) := of_decide_eq_true (by first | (with_reducible assumption) | assumption)
                have q521 : x5_2 < (l0_3.length : Int) := of_decide_eq_true (by first | (with_reducible assumption) | assumption)
                obtain ⟨ad521, e521, hx521_0⟩ := Kd.at_string HR0_3.out x5_2 p521 q521
                have hw521_0 := hx521_0
                cases e521
                replace hx521_0 := (HB.out.cell (World.block_lt_of_cell? w _ hx521_0)).trans hx521_0
                replace p521 := eq_true p521
                replace q521 := eq_true q521
                have p522 : 0 ≤ (x6_3 : Int) := of_decide_eq_true (by first | (with_reducible assumption) | assumption)
                have q522 : x6_3 < (l0_0.length : Int) := of_decide_eq_true (by first | (with_reducible assumption) | assumption)
                obtain ⟨ad522, e522, hx522_0⟩ := Kd.at_string HR0_0.out x6_3 p522 q522
                have hw522_0 := hx522_0
                cases e522
                replace hx522_0 := (HB.out.cell (World.block_lt_of_cell? w _ hx522_0)).trans hx522_0
                replace p522 := eq_true p522
                replace q522 := eq_true q522
                refine start_ (n := 19) (S := fun w' => w'.cell? ⟨gb519, 0, none⟩ = some (.slice (some ad522) l0_0.length c0_0) ∧ w'.cell? ⟨gb519, 1, none⟩ = some (.slice (some ad520) l0_1.length c0_1) ∧ w'.cell? ⟨gb519, 2, none⟩ = some (.slice A0_2 l0_2.length c0_2) ∧ w'.cell? ⟨gb519, 3, none⟩ = some (.slice (some ad521) l0_3.length c0_3) ∧ w'.cell? ⟨gb519, 4, none⟩ = some (.slice A0_4 l0_4.length c0_4) ∧ w'.cell? ⟨gb519, 5, none⟩ = some (.slice A0_5 l0_5.length c0_5) ∧ w'.cell? ⟨gb519, 6, none⟩ = some (.slice A0_6 l0_6.length c0_6) ∧ w'.cell? ⟨gb519, 7, none⟩ = some (.slice A0_7 l0_7.length c0_7) ∧ w'.cell? ⟨gb519, 8, none⟩ = some (.slice A0_8 l0_8.length c0_8) ∧ w'.cell? ⟨gb519, 9, none⟩ = some (.slice A0_9 l0_9.length c0_9) ∧ w'.cell? ⟨gb519, 10, none⟩ = some (.slice A0_10 l0_10.length c0_10) ∧ w'.cell? (ad520.add ((x4_1).toNat * 2)) = some (.string ((rd_T57 l0_1 x4_1).f0)) ∧ w'.cell? ⟨(ad520.add ((x4_1).toNat * 2)).block, (ad520.add ((x4_1).toNat * 2)).off + 1, none⟩ = some (.float .f64 ((rd_T57 l0_1 x4_1).f1)) ∧ w'.cell? (ad521.add (x5_2).toNat) = some (.string (rdOf ByteArray.empty l0_3 x5_2)) ∧ w'.cell? (ad522.add (x6_3).toNat) = some (.string (rdOf ByteArray.empty l0_0 x6_3))) (ds := []) #[false, false, false, false, false, false, false, false, false, false, false, false, false, false, false, false, false, false, false] (by kernel_rfl) rfl rfl ⟨(blk_cell BK519.out 0).trans rfl, (blk_cell BK519.out 1).trans rfl, (blk_cell BK519.out 2).trans rfl, (blk_cell BK519.out 3).trans rfl, (blk_cell BK519.out 4).trans rfl, (blk_cell BK519.out 5).trans rfl, (blk_cell BK519.out 6).trans rfl, (blk_cell BK519.out 7).trans rfl, (blk_cell BK519.out 8).trans rfl, (blk_cell BK519.out 9).trans rfl, (blk_cell BK519.out 10).trans rfl, ((HB.out.cell (World.block_lt_of_cell? w _ hw520_0)).trans hw520_0), ((HB.out.cell (World.block_lt_of_cell? w _ hw520_1)).trans hw520_1), ((HB.out.cell (World.block_lt_of_cell? w _ hw521_0)).trans hw521_0), ((HB.out.cell (World.block_lt_of_cell? w _ hw522_0)).trans hw522_0)⟩ (fun hHeld => ?_); refine with_tabW gatehouselaw08_all.tab11 gatehouselaw08_all.bits11 (fun HT_ HW_ => ?_)
                generalize wr.drew = w17 at HO_3 BK519 HB hx520_0 hx520_1 hx521_0 hx522_0 hHeld ⊢
                refine pure_ (i := 0) (N := some 30) (v := ?_) (a' := ?_) #[true, false, false, false, false, false, false, false, false, false, false, false, false, false, false, false, false, false, false] rfl rfl (any_of HT_.out (by kernel_rfl)) (fun _ _ _ h => h) (Or.inl ⟨by rfl, ?_⟩) ?_ ?_
                rotate_left
                ·intro w'
                 go_simp
                 with_reducible rfl
                rotate_left
                ·simp only [Act.put, List.setIfInBounds_toArray, List.set_cons_zero, List.set_cons_succ, i64_w, i32_w]
                 rfl
                refine pure_ (i := 2) (N := some 32) (v := ?_) (a' := ?_) #[true, false, true, false, false, false, false, false, false, false, false, false, false, false, false, false, false, false, false] rfl rfl (any_of HT_.out (by kernel_rfl)) (fun _ _ _ h => h) (Or.inl ⟨by rfl, ?_⟩) ?_ ?_
                rotate_left
                ·intro w'
                 go_simp
                 with_reducible rfl
                rotate_left
                ·simp only [Act.put, List.setIfInBounds_toArray, List.set_cons_zero, List.set_cons_succ, i64_w, i32_w]
                 rfl
                refine pure_ (i := 6) (N := some 36) (v := ?_) (a' := ?_) #[true, false, true, false, false, false, true, false, false, false, false, false, false, false, false, false, false, false, false] rfl rfl (any_of HT_.out (by kernel_rfl)) (fun _ _ _ h => h) (Or.inl ⟨by rfl, ?_⟩) ?_ ?_
                rotate_left
                ·intro w'
                 go_simp
                 with_reducible rfl
                rotate_left
                ·simp only [Act.put, List.setIfInBounds_toArray, List.set_cons_zero, List.set_cons_succ, i64_w, i32_w]
                 rfl
                refine pure_ (i := 8) (N := some 38) (v := ?_) (a' := ?_) #[true, false, true, false, false, false, true, false, true, false, false, false, false, false, false, false, false, false, false] rfl rfl (any_of HT_.out (by kernel_rfl)) (fun _ _ _ h => h) (Or.inl ⟨by rfl, ?_⟩) ?_ ?_
                rotate_left
                ·intro w'
                 go_simp
                 with_reducible rfl
                rotate_left
                ·simp only [Act.put, List.setIfInBounds_toArray, List.set_cons_zero, List.set_cons_succ, i64_w, i32_w]
                 rfl
                refine pure_ (i := 11) (N := some 41) (v := ?_) (a' := ?_) #[true, false, true, false, false, false, true, false, true, false, false, true, false, false, false, false, false, false, false] rfl rfl (any_of HT_.out (by kernel_rfl)) (fun _ _ _ h => h) (Or.inl ⟨by rfl, ?_⟩) ?_ ?_
                rotate_left
                ·intro w'
                 go_simp
                 with_reducible rfl
                rotate_left
                ·simp only [Act.put, List.setIfInBounds_toArray, List.set_cons_zero, List.set_cons_succ, i64_w, i32_w]
                 rfl
                refine pure_ (i := 13) (N := some 43) (v := ?_) (a' := ?_) #[true, false, true, false, false, false, true, false, true, false, false, true, false, true, false, false, false, false, false] rfl rfl (any_of HT_.out (by kernel_rfl)) (fun _ _ _ h => h) (Or.inl ⟨by rfl, ?_⟩) ?_ ?_
                rotate_left
                ·intro w'
                 go_simp
                 with_reducible rfl
                rotate_left
                ·simp only [Act.put, List.setIfInBounds_toArray, List.set_cons_zero, List.set_cons_succ, i64_w, i32_w]
                 rfl
                refine take_ (i := 1) (N := some 31) (v := ?_) (a' := ?_) #[true, true, true, false, false, false, true, false, true, false, false, true, false, true, false, false, false, false, false] rfl rfl (take_ofW HT_.out HW_.out (by kernel_rfl)) (fun _ _ _ h => h) (Or.inl ⟨by rfl, ?_⟩) hHeld ?_ ?_
                rotate_left
                ·rintro w' ⟨s0, s1, s2, s3, s4, s5, s6, s7, s8, s9, s10, s11, s12, s13, s14⟩
                 go_simp
                 with_reducible rfl
                rotate_left
                ·simp only [Act.put, List.setIfInBounds_toArray, List.set_cons_zero, List.set_cons_succ, i64_w, i32_w]
                 rfl
                refine pure_ (i := 3) (N := some 33) (v := ?_) (a' := ?_) #[true, true, true, true, false, false, true, false, true, false, false, true, false, true, false, false, false, false, false] rfl rfl (any_of HT_.out (by kernel_rfl)) (fun _ _ _ h => h) (Or.inl ⟨by rfl, ?_⟩) ?_ ?_
                rotate_left
                ·intro w'
                 go_simp
                 with_reducible rfl
                rotate_left
                ·simp only [Act.put, List.setIfInBounds_toArray, List.set_cons_zero, List.set_cons_succ, i64_w, i32_w]
                 rfl
                refine pure_ (i := 4) (N := some 34) (v := ?_) (a' := ?_) #[true, true, true, true, true, false, true, false, true, false, false, true, false, true, false, false, false, false, false] rfl rfl (any_of HT_.out (by kernel_rfl)) (fun _ _ _ h => h) (Or.inl ⟨by rfl, ?_⟩) ?_ ?_
                rotate_left
                ·intro w'
                 go_simp
                 with_reducible rfl
                rotate_left
                ·simp only [Act.put, List.setIfInBounds_toArray, List.set_cons_zero, List.set_cons_succ, i64_w, i32_w]
                 rfl
                refine take_ (i := 5) (N := some 35) (v := ?_) (a' := ?_) #[true, true, true, true, true, true, true, false, true, false, false, true, false, true, false, false, false, false, false] rfl rfl (take_ofW HT_.out HW_.out (by kernel_rfl)) (fun _ _ _ h => h) (Or.inl ⟨by rfl, ?_⟩) hHeld ?_ ?_
                rotate_left
                ·rintro w' ⟨s0, s1, s2, s3, s4, s5, s6, s7, s8, s9, s10, s11, s12, s13, s14⟩
                 go_simp
                 with_reducible rfl
                rotate_left
                ·simp only [Act.put, List.setIfInBounds_toArray, List.set_cons_zero, List.set_cons_succ, i64_w, i32_w]
                 rfl
                refine take_ (i := 7) (N := some 37) (v := ?_) (a' := ?_) #[true, true, true, true, true, true, true, true, true, false, false, true, false, true, false, false, false, false, false] rfl rfl (take_ofW HT_.out HW_.out (by kernel_rfl)) (fun _ _ _ h => h) (Or.inl ⟨by rfl, ?_⟩) hHeld ?_ ?_
                rotate_left
                ·rintro w' ⟨s0, s1, s2, s3, s4, s5, s6, s7, s8, s9, s10, s11, s12, s13, s14⟩
                 go_simp
                 with_reducible rfl
                rotate_left
                ·simp only [Act.put, List.setIfInBounds_toArray, List.set_cons_zero, List.set_cons_succ, i64_w, i32_w]
                 rfl
                refine pure_ (i := 9) (N := some 39) (v := ?_) (a' := ?_) #[true, true, true, true, true, true, true, true, true, true, false, true, false, true, false, false, false, false, false] rfl rfl (any_of HT_.out (by kernel_rfl)) (fun _ _ _ h => h) (Or.inl ⟨by rfl, ?_⟩) ?_ ?_
                rotate_left
                ·intro w'
                 go_simp
                 with_reducible rfl
                rotate_left
                ·simp only [Act.put, List.setIfInBounds_toArray, List.set_cons_zero, List.set_cons_succ, i64_w, i32_w]
                 rfl
                refine take_ (i := 10) (N := some 40) (v := ?_) (a' := ?_) #[true, true, true, true, true, true, true, true, true, true, true, true, false, true, false, false, false, false, false] rfl rfl (take_ofW HT_.out HW_.out (by kernel_rfl)) (fun _ _ _ h => h) (Or.inl ⟨by rfl, ?_⟩) hHeld ?_ ?_
                rotate_left
                ·rintro w' ⟨s0, s1, s2, s3, s4, s5, s6, s7, s8, s9, s10, s11, s12, s13, s14⟩
                 go_simp
                 with_reducible rfl
                rotate_left
                ·simp only [Act.put, List.setIfInBounds_toArray, List.set_cons_zero, List.set_cons_succ, i64_w, i32_w]
                 rfl
                refine take_ (i := 12) (N := some 42) (v := ?_) (a' := ?_) #[true, true, true, true, true, true, true, true, true, true, true, true, true, true, false, false, false, false, false] rfl rfl (take_ofW HT_.out HW_.out (by kernel_rfl)) (fun _ _ _ h => h) (Or.inl ⟨by rfl, ?_⟩) hHeld ?_ ?_
                rotate_left
                ·rintro w' ⟨s0, s1, s2, s3, s4, s5, s6, s7, s8, s9, s10, s11, s12, s13, s14⟩
                 go_simp
                 with_reducible rfl
                rotate_left
                ·simp only [Act.put, List.setIfInBounds_toArray, List.set_cons_zero, List.set_cons_succ, i64_w, i32_w]
                 rfl
                refine pure_ (i := 14) (N := some 44) (v := ?_) (a' := ?_) #[true, true, true, true, true, true, true, true, true, true, true, true, true, true, true, false, false, false, false] rfl rfl (any_of HT_.out (by kernel_rfl)) (fun _ _ _ h => h) (Or.inl ⟨by rfl, ?_⟩) ?_ ?_
                rotate_left
                ·intro w'
                 go_simp
                 with_reducible rfl
                rotate_left
                ·simp only [Act.put, List.setIfInBounds_toArray, List.set_cons_zero, List.set_cons_succ, i64_w, i32_w]
                 rfl
                refine take_ (i := 15) (N := some 45) (v := ?_) (a' := ?_) #[true, true, true, true, true, true, true, true, true, true, true, true, true, true, true, true, false, false, false] rfl rfl (take_ofW HT_.out HW_.out (by kernel_rfl)) (fun _ _ _ h => h) (Or.inl ⟨by rfl, ?_⟩) hHeld ?_ ?_
                rotate_left
                ·rintro w' ⟨s0, s1, s2, s3, s4, s5, s6, s7, s8, s9, s10, s11, s12, s13, s14⟩
                 go_simp
                 with_reducible rfl
                rotate_left
                ·simp only [Act.put, List.setIfInBounds_toArray, List.set_cons_zero, List.set_cons_succ, i64_w, i32_w]
                 rfl
                refine join_ (σ := Nat) 1 #[true, true, true, true, true, true, true, true, true, true, true, true, true, true, true, true, true, true, false] (fun s_ => [(46, .agg #[.string t523, .string t524, .string t525]), (7, .pointer (some ⟨s_, 0, none⟩))]) (fun s_ w' => (w'.cell? ⟨gb519, 0, none⟩ = some (.slice (some ad522) l0_0.length c0_0) ∧ w'.cell? ⟨gb519, 1, none⟩ = some (.slice (some ad520) l0_1.length c0_1) ∧ w'.cell? ⟨gb519, 2, none⟩ = some (.slice A0_2 l0_2.length c0_2) ∧ w'.cell? ⟨gb519, 3, none⟩ = some (.slice (some ad521) l0_3.length c0_3) ∧ w'.cell? ⟨gb519, 4, none⟩ = some (.slice A0_4 l0_4.length c0_4) ∧ w'.cell? ⟨gb519, 5, none⟩ = some (.slice A0_5 l0_5.length c0_5) ∧ w'.cell? ⟨gb519, 6, none⟩ = some (.slice A0_6 l0_6.length c0_6) ∧ w'.cell? ⟨gb519, 7, none⟩ = some (.slice A0_7 l0_7.length c0_7) ∧ w'.cell? ⟨gb519, 8, none⟩ = some (.slice A0_8 l0_8.length c0_8) ∧ w'.cell? ⟨gb519, 9, none⟩ = some (.slice A0_9 l0_9.length c0_9) ∧ w'.cell? ⟨gb519, 10, none⟩ = some (.slice A0_10 l0_10.length c0_10) ∧ w'.cell? (ad520.add ((x4_1).toNat * 2)) = some (.string ((rd_T57 l0_1 x4_1).f0)) ∧ w'.cell? ⟨(ad520.add ((x4_1).toNat * 2)).block, (ad520.add ((x4_1).toNat * 2)).off + 1, none⟩ = some (.float .f64 ((rd_T57 l0_1 x4_1).f1)) ∧ w'.cell? (ad521.add (x5_2).toNat) = some (.string (rdOf ByteArray.empty l0_3 x5_2)) ∧ w'.cell? (ad522.add (x6_3).toNat) = some (.string (rdOf ByteArray.empty l0_0 x6_3))) ∧ (Kd.R k36 36 w' w.heap.size (fun k_ => k_ ≠ s_) u3 x3_3) ∧ (w'.heap[gb519]? = some (.cells #[.slice (some ad522) l0_0.length c0_0, .slice (some ad520) l0_1.length c0_1, .slice A0_2 l0_2.length c0_2, .slice (some ad521) l0_3.length c0_3, .slice A0_4 l0_4.length c0_4, .slice A0_5 l0_5.length c0_5, .slice A0_6 l0_6.length c0_6, .slice A0_7 l0_7.length c0_7, .slice A0_8 l0_8.length c0_8, .slice A0_9 l0_9.length c0_9, .slice A0_10 l0_10.length c0_10] 34 (0, 0))) ∧ (w'.heap[s_]? = some (.cells #[.string (⟨#[]⟩ : ByteArray), .string (⟨#[]⟩ : ByteArray), .string (⟨#[]⟩ : ByteArray)] 36 (0, 0))) ∧ (w.heap.size ≤ s_) ∧ (w.heap.size ≤ s_) ∧ (gb519 ≠ s_) ∧ (s_ ≠ gb519) ∧ (Below w.heap.size w w')) ?_ ?_
                rotate_left
                ·intro hCont
                 refine two_ (i := 16) (j := 17) (Ni := some 46) (Nj := some 7) #[true, true, true, true, true, true, true, true, true, true, true, true, true, true, true, true, true, false, false] #[true, true, true, true, true, true, true, true, true, true, true, true, true, true, true, true, false, true, false] rfl rfl rfl rfl (two_of HT_.out (by kernel_rfl)) (by decide) (by decide) (fun K hK => ?_) (fun K hK => ?_)
                 ·skip
                  refine goes_ Try.func40 (by kernel_rfl) rfl #[.string ((rd_T57 l0_1 x4_1).f0), .string (rdOf ByteArray.empty l0_3 x5_2), .string (rdOf ByteArray.empty l0_0 x6_3)] (by rfl) rfl rfl (by (try simp only [List.map_toArray, List.map_cons, List.map_nil]); first | done | rfl | (simp only [List.length_drop, List.length_take]; rfl)) ?_
                  with_reducible refine (gatehouselaw08_tri.calls ((rd_T57 l0_1 x4_1).f0) (rdOf ByteArray.empty l0_3 x5_2) (rdOf ByteArray.empty l0_0 x6_3) t523 t524 t525 _ A13.out).mono ?_
                  rintro e w18 ⟨rfl, hb⟩
                  refine ⟨_, rfl, ?_⟩
                  have n0_ := Aside0.mk (Kd.R_below (by (with_reducible repeat (first | apply Kd.R_alloc | apply Kd.R_drewN | apply Kd.R_drew)); exact HO_3.out) hb)
                  have n1_ := Aside0.mk (blk_below (g := gb519) (o := .cells #[.slice (some ad522) l0_0.length c0_0, .slice (some ad520) l0_1.length c0_1, .slice A0_2 l0_2.length c0_2, .slice (some ad521) l0_3.length c0_3, .slice A0_4 l0_4.length c0_4, .slice A0_5 l0_5.length c0_5, .slice A0_6 l0_6.length c0_6, .slice A0_7 l0_7.length c0_7, .slice A0_8 l0_8.length c0_8, .slice A0_9 l0_9.length c0_9, .slice A0_10 l0_10.length c0_10] 34 (0, 0)) (by (with_reducible repeat (first | refine blk_drewN ?_ _ | refine blk_drew ?_ | refine blk_alloc ?_ _)); exact BK519.out) hb)
                  have n2_ := Aside0.mk (below_step (by repeat (first | (with_reducible first | exact HB.out | apply below_alloc | apply pw_below_drewN | apply below_drew1 | refine below_set ?_ GE519.out) | exact HB.out)) hb)
                  clear HO_3
                  clear BK519
                  clear HB
                  have HO_3 := n0_
                  have BK519 := n1_
                  have HB := n2_
                  clear n0_ n1_ n2_
                  (try clear hb)
                  (try clear hb2)
                  (try clear hk)
                  (try clear hi)
                  refine hK.out _ _ ⟨(blk_cell BK519.out 0).trans rfl, (blk_cell BK519.out 1).trans rfl, (blk_cell BK519.out 2).trans rfl, (blk_cell BK519.out 3).trans rfl, (blk_cell BK519.out 4).trans rfl, (blk_cell BK519.out 5).trans rfl, (blk_cell BK519.out 6).trans rfl, (blk_cell BK519.out 7).trans rfl, (blk_cell BK519.out 8).trans rfl, (blk_cell BK519.out 9).trans rfl, (blk_cell BK519.out 10).trans rfl, ((HB.out.cell (World.block_lt_of_cell? w _ hw520_0)).trans hw520_0), ((HB.out.cell (World.block_lt_of_cell? w _ hw520_1)).trans hw520_1), ((HB.out.cell (World.block_lt_of_cell? w _ hw521_0)).trans hw521_0), ((HB.out.cell (World.block_lt_of_cell? w _ hw522_0)).trans hw522_0)⟩ (fun hHeld => ?_)
                  clear hK K
                  refine norm_ (a' := ?_) ?_ ?_
                  rotate_left
                  ·show Act.put _ (some 46) _ = _
                   simp only [Act.put, List.setIfInBounds_toArray, List.set_cons_zero, List.set_cons_succ, i64_w, i32_w]
                   rfl
                  refine one_ (i := 17) (N := some 7) #[true, true, true, true, true, true, true, true, true, true, true, true, true, true, true, true, true, true, false] rfl rfl (one_of HT_.out (by kernel_rfl)) (by decide) (fun K hK => ?_)
                  refine box_step ?hg (N := 7) ?hd (cs := #[.string (⟨#[]⟩ : ByteArray), .string (⟨#[]⟩ : ByteArray), .string (⟨#[]⟩ : ByteArray)]) (t := 36) ?hr ?_; (case hd => rfl); (case hg => rfl); (case hr => first | (go_simp; done) | (go_simp; rfl))
                  intro gb526 hg w19 hbox hb
                  have n0_ := Aside0.mk (Kd.R_below (Kd.R_elderB (by (with_reducible repeat (first | apply Kd.R_alloc | apply Kd.R_drewN | apply Kd.R_drew)); exact HO_3.out) gb526 (Nat.le_of_eq hg.symm)) hb)
                  have n1_ := Aside0.mk (blk_below (g := gb519) (o := .cells #[.slice (some ad522) l0_0.length c0_0, .slice (some ad520) l0_1.length c0_1, .slice A0_2 l0_2.length c0_2, .slice (some ad521) l0_3.length c0_3, .slice A0_4 l0_4.length c0_4, .slice A0_5 l0_5.length c0_5, .slice A0_6 l0_6.length c0_6, .slice A0_7 l0_7.length c0_7, .slice A0_8 l0_8.length c0_8, .slice A0_9 l0_9.length c0_9, .slice A0_10 l0_10.length c0_10] 34 (0, 0)) (by (with_reducible repeat (first | refine blk_drewN ?_ _ | refine blk_drew ?_ | refine blk_alloc ?_ _)); exact BK519.out) hb)
                  have n2_ := Aside0.mk (below_step (by repeat (first | (with_reducible first | exact HB.out | apply below_alloc | apply pw_below_drewN | apply below_drew1 | refine below_set ?_ GE519.out) | exact HB.out)) hb)
                  have n3_ := Aside0.mk (hbox)
                  have n4_ := Aside0.mk ((by rw [hg]; exact (below_size (by repeat (first | (with_reducible first | exact HB.out | apply below_alloc | apply pw_below_drewN | apply below_drew1 | refine below_set ?_ GE519.out) | exact HB.out))) : w.heap.size ≤ gb526))
                  have n5_ := Aside0.mk ((by rw [hg]; exact (below_size (by repeat (first | (with_reducible first | exact HB.out | apply below_alloc | apply pw_below_drewN | apply below_drew1 | refine below_set ?_ GE519.out) | exact HB.out))) : w.heap.size ≤ gb526))
                  have n6_ := Aside0.mk ((by rw [hg]; exact Nat.ne_of_lt (blk_lt (g := gb519) (o := .cells #[.slice (some ad522) l0_0.length c0_0, .slice (some ad520) l0_1.length c0_1, .slice A0_2 l0_2.length c0_2, .slice (some ad521) l0_3.length c0_3, .slice A0_4 l0_4.length c0_4, .slice A0_5 l0_5.length c0_5, .slice A0_6 l0_6.length c0_6, .slice A0_7 l0_7.length c0_7, .slice A0_8 l0_8.length c0_8, .slice A0_9 l0_9.length c0_9, .slice A0_10 l0_10.length c0_10] 34 (0, 0)) (by (with_reducible repeat (first | refine blk_drewN ?_ _ | refine blk_drew ?_ | refine blk_alloc ?_ _)); exact BK519.out)) : gb519 ≠ gb526))
                  have n7_ := Aside0.mk ((by rw [hg]; exact Nat.ne_of_gt (blk_lt (g := gb519) (o := .cells #[.slice (some ad522) l0_0.length c0_0, .slice (some ad520) l0_1.length c0_1, .slice A0_2 l0_2.length c0_2, .slice (some ad521) l0_3.length c0_3, .slice A0_4 l0_4.length c0_4, .slice A0_5 l0_5.length c0_5, .slice A0_6 l0_6.length c0_6, .slice A0_7 l0_7.length c0_7, .slice A0_8 l0_8.length c0_8, .slice A0_9 l0_9.length c0_9, .slice A0_10 l0_10.length c0_10] 34 (0, 0)) (by (with_reducible repeat (first | refine blk_drewN ?_ _ | refine blk_drew ?_ | refine blk_alloc ?_ _)); exact BK519.out)) : gb526 ≠ gb519))
                  clear HO_3
                  clear BK519
                  clear HB
                  have HO_3 := n0_
                  have BK519 := n1_
                  have HB := n2_
                  have BK526 := n3_
                  have GW526 := n4_
                  have GE526 := n5_
                  have NB519_526 := n6_
                  have NB526_519 := n7_
                  clear n0_ n1_ n2_ n3_ n4_ n5_ n6_ n7_
                  clear hb hbox hg
                  refine hK.out _ _ ⟨(blk_cell BK519.out 0).trans rfl, (blk_cell BK519.out 1).trans rfl, (blk_cell BK519.out 2).trans rfl, (blk_cell BK519.out 3).trans rfl, (blk_cell BK519.out 4).trans rfl, (blk_cell BK519.out 5).trans rfl, (blk_cell BK519.out 6).trans rfl, (blk_cell BK519.out 7).trans rfl, (blk_cell BK519.out 8).trans rfl, (blk_cell BK519.out 9).trans rfl, (blk_cell BK519.out 10).trans rfl, ((HB.out.cell (World.block_lt_of_cell? w _ hw520_0)).trans hw520_0), ((HB.out.cell (World.block_lt_of_cell? w _ hw520_1)).trans hw520_1), ((HB.out.cell (World.block_lt_of_cell? w _ hw521_0)).trans hw521_0), ((HB.out.cell (World.block_lt_of_cell? w _ hw522_0)).trans hw522_0)⟩ (fun hHeld => ?_)
                  clear hK K
                  refine norm_ (a' := ?_) ?_ ?_
                  rotate_left
                  ·show Act.put _ (some 7) _ = _
                   simp only [Act.put, List.setIfInBounds_toArray, List.set_cons_zero, List.set_cons_succ, i64_w, i32_w]
                   rfl
                  exact norm_ (by simp only [putAll, Act.put, List.setIfInBounds_toArray, List.set_cons_zero, List.set_cons_succ]) (hCont (gb526) _ ⟨hHeld, (by (with_reducible repeat (first | apply Kd.R_alloc | apply Kd.R_drewN | apply Kd.R_drew)); exact Kd.R_mono HO_3.out (fun _ hk => hk.2)), (by (with_reducible repeat (first | refine blk_drewN ?_ _ | refine blk_drew ?_ | refine blk_alloc ?_ _)); exact BK519.out), (by (with_reducible repeat (first | refine blk_drewN ?_ _ | refine blk_drew ?_ | refine blk_alloc ?_ _)); exact BK526.out), GW526.out, GE526.out, NB519_526.out, NB526_519.out, (by repeat (first | (with_reducible first | exact HB.out | apply below_alloc | apply pw_below_drewN | apply below_drew1 | refine below_set ?_ GE519.out | refine below_set ?_ GE526.out) | exact HB.out))⟩)
                 ·skip
                  refine box_step ?hg (N := 7) ?hd (cs := #[.string (⟨#[]⟩ : ByteArray), .string (⟨#[]⟩ : ByteArray), .string (⟨#[]⟩ : ByteArray)]) (t := 36) ?hr ?_; (case hd => rfl); (case hg => rfl); (case hr => first | (go_simp; done) | (go_simp; rfl))
                  intro gb526 hg w18 hbox hb
                  have n0_ := Aside0.mk (Kd.R_below (Kd.R_elderB (by (with_reducible repeat (first | apply Kd.R_alloc | apply Kd.R_drewN | apply Kd.R_drew)); exact HO_3.out) gb526 (Nat.le_of_eq hg.symm)) hb)
                  have n1_ := Aside0.mk (blk_below (g := gb519) (o := .cells #[.slice (some ad522) l0_0.length c0_0, .slice (some ad520) l0_1.length c0_1, .slice A0_2 l0_2.length c0_2, .slice (some ad521) l0_3.length c0_3, .slice A0_4 l0_4.length c0_4, .slice A0_5 l0_5.length c0_5, .slice A0_6 l0_6.length c0_6, .slice A0_7 l0_7.length c0_7, .slice A0_8 l0_8.length c0_8, .slice A0_9 l0_9.length c0_9, .slice A0_10 l0_10.length c0_10] 34 (0, 0)) (by (with_reducible repeat (first | refine blk_drewN ?_ _ | refine blk_drew ?_ | refine blk_alloc ?_ _)); exact BK519.out) hb)
                  have n2_ := Aside0.mk (below_step (by repeat (first | (with_reducible first | exact HB.out | apply below_alloc | apply pw_below_drewN | apply below_drew1 | refine below_set ?_ GE519.out) | exact HB.out)) hb)
                  have n3_ := Aside0.mk (hbox)
                  have n4_ := Aside0.mk ((by rw [hg]; exact (below_size (by repeat (first | (with_reducible first | exact HB.out | apply below_alloc | apply pw_below_drewN | apply below_drew1 | refine below_set ?_ GE519.out) | exact HB.out))) : w.heap.size ≤ gb526))
                  have n5_ := Aside0.mk ((by rw [hg]; exact (below_size (by repeat (first | (with_reducible first | exact HB.out | apply below_alloc | apply pw_below_drewN | apply below_drew1 | refine below_set ?_ GE519.out) | exact HB.out))) : w.heap.size ≤ gb526))
                  have n6_ := Aside0.mk ((by rw [hg]; exact Nat.ne_of_lt (blk_lt (g := gb519) (o := .cells #[.slice (some ad522) l0_0.length c0_0, .slice (some ad520) l0_1.length c0_1, .slice A0_2 l0_2.length c0_2, .slice (some ad521) l0_3.length c0_3, .slice A0_4 l0_4.length c0_4, .slice A0_5 l0_5.length c0_5, .slice A0_6 l0_6.length c0_6, .slice A0_7 l0_7.length c0_7, .slice A0_8 l0_8.length c0_8, .slice A0_9 l0_9.length c0_9, .slice A0_10 l0_10.length c0_10] 34 (0, 0)) (by (with_reducible repeat (first | refine blk_drewN ?_ _ | refine blk_drew ?_ | refine blk_alloc ?_ _)); exact BK519.out)) : gb519 ≠ gb526))
                  have n7_ := Aside0.mk ((by rw [hg]; exact Nat.ne_of_gt (blk_lt (g := gb519) (o := .cells #[.slice (some ad522) l0_0.length c0_0, .slice (some ad520) l0_1.length c0_1, .slice A0_2 l0_2.length c0_2, .slice (some ad521) l0_3.length c0_3, .slice A0_4 l0_4.length c0_4, .slice A0_5 l0_5.length c0_5, .slice A0_6 l0_6.length c0_6, .slice A0_7 l0_7.length c0_7, .slice A0_8 l0_8.length c0_8, .slice A0_9 l0_9.length c0_9, .slice A0_10 l0_10.length c0_10] 34 (0, 0)) (by (with_reducible repeat (first | refine blk_drewN ?_ _ | refine blk_drew ?_ | refine blk_alloc ?_ _)); exact BK519.out)) : gb526 ≠ gb519))
                  clear HO_3
                  clear BK519
                  clear HB
                  have HO_3 := n0_
                  have BK519 := n1_
                  have HB := n2_
                  have BK526 := n3_
                  have GW526 := n4_
                  have GE526 := n5_
                  have NB519_526 := n6_
                  have NB526_519 := n7_
                  clear n0_ n1_ n2_ n3_ n4_ n5_ n6_ n7_
                  clear hb hbox hg
                  refine hK.out _ _ ⟨(blk_cell BK519.out 0).trans rfl, (blk_cell BK519.out 1).trans rfl, (blk_cell BK519.out 2).trans rfl, (blk_cell BK519.out 3).trans rfl, (blk_cell BK519.out 4).trans rfl, (blk_cell BK519.out 5).trans rfl, (blk_cell BK519.out 6).trans rfl, (blk_cell BK519.out 7).trans rfl, (blk_cell BK519.out 8).trans rfl, (blk_cell BK519.out 9).trans rfl, (blk_cell BK519.out 10).trans rfl, ((HB.out.cell (World.block_lt_of_cell? w _ hw520_0)).trans hw520_0), ((HB.out.cell (World.block_lt_of_cell? w _ hw520_1)).trans hw520_1), ((HB.out.cell (World.block_lt_of_cell? w _ hw521_0)).trans hw521_0), ((HB.out.cell (World.block_lt_of_cell? w _ hw522_0)).trans hw522_0)⟩ (fun hHeld => ?_)
                  clear hK K
                  refine norm_ (a' := ?_) ?_ ?_
                  rotate_left
                  ·show Act.put _ (some 7) _ = _
                   simp only [Act.put, List.setIfInBounds_toArray, List.set_cons_zero, List.set_cons_succ, i64_w, i32_w]
                   rfl
                  refine one_ (i := 16) (N := some 46) #[true, true, true, true, true, true, true, true, true, true, true, true, true, true, true, true, true, true, false] rfl rfl (one_of HT_.out (by kernel_rfl)) (by decide) (fun K hK => ?_)
                  refine goes_ Try.func40 (by kernel_rfl) rfl #[.string ((rd_T57 l0_1 x4_1).f0), .string (rdOf ByteArray.empty l0_3 x5_2), .string (rdOf ByteArray.empty l0_0 x6_3)] (by rfl) rfl rfl (by (try simp only [List.map_toArray, List.map_cons, List.map_nil]); first | done | rfl | (simp only [List.length_drop, List.length_take]; rfl)) ?_
                  with_reducible refine (gatehouselaw08_tri.calls ((rd_T57 l0_1 x4_1).f0) (rdOf ByteArray.empty l0_3 x5_2) (rdOf ByteArray.empty l0_0 x6_3) t523 t524 t525 _ A13.out).mono ?_
                  rintro e w19 ⟨rfl, hb⟩
                  refine ⟨_, rfl, ?_⟩
                  have n0_ := Aside0.mk (Kd.R_below (by (with_reducible repeat (first | apply Kd.R_alloc | apply Kd.R_drewN | apply Kd.R_drew)); exact HO_3.out) hb)
                  have n1_ := Aside0.mk (blk_below (g := gb519) (o := .cells #[.slice (some ad522) l0_0.length c0_0, .slice (some ad520) l0_1.length c0_1, .slice A0_2 l0_2.length c0_2, .slice (some ad521) l0_3.length c0_3, .slice A0_4 l0_4.length c0_4, .slice A0_5 l0_5.length c0_5, .slice A0_6 l0_6.length c0_6, .slice A0_7 l0_7.length c0_7, .slice A0_8 l0_8.length c0_8, .slice A0_9 l0_9.length c0_9, .slice A0_10 l0_10.length c0_10] 34 (0, 0)) (by (with_reducible repeat (first | refine blk_drewN ?_ _ | refine blk_drew ?_ | refine blk_alloc ?_ _)); exact BK519.out) hb)
                  have n2_ := Aside0.mk (blk_below (g := gb526) (o := .cells #[.string (⟨#[]⟩ : ByteArray), .string (⟨#[]⟩ : ByteArray), .string (⟨#[]⟩ : ByteArray)] 36 (0, 0)) (by (with_reducible repeat (first | refine blk_drewN ?_ _ | refine blk_drew ?_ | refine blk_alloc ?_ _)); exact BK526.out) hb)
                  have n3_ := Aside0.mk (below_step (by repeat (first | (with_reducible first | exact HB.out | apply below_alloc | apply pw_below_drewN | apply below_drew1 | refine below_set ?_ GE519.out | refine below_set ?_ GE526.out) | exact HB.out)) hb)
                  clear HO_3
                  clear BK519
                  clear BK526
                  clear HB
                  have HO_3 := n0_
                  have BK519 := n1_
                  have BK526 := n2_
                  have HB := n3_
                  clear n0_ n1_ n2_ n3_
                  (try clear hb)
                  (try clear hb2)
                  (try clear hk)
                  (try clear hi)
                  refine hK.out _ _ ⟨(blk_cell BK519.out 0).trans rfl, (blk_cell BK519.out 1).trans rfl, (blk_cell BK519.out 2).trans rfl, (blk_cell BK519.out 3).trans rfl, (blk_cell BK519.out 4).trans rfl, (blk_cell BK519.out 5).trans rfl, (blk_cell BK519.out 6).trans rfl, (blk_cell BK519.out 7).trans rfl, (blk_cell BK519.out 8).trans rfl, (blk_cell BK519.out 9).trans rfl, (blk_cell BK519.out 10).trans rfl, ((HB.out.cell (World.block_lt_of_cell? w _ hw520_0)).trans hw520_0), ((HB.out.cell (World.block_lt_of_cell? w _ hw520_1)).trans hw520_1), ((HB.out.cell (World.block_lt_of_cell? w _ hw521_0)).trans hw521_0), ((HB.out.cell (World.block_lt_of_cell? w _ hw522_0)).trans hw522_0)⟩ (fun hHeld => ?_)
                  clear hK K
                  refine norm_ (a' := ?_) ?_ ?_
                  rotate_left
                  ·show Act.put _ (some 46) _ = _
                   simp only [Act.put, List.setIfInBounds_toArray, List.set_cons_zero, List.set_cons_succ, i64_w, i32_w]
                   rfl
                  exact norm_ (by simp only [putAll, Act.put, List.setIfInBounds_toArray, List.set_cons_zero, List.set_cons_succ]) (hCont (gb526) _ ⟨hHeld, (by (with_reducible repeat (first | apply Kd.R_alloc | apply Kd.R_drewN | apply Kd.R_drew)); exact Kd.R_mono HO_3.out (fun _ hk => hk.2)), (by (with_reducible repeat (first | refine blk_drewN ?_ _ | refine blk_drew ?_ | refine blk_alloc ?_ _)); exact BK519.out), (by (with_reducible repeat (first | refine blk_drewN ?_ _ | refine blk_drew ?_ | refine blk_alloc ?_ _)); exact BK526.out), GW526.out, GE526.out, NB519_526.out, NB526_519.out, (by repeat (first | (with_reducible first | exact HB.out | apply below_alloc | apply pw_below_drewN | apply below_drew1 | refine below_set ?_ GE519.out | refine below_set ?_ GE526.out) | exact HB.out))⟩)
                rintro gb526 w20 ⟨hS_, h0_, h1_, h2_, h3_, h4_, h5_, h6_, h7_⟩
                have n0_ : Aside0 (Kd.R k36 36 w20 w.heap.size (fun k_ => k_ ≠ gb526) u3 x3_3) := ⟨h0_⟩
                have n1_ : Aside0 (w20.heap[gb519]? = some (.cells #[.slice (some ad522) l0_0.length c0_0, .slice (some ad520) l0_1.length c0_1, .slice A0_2 l0_2.length c0_2, .slice (some ad521) l0_3.length c0_3, .slice A0_4 l0_4.length c0_4, .slice A0_5 l0_5.length c0_5, .slice A0_6 l0_6.length c0_6, .slice A0_7 l0_7.length c0_7, .slice A0_8 l0_8.length c0_8, .slice A0_9 l0_9.length c0_9, .slice A0_10 l0_10.length c0_10] 34 (0, 0))) := ⟨h1_⟩
                have n2_ : Aside0 (w20.heap[gb526]? = some (.cells #[.string (⟨#[]⟩ : ByteArray), .string (⟨#[]⟩ : ByteArray), .string (⟨#[]⟩ : ByteArray)] 36 (0, 0))) := ⟨h2_⟩
                have n3_ : Aside0 (w.heap.size ≤ gb526) := ⟨h3_⟩
                have n4_ : Aside0 (w.heap.size ≤ gb526) := ⟨h4_⟩
                have n5_ : Aside0 (gb519 ≠ gb526) := ⟨h5_⟩
                have n6_ : Aside0 (gb526 ≠ gb519) := ⟨h6_⟩
                have n7_ : Aside0 (Below w.heap.size w w20) := ⟨h7_⟩
                clear HO_3
                clear BK519
                clear HB
                clear h0_ h1_ h2_ h3_ h4_ h5_ h6_ h7_
                have HO_3 := n0_
                have BK519 := n1_
                have BK526 := n2_
                have GW526 := n3_
                have GE526 := n4_
                have NB519_526 := n5_
                have NB526_519 := n6_
                have HB := n7_
                clear n0_ n1_ n2_ n3_ n4_ n5_ n6_ n7_
                have hHeld : w20.cell? ⟨gb519, 0, none⟩ = some (.slice (some ad522) l0_0.length c0_0) ∧ w20.cell? ⟨gb519, 1, none⟩ = some (.slice (some ad520) l0_1.length c0_1) ∧ w20.cell? ⟨gb519, 2, none⟩ = some (.slice A0_2 l0_2.length c0_2) ∧ w20.cell? ⟨gb519, 3, none⟩ = some (.slice (some ad521) l0_3.length c0_3) ∧ w20.cell? ⟨gb519, 4, none⟩ = some (.slice A0_4 l0_4.length c0_4) ∧ w20.cell? ⟨gb519, 5, none⟩ = some (.slice A0_5 l0_5.length c0_5) ∧ w20.cell? ⟨gb519, 6, none⟩ = some (.slice A0_6 l0_6.length c0_6) ∧ w20.cell? ⟨gb519, 7, none⟩ = some (.slice A0_7 l0_7.length c0_7) ∧ w20.cell? ⟨gb519, 8, none⟩ = some (.slice A0_8 l0_8.length c0_8) ∧ w20.cell? ⟨gb519, 9, none⟩ = some (.slice A0_9 l0_9.length c0_9) ∧ w20.cell? ⟨gb519, 10, none⟩ = some (.slice A0_10 l0_10.length c0_10) ∧ w20.cell? (ad520.add ((x4_1).toNat * 2)) = some (.string ((rd_T57 l0_1 x4_1).f0)) ∧ w20.cell? ⟨(ad520.add ((x4_1).toNat * 2)).block, (ad520.add ((x4_1).toNat * 2)).off + 1, none⟩ = some (.float .f64 ((rd_T57 l0_1 x4_1).f1)) ∧ w20.cell? (ad521.add (x5_2).toNat) = some (.string (rdOf ByteArray.empty l0_3 x5_2)) ∧ w20.cell? (ad522.add (x6_3).toNat) = some (.string (rdOf ByteArray.empty l0_0 x6_3)) := hS_
                refine norm_ (a' := ?_) ?_ ?_
                rotate_left
                ·simp only [putAll, Act.put, List.setIfInBounds_toArray, List.set_cons_zero, List.set_cons_succ]
                 rfl
                refine one_ (i := 18) (N := none) #[true, true, true, true, true, true, true, true, true, true, true, true, true, true, true, true, true, true, true] rfl rfl (one_of HT_.out (by kernel_rfl)) (by decide) (fun K hK => ?_)
                have hs21 : w20.cell? ⟨gb526, 0, none⟩ = some (.string (⟨#[]⟩ : ByteArray)) := (blk_cell BK526.out 0).trans rfl
                have hfs21 := blk_frozen BK526.out 0
                have hns21_0 := NB519_526.out
                have hms21_0 := NB526_519.out
                have hs22 : w20.cell? ⟨gb526, 1, none⟩ = some (.string (⟨#[]⟩ : ByteArray)) := (blk_cell BK526.out 1).trans rfl
                have hfs22 := blk_frozen BK526.out 1
                have hns22_0 := NB519_526.out
                have hms22_0 := NB526_519.out
                have hs23 : w20.cell? ⟨gb526, 2, none⟩ = some (.string (⟨#[]⟩ : ByteArray)) := (blk_cell BK526.out 2).trans rfl
                have hfs23 := blk_frozen BK526.out 2
                have hns23_0 := NB519_526.out
                have hms23_0 := NB526_519.out
                refine skip_ (w1 := ?_) (by rfl) rfl ?_ ?_
                rotate_left
                ·go_simp
                 rfl
                refine hK.out _ _ ⟨((cell_far (p := ⟨gb526, _, none⟩) NB519_526.out _).trans (((cell_far (p := ⟨gb526, _, none⟩) NB519_526.out _).trans (((cell_far (p := ⟨gb526, _, none⟩) NB519_526.out _).trans (hHeld.1)))))), ((cell_far (p := ⟨gb526, _, none⟩) NB519_526.out _).trans (((cell_far (p := ⟨gb526, _, none⟩) NB519_526.out _).trans (((cell_far (p := ⟨gb526, _, none⟩) NB519_526.out _).trans (hHeld.2.1)))))), ((cell_far (p := ⟨gb526, _, none⟩) NB519_526.out _).trans (((cell_far (p := ⟨gb526, _, none⟩) NB519_526.out _).trans (((cell_far (p := ⟨gb526, _, none⟩) NB519_526.out _).trans (hHeld.2.2.1)))))), ((cell_far (p := ⟨gb526, _, none⟩) NB519_526.out _).trans (((cell_far (p := ⟨gb526, _, none⟩) NB519_526.out _).trans (((cell_far (p := ⟨gb526, _, none⟩) NB519_526.out _).trans (hHeld.2.2.2.1)))))), ((cell_far (p := ⟨gb526, _, none⟩) NB519_526.out _).trans (((cell_far (p := ⟨gb526, _, none⟩) NB519_526.out _).trans (((cell_far (p := ⟨gb526, _, none⟩) NB519_526.out _).trans (hHeld.2.2.2.2.1)))))), ((cell_far (p := ⟨gb526, _, none⟩) NB519_526.out _).trans (((cell_far (p := ⟨gb526, _, none⟩) NB519_526.out _).trans (((cell_far (p := ⟨gb526, _, none⟩) NB519_526.out _).trans (hHeld.2.2.2.2.2.1)))))), ((cell_far (p := ⟨gb526, _, none⟩) NB519_526.out _).trans (((cell_far (p := ⟨gb526, _, none⟩) NB519_526.out _).trans (((cell_far (p := ⟨gb526, _, none⟩) NB519_526.out _).trans (hHeld.2.2.2.2.2.2.1)))))), ((cell_far (p := ⟨gb526, _, none⟩) NB519_526.out _).trans (((cell_far (p := ⟨gb526, _, none⟩) NB519_526.out _).trans (((cell_far (p := ⟨gb526, _, none⟩) NB519_526.out _).trans (hHeld.2.2.2.2.2.2.2.1)))))), ((cell_far (p := ⟨gb526, _, none⟩) NB519_526.out _).trans (((cell_far (p := ⟨gb526, _, none⟩) NB519_526.out _).trans (((cell_far (p := ⟨gb526, _, none⟩) NB519_526.out _).trans (hHeld.2.2.2.2.2.2.2.2.1)))))), ((cell_far (p := ⟨gb526, _, none⟩) NB519_526.out _).trans (((cell_far (p := ⟨gb526, _, none⟩) NB519_526.out _).trans (((cell_far (p := ⟨gb526, _, none⟩) NB519_526.out _).trans (hHeld.2.2.2.2.2.2.2.2.2.1)))))), ((cell_far (p := ⟨gb526, _, none⟩) NB519_526.out _).trans (((cell_far (p := ⟨gb526, _, none⟩) NB519_526.out _).trans (((cell_far (p := ⟨gb526, _, none⟩) NB519_526.out _).trans (hHeld.2.2.2.2.2.2.2.2.2.2.1)))))), ((cell_far (p := ⟨gb526, _, none⟩) (by first | exact Nat.ne_of_lt (Nat.lt_of_lt_of_le (by have := World.block_lt_of_cell? _ _ hw520_0; first | rwa [add_block] at this | exact this) GW526.out) | (rw [add_block]; exact Nat.ne_of_lt (Nat.lt_of_lt_of_le (by have := World.block_lt_of_cell? _ _ hw520_0; first | rwa [add_block] at this | exact this) GW526.out)) | (show (Addr.add _ _).block ≠ _; rw [add_block]; exact Nat.ne_of_lt (Nat.lt_of_lt_of_le (by have := World.block_lt_of_cell? _ _ hw520_0; first | rwa [add_block] at this | exact this) GW526.out)) | (dsimp only; exact Nat.ne_of_lt (Nat.lt_of_lt_of_le (by have := World.block_lt_of_cell? _ _ hw520_0; first | rwa [add_block] at this | exact this) GW526.out))) _).trans (((cell_far (p := ⟨gb526, _, none⟩) (by first | exact Nat.ne_of_lt (Nat.lt_of_lt_of_le (by have := World.block_lt_of_cell? _ _ hw520_0; first | rwa [add_block] at this | exact this) GW526.out) | (rw [add_block]; exact Nat.ne_of_lt (Nat.lt_of_lt_of_le (by have := World.block_lt_of_cell? _ _ hw520_0; first | rwa [add_block] at this | exact this) GW526.out)) | (show (Addr.add _ _).block ≠ _; rw [add_block]; exact Nat.ne_of_lt (Nat.lt_of_lt_of_le (by have := World.block_lt_of_cell? _ _ hw520_0; first | rwa [add_block] at this | exact this) GW526.out)) | (dsimp only; exact Nat.ne_of_lt (Nat.lt_of_lt_of_le (by have := World.block_lt_of_cell? _ _ hw520_0; first | rwa [add_block] at this | exact this) GW526.out))) _).trans (((cell_far (p := ⟨gb526, _, none⟩) (by first | exact Nat.ne_of_lt (Nat.lt_of_lt_of_le (by have := World.block_lt_of_cell? _ _ hw520_0; first | rwa [add_block] at this | exact this) GW526.out) | (rw [add_block]; exact Nat.ne_of_lt (Nat.lt_of_lt_of_le (by have := World.block_lt_of_cell? _ _ hw520_0; first | rwa [add_block] at this | exact this) GW526.out)) | (show (Addr.add _ _).block ≠ _; rw [add_block]; exact Nat.ne_of_lt (Nat.lt_of_lt_of_le (by have := World.block_lt_of_cell? _ _ hw520_0; first | rwa [add_block] at this | exact this) GW526.out)) | (dsimp only; exact Nat.ne_of_lt (Nat.lt_of_lt_of_le (by have := World.block_lt_of_cell? _ _ hw520_0; first | rwa [add_block] at this | exact this) GW526.out))) _).trans (hHeld.2.2.2.2.2.2.2.2.2.2.2.1)))))), ((cell_far (p := ⟨gb526, _, none⟩) (by first | exact Nat.ne_of_lt (Nat.lt_of_lt_of_le (by have := World.block_lt_of_cell? _ _ hw520_1; first | rwa [add_block] at this | exact this) GW526.out) | (rw [add_block]; exact Nat.ne_of_lt (Nat.lt_of_lt_of_le (by have := World.block_lt_of_cell? _ _ hw520_1; first | rwa [add_block] at this | exact this) GW526.out)) | (show (Addr.add _ _).block ≠ _; rw [add_block]; exact Nat.ne_of_lt (Nat.lt_of_lt_of_le (by have := World.block_lt_of_cell? _ _ hw520_1; first | rwa [add_block] at this | exact this) GW526.out)) | (dsimp only; exact Nat.ne_of_lt (Nat.lt_of_lt_of_le (by have := World.block_lt_of_cell? _ _ hw520_1; first | rwa [add_block] at this | exact this) GW526.out))) _).trans (((cell_far (p := ⟨gb526, _, none⟩) (by first | exact Nat.ne_of_lt (Nat.lt_of_lt_of_le (by have := World.block_lt_of_cell? _ _ hw520_1; first | rwa [add_block] at this | exact this) GW526.out) | (rw [add_block]; exact Nat.ne_of_lt (Nat.lt_of_lt_of_le (by have := World.block_lt_of_cell? _ _ hw520_1; first | rwa [add_block] at this | exact this) GW526.out)) | (show (Addr.add _ _).block ≠ _; rw [add_block]; exact Nat.ne_of_lt (Nat.lt_of_lt_of_le (by have := World.block_lt_of_cell? _ _ hw520_1; first | rwa [add_block] at this | exact this) GW526.out)) | (dsimp only; exact Nat.ne_of_lt (Nat.lt_of_lt_of_le (by have := World.block_lt_of_cell? _ _ hw520_1; first | rwa [add_block] at this | exact this) GW526.out))) _).trans (((cell_far (p := ⟨gb526, _, none⟩) (by first | exact Nat.ne_of_lt (Nat.lt_of_lt_of_le (by have := World.block_lt_of_cell? _ _ hw520_1; first | rwa [add_block] at this | exact this) GW526.out) | (rw [add_block]; exact Nat.ne_of_lt (Nat.lt_of_lt_of_le (by have := World.block_lt_of_cell? _ _ hw520_1; first | rwa [add_block] at this | exact this) GW526.out)) | (show (Addr.add _ _).block ≠ _; rw [add_block]; exact Nat.ne_of_lt (Nat.lt_of_lt_of_le (by have := World.block_lt_of_cell? _ _ hw520_1; first | rwa [add_block] at this | exact this) GW526.out)) | (dsimp only; exact Nat.ne_of_lt (Nat.lt_of_lt_of_le (by have := World.block_lt_of_cell? _ _ hw520_1; first | rwa [add_block] at this | exact this) GW526.out))) _).trans (hHeld.2.2.2.2.2.2.2.2.2.2.2.2.1)))))), ((cell_far (p := ⟨gb526, _, none⟩) (by first | exact Nat.ne_of_lt (Nat.lt_of_lt_of_le (by have := World.block_lt_of_cell? _ _ hw521_0; first | rwa [add_block] at this | exact this) GW526.out) | (rw [add_block]; exact Nat.ne_of_lt (Nat.lt_of_lt_of_le (by have := World.block_lt_of_cell? _ _ hw521_0; first | rwa [add_block] at this | exact this) GW526.out)) | (show (Addr.add _ _).block ≠ _; rw [add_block]; exact Nat.ne_of_lt (Nat.lt_of_lt_of_le (by have := World.block_lt_of_cell? _ _ hw521_0; first | rwa [add_block] at this | exact this) GW526.out)) | (dsimp only; exact Nat.ne_of_lt (Nat.lt_of_lt_of_le (by have := World.block_lt_of_cell? _ _ hw521_0; first | rwa [add_block] at this | exact this) GW526.out))) _).trans (((cell_far (p := ⟨gb526, _, none⟩) (by first | exact Nat.ne_of_lt (Nat.lt_of_lt_of_le (by have := World.block_lt_of_cell? _ _ hw521_0; first | rwa [add_block] at this | exact this) GW526.out) | (rw [add_block]; exact Nat.ne_of_lt (Nat.lt_of_lt_of_le (by have := World.block_lt_of_cell? _ _ hw521_0; first | rwa [add_block] at this | exact this) GW526.out)) | (show (Addr.add _ _).block ≠ _; rw [add_block]; exact Nat.ne_of_lt (Nat.lt_of_lt_of_le (by have := World.block_lt_of_cell? _ _ hw521_0; first | rwa [add_block] at this | exact this) GW526.out)) | (dsimp only; exact Nat.ne_of_lt (Nat.lt_of_lt_of_le (by have := World.block_lt_of_cell? _ _ hw521_0; first | rwa [add_block] at this | exact this) GW526.out))) _).trans (((cell_far (p := ⟨gb526, _, none⟩) (by first | exact Nat.ne_of_lt (Nat.lt_of_lt_of_le (by have := World.block_lt_of_cell? _ _ hw521_0; first | rwa [add_block] at this | exact this) GW526.out) | (rw [add_block]; exact Nat.ne_of_lt (Nat.lt_of_lt_of_le (by have := World.block_lt_of_cell? _ _ hw521_0; first | rwa [add_block] at this | exact this) GW526.out)) | (show (Addr.add _ _).block ≠ _; rw [add_block]; exact Nat.ne_of_lt (Nat.lt_of_lt_of_le (by have := World.block_lt_of_cell? _ _ hw521_0; first | rwa [add_block] at this | exact this) GW526.out)) | (dsimp only; exact Nat.ne_of_lt (Nat.lt_of_lt_of_le (by have := World.block_lt_of_cell? _ _ hw521_0; first | rwa [add_block] at this | exact this) GW526.out))) _).trans (hHeld.2.2.2.2.2.2.2.2.2.2.2.2.2.1)))))), ((cell_far (p := ⟨gb526, _, none⟩) (by first | exact Nat.ne_of_lt (Nat.lt_of_lt_of_le (by have := World.block_lt_of_cell? _ _ hw522_0; first | rwa [add_block] at this | exact this) GW526.out) | (rw [add_block]; exact Nat.ne_of_lt (Nat.lt_of_lt_of_le (by have := World.block_lt_of_cell? _ _ hw522_0; first | rwa [add_block] at this | exact this) GW526.out)) | (show (Addr.add _ _).block ≠ _; rw [add_block]; exact Nat.ne_of_lt (Nat.lt_of_lt_of_le (by have := World.block_lt_of_cell? _ _ hw522_0; first | rwa [add_block] at this | exact this) GW526.out)) | (dsimp only; exact Nat.ne_of_lt (Nat.lt_of_lt_of_le (by have := World.block_lt_of_cell? _ _ hw522_0; first | rwa [add_block] at this | exact this) GW526.out))) _).trans (((cell_far (p := ⟨gb526, _, none⟩) (by first | exact Nat.ne_of_lt (Nat.lt_of_lt_of_le (by have := World.block_lt_of_cell? _ _ hw522_0; first | rwa [add_block] at this | exact this) GW526.out) | (rw [add_block]; exact Nat.ne_of_lt (Nat.lt_of_lt_of_le (by have := World.block_lt_of_cell? _ _ hw522_0; first | rwa [add_block] at this | exact this) GW526.out)) | (show (Addr.add _ _).block ≠ _; rw [add_block]; exact Nat.ne_of_lt (Nat.lt_of_lt_of_le (by have := World.block_lt_of_cell? _ _ hw522_0; first | rwa [add_block] at this | exact this) GW526.out)) | (dsimp only; exact Nat.ne_of_lt (Nat.lt_of_lt_of_le (by have := World.block_lt_of_cell? _ _ hw522_0; first | rwa [add_block] at this | exact this) GW526.out))) _).trans (((cell_far (p := ⟨gb526, _, none⟩) (by first | exact Nat.ne_of_lt (Nat.lt_of_lt_of_le (by have := World.block_lt_of_cell? _ _ hw522_0; first | rwa [add_block] at this | exact this) GW526.out) | (rw [add_block]; exact Nat.ne_of_lt (Nat.lt_of_lt_of_le (by have := World.block_lt_of_cell? _ _ hw522_0; first | rwa [add_block] at this | exact this) GW526.out)) | (show (Addr.add _ _).block ≠ _; rw [add_block]; exact Nat.ne_of_lt (Nat.lt_of_lt_of_le (by have := World.block_lt_of_cell? _ _ hw522_0; first | rwa [add_block] at this | exact this) GW526.out)) | (dsimp only; exact Nat.ne_of_lt (Nat.lt_of_lt_of_le (by have := World.block_lt_of_cell? _ _ hw522_0; first | rwa [add_block] at this | exact this) GW526.out))) _).trans (hHeld.2.2.2.2.2.2.2.2.2.2.2.2.2.2))))))⟩ (fun hHeld => ?_)
                clear hK K
                refine done_ (done_of HT_.out (by kernel_rfl)) ?_
                have hnb24 := NB526_519.out
                have hnc24 := NB519_526.out
                have hcz25_0 : w20.cell? ⟨gb526, 0, none⟩ = some (.string (⟨#[]⟩ : ByteArray)) := (blk_cell BK526.out 0).trans rfl
                have hcz25_1 : w20.cell? ⟨gb526, 1, none⟩ = some (.string (⟨#[]⟩ : ByteArray)) := (blk_cell BK526.out 1).trans rfl
                have hcz25_2 : w20.cell? ⟨gb526, 2, none⟩ = some (.string (⟨#[]⟩ : ByteArray)) := (blk_cell BK526.out 2).trans rfl
                have hfz25_0 := blk_frozen BK526.out 0
                have hfz25_1 := blk_frozen BK526.out 1
                have hfz25_2 := blk_frozen BK526.out 2
                obtain ⟨Ao26, co26, eo26⟩ := Kd.R_slice HO_3.out
                subst eo26
                try go_wp2_with (first | ((with_reducible refine gate_callee (f := 32) rfl ?_); refine goesL_ (some 49) rfl rfl Try.func32 (by kernel_rfl) rfl #[.slice Ao26 x3_3.length co26, .agg #[.string t523, .string t524, .string t525]] rfl (by (try simp only [List.map_toArray, List.map_cons, List.map_nil]); first | done | rfl | (simp only [List.length_drop, List.length_take]; rfl)) ?_; (with_reducible refine (gatehouselaw08_has.calls k3 _ _ x3_3 t523 t524 t525 true _ ?side1 ?side2 A14.out).mono ?_); (case side1 => refine (Kd.R_reads' (e := 36) (base := w.heap.size) (ok := fun k_ => k_ ≠ gb526) (n := x3_3.length) (c := co26) ?_).2.2; exact (by (with_reducible repeat (first | apply Kd.R_alloc | apply Kd.R_drewN | apply Kd.R_drew)); exact (Kd.R_mono (Kd.R_far (p := ⟨gb526, 2, none⟩) (Kd.R_far (p := ⟨gb526, 1, none⟩) (Kd.R_far (p := ⟨gb526, 0, none⟩) (Kd.R_mono HO_3.out (fun k_ hk => (⟨hk, hk⟩ : _ ∧ k_ ≠ gb526))) (fun _ hk => hk.2) (.string t523)) (fun _ hk => hk.2) (.string t524)) (fun _ hk => hk.2) (.string t525)) (fun _ h_ => h_.1)))); (case side2 => exact (Kd.R_reads' HO_3.out).2.1); rintro e w27 ⟨rfl, hb⟩; refine ⟨_, rfl, ?_⟩; have n0_ := Aside0.mk (Kd.R_below (by (with_reducible repeat (first | apply Kd.R_alloc | apply Kd.R_drewN | apply Kd.R_drew)); exact (Kd.R_mono (Kd.R_far (p := ⟨gb526, 2, none⟩) (Kd.R_far (p := ⟨gb526, 1, none⟩) (Kd.R_far (p := ⟨gb526, 0, none⟩) (Kd.R_mono HO_3.out (fun k_ hk => (⟨hk, hk⟩ : _ ∧ k_ ≠ gb526))) (fun _ hk => hk.2) (.string t523)) (fun _ hk => hk.2) (.string t524)) (fun _ hk => hk.2) (.string t525)) (fun _ h_ => h_.1))) hb); have n1_ := Aside0.mk (blk_below (g := gb519) (o := .cells #[.slice (some ad522) l0_0.length c0_0, .slice (some ad520) l0_1.length c0_1, .slice A0_2 l0_2.length c0_2, .slice (some ad521) l0_3.length c0_3, .slice A0_4 l0_4.length c0_4, .slice A0_5 l0_5.length c0_5, .slice A0_6 l0_6.length c0_6, .slice A0_7 l0_7.length c0_7, .slice A0_8 l0_8.length c0_8, .slice A0_9 l0_9.length c0_9, .slice A0_10 l0_10.length c0_10] 34 (0, 0)) (by (with_reducible repeat (first | refine blk_drewN ?_ _ | refine blk_drew ?_ | refine blk_alloc ?_ _)); refine blk_far ?_ NB519_526.out _; (with_reducible repeat (first | refine blk_drewN ?_ _ | refine blk_drew ?_ | refine blk_alloc ?_ _)); refine blk_far ?_ NB519_526.out _; (with_reducible repeat (first | refine blk_drewN ?_ _ | refine blk_drew ?_ | refine blk_alloc ?_ _)); refine blk_far ?_ NB519_526.out _; (with_reducible repeat (first | refine blk_drewN ?_ _ | refine blk_drew ?_ | refine blk_alloc ?_ _)); exact BK519.out) hb); have n2_ := Aside0.mk (blk_below (g := gb526) (o := .cells #[.string t523, .string t524, .string t525] 36 (0, 0)) (by (with_reducible repeat (first | refine blk_drewN ?_ _ | refine blk_drew ?_ | refine blk_alloc ?_ _)); refine blk_put (cs := #[.string t523, .string t524, .string (⟨#[]⟩ : ByteArray)]) ?_ 2 _ rfl; (with_reducible repeat (first | refine blk_drewN ?_ _ | refine blk_drew ?_ | refine blk_alloc ?_ _)); refine blk_put (cs := #[.string t523, .string (⟨#[]⟩ : ByteArray), .string (⟨#[]⟩ : ByteArray)]) ?_ 1 _ rfl; (with_reducible repeat (first | refine blk_drewN ?_ _ | refine blk_drew ?_ | refine blk_alloc ?_ _)); refine blk_put (cs := #[.string (⟨#[]⟩ : ByteArray), .string (⟨#[]⟩ : ByteArray), .string (⟨#[]⟩ : ByteArray)]) ?_ 0 _ rfl; (with_reducible repeat (first | refine blk_drewN ?_ _ | refine blk_drew ?_ | refine blk_alloc ?_ _)); exact BK526.out) hb); have n3_ := Aside0.mk (below_step (by repeat (first | (with_reducible first | exact HB.out | apply below_alloc | apply pw_below_drewN | apply below_drew1 | refine below_set ?_ GE519.out | refine below_set ?_ GE526.out) | exact HB.out)) hb); clear HO_3; clear BK519; clear BK526; clear HB; have HO_3 := n0_; have BK519 := n1_; have BK526 := n2_; have HB := n3_; clear n0_ n1_ n2_ n3_; (try clear hb); (try clear hb2); (try clear hk); (try clear hi)))
                go_roundg k3
                case measure => have := HK1.out; have := HK2.out; have := HK3.out; omega
                case rel => exact ⟨(x3_3), (wrap64 (x6_3 + 1)), (by first | rfl | (simp; done) | (simp [*]; done)), H', ⟨by have := HK1.out; have := HK2.out; have := HK3.out; omega⟩, ⟨by (with_reducible repeat (first | apply Kd.R_alloc | apply Kd.R_drewN | apply Kd.R_drew)); exact Kd.R_mono HO_3.out (fun _ hk => trivial)⟩, ⟨by (with_reducible repeat (first | refine blk_drewN ?_ _ | refine blk_drew ?_ | refine blk_alloc ?_ _)); exact BK519.out⟩, ⟨by repeat (first | (with_reducible first | exact HB.out | apply below_alloc | apply pw_below_drewN | apply below_drew1 | refine below_set ?_ GE519.out | refine below_set ?_ GE526.out) | exact HB.out)⟩⟩
               ·replace c15 := Bool.eq_false_iff.mpr c15
                subst c15
                have H1 : (if x3_3.length < 2932031007402 then (gatehouselaw08_all.l2 k3 (x3_3 ++ [(⟨t523, t524, t525⟩ : S36)]) x4_1 x5_2 (wrap64 (x6_3 + 1)) l0_0 l0_1 l0_2 l0_3 l0_4 l0_5 l0_6 l0_7 l0_8 l0_9 l0_10) else (none)) = some r := by rw [if_neg (show ¬ (false = true) by decide)] at H; exact H
                clear H
                have H := H1
                clear H1
                by_cases c28 : x3_3.length < 2932031007402
                ·rw [if_pos c28] at H
                 have LMc28 := Aside0.mk c28
                 clear c28
                 obtain ⟨y528, hy528⟩ : ∃ y_ : List (S36), y_ = (x3_3 ++ [(⟨t523, t524, t525⟩ : S36)]) := ⟨_, rfl⟩
                 replace H : (gatehouselaw08_all.l2 k3 y528 x4_1 x5_2 (wrap64 (x6_3 + 1)) l0_0 l0_1 l0_2 l0_3 l0_4 l0_5 l0_6 l0_7 l0_8 l0_9 l0_10) = some r := by first | (rw [hy528]; with_reducible exact H) | (have H2_ := (Option.bind_some _ _).symm.trans H; rw [hy528]; with_reducible exact H2_) | (have H2_ := (Option.bind_some _ _).symm.trans H; with_reducible exact H2_) | with_reducible exact H | (rw [hy528]; exact H) | exact H
                 have Ny528 := Aside0.mk hy528
                 clear hy528
                 have H' := Aside0.mk H
                 clear H
                 have hcz29_0 : wr.cell? ⟨gb519, 0, none⟩ = some (.slice A0_0 l0_0.length c0_0) := (blk_cell BK519.out 0).trans rfl
                 have hcz29_1 : wr.cell? ⟨gb519, 1, none⟩ = some (.slice A0_1 l0_1.length c0_1) := (blk_cell BK519.out 1).trans rfl
                 have hcz29_2 : wr.cell? ⟨gb519, 2, none⟩ = some (.slice A0_2 l0_2.length c0_2) := (blk_cell BK519.out 2).trans rfl
                 have hcz29_3 : wr.cell? ⟨gb519, 3, none⟩ = some (.slice A0_3 l0_3.length c0_3) := (blk_cell BK519.out 3).trans rfl
                 have hcz29_4 : wr.cell? ⟨gb519, 4, none⟩ = some (.slice A0_4 l0_4.length c0_4) := (blk_cell BK519.out 4).trans rfl
                 have hcz29_5 : wr.cell? ⟨gb519, 5, none⟩ = some (.slice A0_5 l0_5.length c0_5) := (blk_cell BK519.out 5).trans rfl
                 have hcz29_6 : wr.cell? ⟨gb519, 6, none⟩ = some (.slice A0_6 l0_6.length c0_6) := (blk_cell BK519.out 6).trans rfl
                 have hcz29_7 : wr.cell? ⟨gb519, 7, none⟩ = some (.slice A0_7 l0_7.length c0_7) := (blk_cell BK519.out 7).trans rfl
                 have hcz29_8 : wr.cell? ⟨gb519, 8, none⟩ = some (.slice A0_8 l0_8.length c0_8) := (blk_cell BK519.out 8).trans rfl
                 have hcz29_9 : wr.cell? ⟨gb519, 9, none⟩ = some (.slice A0_9 l0_9.length c0_9) := (blk_cell BK519.out 9).trans rfl
                 have hcz29_10 : wr.cell? ⟨gb519, 10, none⟩ = some (.slice A0_10 l0_10.length c0_10) := (blk_cell BK519.out 10).trans rfl
                 have hfz29_0 := blk_frozen BK519.out 0
                 have hfz29_1 := blk_frozen BK519.out 1
                 have hfz29_2 := blk_frozen BK519.out 2
                 have hfz29_3 := blk_frozen BK519.out 3
                 have hfz29_4 := blk_frozen BK519.out 4
                 have hfz29_5 := blk_frozen BK519.out 5
                 have hfz29_6 := blk_frozen BK519.out 6
                 have hfz29_7 := blk_frozen BK519.out 7
                 have hfz29_8 := blk_frozen BK519.out 8
                 have hfz29_9 := blk_frozen BK519.out 9
                 have hfz29_10 := blk_frozen BK519.out 10
                 try go_wp2
                 have n0_ := Aside0.mk (Kd.R_drew HO_3.out)
                 have n1_ := Aside0.mk (blk_drew BK519.out)
                 have n2_ := Aside0.mk (below_drew1 HB.out)
                 clear HO_3
                 clear BK519
                 clear HB
                 have HO_3 := n0_
                 have BK519 := n1_
                 have HB := n2_
                 clear n0_ n1_ n2_
                 have p520 : 0 ≤ (x4_1 : Int) := of_decide_eq_true (by first | (with_reducible assumption) | assumption)
                 have q520 : x4_1 < (l0_1.length : Int) := of_decide_eq_true (by first | (with_reducible assumption) | assumption)
                 obtain ⟨ad520, e520, hx520_0, hx520_1⟩ := at_T57 HR0_1.out x4_1 p520 q520
                 have hw520_1 := hx520_1
                 have hw520_0 := hx520_0
                 cases e520
                 replace hx520_0 := (HB.out.cell (World.block_lt_of_cell? w _ hx520_0)).trans hx520_0
                 replace hx520_1 := (HB.out.cell (World.block_lt_of_cell? w _ hx520_1)).trans hx520_1
                 replace p520 := eq_true p520
                 replace q520 := eq_true q520
                 have p521 : 0 ≤ (x5_2 : Int) := of_decide_eq_true (by first | (with_reducible assumption) | assumption)
                 have q521 : x5_2 < (l0_3.length : Int) := of_decide_eq_true (by first | (with_reducible assumption) | assumption)
                 obtain ⟨ad521, e521, hx521_0⟩ := Kd.at_string HR0_3.out x5_2 p521 q521
                 have hw521_0 := hx521_0
                 cases e521
                 replace hx521_0 := (HB.out.cell (World.block_lt_of_cell? w _ hx521_0)).trans hx521_0
                 replace p521 := eq_true p521
                 replace q521 := eq_true q521
                 have p522 : 0 ≤ (x6_3 : Int) := of_decide_eq_true (by first | (with_reducible assumption) | assumption)
                 have q522 : x6_3 < (l0_0.length : Int) := of_decide_eq_true (by first | (with_reducible assumption) | assumption)
                 obtain ⟨ad522, e522, hx522_0⟩ := Kd.at_string HR0_0.out x6_3 p522 q522
                 have hw522_0 := hx522_0
                 cases e522
                 replace hx522_0 := (HB.out.cell (World.block_lt_of_cell? w _ hx522_0)).trans hx522_0
                 replace p522 := eq_true p522
                 replace q522 := eq_true q522
                 refine start_ (n := 19) (S := fun w' => w'.cell? ⟨gb519, 0, none⟩ = some (.slice (some ad522) l0_0.length c0_0) ∧ w'.cell? ⟨gb519, 1, none⟩ = some (.slice (some ad520) l0_1.length c0_1) ∧ w'.cell? ⟨gb519, 2, none⟩ = some (.slice A0_2 l0_2.length c0_2) ∧ w'.cell? ⟨gb519, 3, none⟩ = some (.slice (some ad521) l0_3.length c0_3) ∧ w'.cell? ⟨gb519, 4, none⟩ = some (.slice A0_4 l0_4.length c0_4) ∧ w'.cell? ⟨gb519, 5, none⟩ = some (.slice A0_5 l0_5.length c0_5) ∧ w'.cell? ⟨gb519, 6, none⟩ = some (.slice A0_6 l0_6.length c0_6) ∧ w'.cell? ⟨gb519, 7, none⟩ = some (.slice A0_7 l0_7.length c0_7) ∧ w'.cell? ⟨gb519, 8, none⟩ = some (.slice A0_8 l0_8.length c0_8) ∧ w'.cell? ⟨gb519, 9, none⟩ = some (.slice A0_9 l0_9.length c0_9) ∧ w'.cell? ⟨gb519, 10, none⟩ = some (.slice A0_10 l0_10.length c0_10) ∧ w'.cell? (ad520.add ((x4_1).toNat * 2)) = some (.string ((rd_T57 l0_1 x4_1).f0)) ∧ w'.cell? ⟨(ad520.add ((x4_1).toNat * 2)).block, (ad520.add ((x4_1).toNat * 2)).off + 1, none⟩ = some (.float .f64 ((rd_T57 l0_1 x4_1).f1)) ∧ w'.cell? (ad521.add (x5_2).toNat) = some (.string (rdOf ByteArray.empty l0_3 x5_2)) ∧ w'.cell? (ad522.add (x6_3).toNat) = some (.string (rdOf ByteArray.empty l0_0 x6_3))) (ds := []) #[false, false, false, false, false, false, false, false, false, false, false, false, false, false, false, false, false, false, false] (by kernel_rfl) rfl rfl ⟨(blk_cell BK519.out 0).trans rfl, (blk_cell BK519.out 1).trans rfl, (blk_cell BK519.out 2).trans rfl, (blk_cell BK519.out 3).trans rfl, (blk_cell BK519.out 4).trans rfl, (blk_cell BK519.out 5).trans rfl, (blk_cell BK519.out 6).trans rfl, (blk_cell BK519.out 7).trans rfl, (blk_cell BK519.out 8).trans rfl, (blk_cell BK519.out 9).trans rfl, (blk_cell BK519.out 10).trans rfl, ((HB.out.cell (World.block_lt_of_cell? w _ hw520_0)).trans hw520_0), ((HB.out.cell (World.block_lt_of_cell? w _ hw520_1)).trans hw520_1), ((HB.out.cell (World.block_lt_of_cell? w _ hw521_0)).trans hw521_0), ((HB.out.cell (World.block_lt_of_cell? w _ hw522_0)).trans hw522_0)⟩ (fun hHeld => ?_); refine with_tabW gatehouselaw08_all.tab11 gatehouselaw08_all.bits11 (fun HT_ HW_ => ?_)
                 generalize wr.drew = w30 at HO_3 BK519 HB hx520_0 hx520_1 hx521_0 hx522_0 hHeld ⊢
                 refine pure_ (i := 0) (N := some 30) (v := ?_) (a' := ?_) #[true, false, false, false, false, false, false, false, false, false, false, false, false, false, false, false, false, false, false] rfl rfl (any_of HT_.out (by kernel_rfl)) (fun _ _ _ h => h) (Or.inl ⟨by rfl, ?_⟩) ?_ ?_
                 rotate_left
                 ·intro w'
                  go_simp
                  with_reducible rfl
                 rotate_left
                 ·simp only [Act.put, List.setIfInBounds_toArray, List.set_cons_zero, List.set_cons_succ, i64_w, i32_w]
                  rfl
                 refine pure_ (i := 2) (N := some 32) (v := ?_) (a' := ?_) #[true, false, true, false, false, false, false, false, false, false, false, false, false, false, false, false, false, false, false] rfl rfl (any_of HT_.out (by kernel_rfl)) (fun _ _ _ h => h) (Or.inl ⟨by rfl, ?_⟩) ?_ ?_
                 rotate_left
                 ·intro w'
                  go_simp
                  with_reducible rfl
                 rotate_left
                 ·simp only [Act.put, List.setIfInBounds_toArray, List.set_cons_zero, List.set_cons_succ, i64_w, i32_w]
                  rfl
                 refine pure_ (i := 6) (N := some 36) (v := ?_) (a' := ?_) #[true, false, true, false, false, false, true, false, false, false, false, false, false, false, false, false, false, false, false] rfl rfl (any_of HT_.out (by kernel_rfl)) (fun _ _ _ h => h) (Or.inl ⟨by rfl, ?_⟩) ?_ ?_
                 rotate_left
                 ·intro w'
                  go_simp
                  with_reducible rfl
                 rotate_left
                 ·simp only [Act.put, List.setIfInBounds_toArray, List.set_cons_zero, List.set_cons_succ, i64_w, i32_w]
                  rfl
                 refine pure_ (i := 8) (N := some 38) (v := ?_) (a' := ?_) #[true, false, true, false, false, false, true, false, true, false, false, false, false, false, false, false, false, false, false] rfl rfl (any_of HT_.out (by kernel_rfl)) (fun _ _ _ h => h) (Or.inl ⟨by rfl, ?_⟩) ?_ ?_
                 rotate_left
                 ·intro w'
                  go_simp
                  with_reducible rfl
                 rotate_left
                 ·simp only [Act.put, List.setIfInBounds_toArray, List.set_cons_zero, List.set_cons_succ, i64_w, i32_w]
                  rfl
                 refine pure_ (i := 11) (N := some 41) (v := ?_) (a' := ?_) #[true, false, true, false, false, false, true, false, true, false, false, true, false, false, false, false, false, false, false] rfl rfl (any_of HT_.out (by kernel_rfl)) (fun _ _ _ h => h) (Or.inl ⟨by rfl, ?_⟩) ?_ ?_
                 rotate_left
                 ·intro w'
                  go_simp
                  with_reducible rfl
                 rotate_left
                 ·simp only [Act.put, List.setIfInBounds_toArray, List.set_cons_zero, List.set_cons_succ, i64_w, i32_w]
                  rfl
                 refine pure_ (i := 13) (N := some 43) (v := ?_) (a' := ?_) #[true, false, true, false, false, false, true, false, true, false, false, true, false, true, false, false, false, false, false] rfl rfl (any_of HT_.out (by kernel_rfl)) (fun _ _ _ h => h) (Or.inl ⟨by rfl, ?_⟩) ?_ ?_
                 rotate_left
                 ·intro w'
                  go_simp
                  with_reducible rfl
                 rotate_left
                 ·simp only [Act.put, List.setIfInBounds_toArray, List.set_cons_zero, List.set_cons_succ, i64_w, i32_w]
                  rfl
                 refine take_ (i := 1) (N := some 31) (v := ?_) (a' := ?_) #[true, true, true, false, false, false, true, false, true, false, false, true, false, true, false, false, false, false, false] rfl rfl (take_ofW HT_.out HW_.out (by kernel_rfl)) (fun _ _ _ h => h) (Or.inl ⟨by rfl, ?_⟩) hHeld ?_ ?_
                 rotate_left
                 ·rintro w' ⟨s0, s1, s2, s3, s4, s5, s6, s7, s8, s9, s10, s11, s12, s13, s14⟩
                  go_simp
                  with_reducible rfl
                 rotate_left
                 ·simp only [Act.put, List.setIfInBounds_toArray, List.set_cons_zero, List.set_cons_succ, i64_w, i32_w]
                  rfl
                 refine pure_ (i := 3) (N := some 33) (v := ?_) (a' := ?_) #[true, true, true, true, false, false, true, false, true, false, false, true, false, true, false, false, false, false, false] rfl rfl (any_of HT_.out (by kernel_rfl)) (fun _ _ _ h => h) (Or.inl ⟨by rfl, ?_⟩) ?_ ?_
                 rotate_left
                 ·intro w'
                  go_simp
                  with_reducible rfl
                 rotate_left
                 ·simp only [Act.put, List.setIfInBounds_toArray, List.set_cons_zero, List.set_cons_succ, i64_w, i32_w]
                  rfl
                 refine pure_ (i := 4) (N := some 34) (v := ?_) (a' := ?_) #[true, true, true, true, true, false, true, false, true, false, false, true, false, true, false, false, false, false, false] rfl rfl (any_of HT_.out (by kernel_rfl)) (fun _ _ _ h => h) (Or.inl ⟨by rfl, ?_⟩) ?_ ?_
                 rotate_left
                 ·intro w'
                  go_simp
                  with_reducible rfl
                 rotate_left
                 ·simp only [Act.put, List.setIfInBounds_toArray, List.set_cons_zero, List.set_cons_succ, i64_w, i32_w]
                  rfl
                 refine take_ (i := 5) (N := some 35) (v := ?_) (a' := ?_) #[true, true, true, true, true, true, true, false, true, false, false, true, false, true, false, false, false, false, false] rfl rfl (take_ofW HT_.out HW_.out (by kernel_rfl)) (fun _ _ _ h => h) (Or.inl ⟨by rfl, ?_⟩) hHeld ?_ ?_
                 rotate_left
                 ·rintro w' ⟨s0, s1, s2, s3, s4, s5, s6, s7, s8, s9, s10, s11, s12, s13, s14⟩
                  go_simp
                  with_reducible rfl
                 rotate_left
                 ·simp only [Act.put, List.setIfInBounds_toArray, List.set_cons_zero, List.set_cons_succ, i64_w, i32_w]
                  rfl
                 refine take_ (i := 7) (N := some 37) (v := ?_) (a' := ?_) #[true, true, true, true, true, true, true, true, true, false, false, true, false, true, false, false, false, false, false] rfl rfl (take_ofW HT_.out HW_.out (by kernel_rfl)) (fun _ _ _ h => h) (Or.inl ⟨by rfl, ?_⟩) hHeld ?_ ?_
                 rotate_left
                 ·rintro w' ⟨s0, s1, s2, s3, s4, s5, s6, s7, s8, s9, s10, s11, s12, s13, s14⟩
                  go_simp
                  with_reducible rfl
                 rotate_left
                 ·simp only [Act.put, List.setIfInBounds_toArray, List.set_cons_zero, List.set_cons_succ, i64_w, i32_w]
                  rfl
                 refine pure_ (i := 9) (N := some 39) (v := ?_) (a' := ?_) #[true, true, true, true, true, true, true, true, true, true, false, true, false, true, false, false, false, false, false] rfl rfl (any_of HT_.out (by kernel_rfl)) (fun _ _ _ h => h) (Or.inl ⟨by rfl, ?_⟩) ?_ ?_
                 rotate_left
                 ·intro w'
                  go_simp
                  with_reducible rfl
                 rotate_left
                 ·simp only [Act.put, List.setIfInBounds_toArray, List.set_cons_zero, List.set_cons_succ, i64_w, i32_w]
                  rfl
                 refine take_ (i := 10) (N := some 40) (v := ?_) (a' := ?_) #[true, true, true, true, true, true, true, true, true, true, true, true, false, true, false, false, false, false, false] rfl rfl (take_ofW HT_.out HW_.out (by kernel_rfl)) (fun _ _ _ h => h) (Or.inl ⟨by rfl, ?_⟩) hHeld ?_ ?_
                 rotate_left
                 ·rintro w' ⟨s0, s1, s2, s3, s4, s5, s6, s7, s8, s9, s10, s11, s12, s13, s14⟩
                  go_simp
                  with_reducible rfl
                 rotate_left
                 ·simp only [Act.put, List.setIfInBounds_toArray, List.set_cons_zero, List.set_cons_succ, i64_w, i32_w]
                  rfl
                 refine take_ (i := 12) (N := some 42) (v := ?_) (a' := ?_) #[true, true, true, true, true, true, true, true, true, true, true, true, true, true, false, false, false, false, false] rfl rfl (take_ofW HT_.out HW_.out (by kernel_rfl)) (fun _ _ _ h => h) (Or.inl ⟨by rfl, ?_⟩) hHeld ?_ ?_
                 rotate_left
                 ·rintro w' ⟨s0, s1, s2, s3, s4, s5, s6, s7, s8, s9, s10, s11, s12, s13, s14⟩
                  go_simp
                  with_reducible rfl
                 rotate_left
                 ·simp only [Act.put, List.setIfInBounds_toArray, List.set_cons_zero, List.set_cons_succ, i64_w, i32_w]
                  rfl
                 refine pure_ (i := 14) (N := some 44) (v := ?_) (a' := ?_) #[true, true, true, true, true, true, true, true, true, true, true, true, true, true, true, false, false, false, false] rfl rfl (any_of HT_.out (by kernel_rfl)) (fun _ _ _ h => h) (Or.inl ⟨by rfl, ?_⟩) ?_ ?_
                 rotate_left
                 ·intro w'
                  go_simp
                  with_reducible rfl
                 rotate_left
                 ·simp only [Act.put, List.setIfInBounds_toArray, List.set_cons_zero, List.set_cons_succ, i64_w, i32_w]
                  rfl
                 refine take_ (i := 15) (N := some 45) (v := ?_) (a' := ?_) #[true, true, true, true, true, true, true, true, true, true, true, true, true, true, true, true, false, false, false] rfl rfl (take_ofW HT_.out HW_.out (by kernel_rfl)) (fun _ _ _ h => h) (Or.inl ⟨by rfl, ?_⟩) hHeld ?_ ?_
                 rotate_left
                 ·rintro w' ⟨s0, s1, s2, s3, s4, s5, s6, s7, s8, s9, s10, s11, s12, s13, s14⟩
                  go_simp
                  with_reducible rfl
                 rotate_left
                 ·simp only [Act.put, List.setIfInBounds_toArray, List.set_cons_zero, List.set_cons_succ, i64_w, i32_w]
                  rfl
                 refine join_ (σ := Nat) 1 #[true, true, true, true, true, true, true, true, true, true, true, true, true, true, true, true, true, true, false] (fun s_ => [(46, .agg #[.string t523, .string t524, .string t525]), (7, .pointer (some ⟨s_, 0, none⟩))]) (fun s_ w' => (w'.cell? ⟨gb519, 0, none⟩ = some (.slice (some ad522) l0_0.length c0_0) ∧ w'.cell? ⟨gb519, 1, none⟩ = some (.slice (some ad520) l0_1.length c0_1) ∧ w'.cell? ⟨gb519, 2, none⟩ = some (.slice A0_2 l0_2.length c0_2) ∧ w'.cell? ⟨gb519, 3, none⟩ = some (.slice (some ad521) l0_3.length c0_3) ∧ w'.cell? ⟨gb519, 4, none⟩ = some (.slice A0_4 l0_4.length c0_4) ∧ w'.cell? ⟨gb519, 5, none⟩ = some (.slice A0_5 l0_5.length c0_5) ∧ w'.cell? ⟨gb519, 6, none⟩ = some (.slice A0_6 l0_6.length c0_6) ∧ w'.cell? ⟨gb519, 7, none⟩ = some (.slice A0_7 l0_7.length c0_7) ∧ w'.cell? ⟨gb519, 8, none⟩ = some (.slice A0_8 l0_8.length c0_8) ∧ w'.cell? ⟨gb519, 9, none⟩ = some (.slice A0_9 l0_9.length c0_9) ∧ w'.cell? ⟨gb519, 10, none⟩ = some (.slice A0_10 l0_10.length c0_10) ∧ w'.cell? (ad520.add ((x4_1).toNat * 2)) = some (.string ((rd_T57 l0_1 x4_1).f0)) ∧ w'.cell? ⟨(ad520.add ((x4_1).toNat * 2)).block, (ad520.add ((x4_1).toNat * 2)).off + 1, none⟩ = some (.float .f64 ((rd_T57 l0_1 x4_1).f1)) ∧ w'.cell? (ad521.add (x5_2).toNat) = some (.string (rdOf ByteArray.empty l0_3 x5_2)) ∧ w'.cell? (ad522.add (x6_3).toNat) = some (.string (rdOf ByteArray.empty l0_0 x6_3))) ∧ (Kd.R k36 36 w' w.heap.size (fun k_ => k_ ≠ s_) u3 x3_3) ∧ (w'.heap[gb519]? = some (.cells #[.slice (some ad522) l0_0.length c0_0, .slice (some ad520) l0_1.length c0_1, .slice A0_2 l0_2.length c0_2, .slice (some ad521) l0_3.length c0_3, .slice A0_4 l0_4.length c0_4, .slice A0_5 l0_5.length c0_5, .slice A0_6 l0_6.length c0_6, .slice A0_7 l0_7.length c0_7, .slice A0_8 l0_8.length c0_8, .slice A0_9 l0_9.length c0_9, .slice A0_10 l0_10.length c0_10] 34 (0, 0))) ∧ (w'.heap[s_]? = some (.cells #[.string (⟨#[]⟩ : ByteArray), .string (⟨#[]⟩ : ByteArray), .string (⟨#[]⟩ : ByteArray)] 36 (0, 0))) ∧ (w.heap.size ≤ s_) ∧ (w.heap.size ≤ s_) ∧ (gb519 ≠ s_) ∧ (s_ ≠ gb519) ∧ (Below w.heap.size w w')) ?_ ?_
                 rotate_left
                 ·intro hCont
                  refine two_ (i := 16) (j := 17) (Ni := some 46) (Nj := some 7) #[true, true, true, true, true, true, true, true, true, true, true, true, true, true, true, true, true, false, false] #[true, true, true, true, true, true, true, true, true, true, true, true, true, true, true, true, false, true, false] rfl rfl rfl rfl (two_of HT_.out (by kernel_rfl)) (by decide) (by decide) (fun K hK => ?_) (fun K hK => ?_)
                  ·skip
                   refine goes_ Try.func40 (by kernel_rfl) rfl #[.string ((rd_T57 l0_1 x4_1).f0), .string (rdOf ByteArray.empty l0_3 x5_2), .string (rdOf ByteArray.empty l0_0 x6_3)] (by rfl) rfl rfl (by (try simp only [List.map_toArray, List.map_cons, List.map_nil]); first | done | rfl | (simp only [List.length_drop, List.length_take]; rfl)) ?_
                   with_reducible refine (gatehouselaw08_tri.calls ((rd_T57 l0_1 x4_1).f0) (rdOf ByteArray.empty l0_3 x5_2) (rdOf ByteArray.empty l0_0 x6_3) t523 t524 t525 _ A13.out).mono ?_
                   rintro e w31 ⟨rfl, hb⟩
                   refine ⟨_, rfl, ?_⟩
                   have n0_ := Aside0.mk (Kd.R_below (by (with_reducible repeat (first | apply Kd.R_alloc | apply Kd.R_drewN | apply Kd.R_drew)); exact HO_3.out) hb)
                   have n1_ := Aside0.mk (blk_below (g := gb519) (o := .cells #[.slice (some ad522) l0_0.length c0_0, .slice (some ad520) l0_1.length c0_1, .slice A0_2 l0_2.length c0_2, .slice (some ad521) l0_3.length c0_3, .slice A0_4 l0_4.length c0_4, .slice A0_5 l0_5.length c0_5, .slice A0_6 l0_6.length c0_6, .slice A0_7 l0_7.length c0_7, .slice A0_8 l0_8.length c0_8, .slice A0_9 l0_9.length c0_9, .slice A0_10 l0_10.length c0_10] 34 (0, 0)) (by (with_reducible repeat (first | refine blk_drewN ?_ _ | refine blk_drew ?_ | refine blk_alloc ?_ _)); exact BK519.out) hb)
                   have n2_ := Aside0.mk (below_step (by repeat (first | (with_reducible first | exact HB.out | apply below_alloc | apply pw_below_drewN | apply below_drew1 | refine below_set ?_ GE519.out) | exact HB.out)) hb)
                   clear HO_3
                   clear BK519
                   clear HB
                   have HO_3 := n0_
                   have BK519 := n1_
                   have HB := n2_
                   clear n0_ n1_ n2_
                   (try clear hb)
                   (try clear hb2)
                   (try clear hk)
                   (try clear hi)
                   refine hK.out _ _ ⟨(blk_cell BK519.out 0).trans rfl, (blk_cell BK519.out 1).trans rfl, (blk_cell BK519.out 2).trans rfl, (blk_cell BK519.out 3).trans rfl, (blk_cell BK519.out 4).trans rfl, (blk_cell BK519.out 5).trans rfl, (blk_cell BK519.out 6).trans rfl, (blk_cell BK519.out 7).trans rfl, (blk_cell BK519.out 8).trans rfl, (blk_cell BK519.out 9).trans rfl, (blk_cell BK519.out 10).trans rfl, ((HB.out.cell (World.block_lt_of_cell? w _ hw520_0)).trans hw520_0), ((HB.out.cell (World.block_lt_of_cell? w _ hw520_1)).trans hw520_1), ((HB.out.cell (World.block_lt_of_cell? w _ hw521_0)).trans hw521_0), ((HB.out.cell (World.block_lt_of_cell? w _ hw522_0)).trans hw522_0)⟩ (fun hHeld => ?_)
                   clear hK K
                   refine norm_ (a' := ?_) ?_ ?_
                   rotate_left
                   ·show Act.put _ (some 46) _ = _
                    simp only [Act.put, List.setIfInBounds_toArray, List.set_cons_zero, List.set_cons_succ, i64_w, i32_w]
                    rfl
                   refine one_ (i := 17) (N := some 7) #[true, true, true, true, true, true, true, true, true, true, true, true, true, true, true, true, true, true, false] rfl rfl (one_of HT_.out (by kernel_rfl)) (by decide) (fun K hK => ?_)
                   refine box_step ?hg (N := 7) ?hd (cs := #[.string (⟨#[]⟩ : ByteArray), .string (⟨#[]⟩ : ByteArray), .string (⟨#[]⟩ : ByteArray)]) (t := 36) ?hr ?_; (case hd => rfl); (case hg => rfl); (case hr => first | (go_simp; done) | (go_simp; rfl))
                   intro gb526 hg w32 hbox hb
                   have n0_ := Aside0.mk (Kd.R_below (Kd.R_elderB (by (with_reducible repeat (first | apply Kd.R_alloc | apply Kd.R_drewN | apply Kd.R_drew)); exact HO_3.out) gb526 (Nat.le_of_eq hg.symm)) hb)
                   have n1_ := Aside0.mk (blk_below (g := gb519) (o := .cells #[.slice (some ad522) l0_0.length c0_0, .slice (some ad520) l0_1.length c0_1, .slice A0_2 l0_2.length c0_2, .slice (some ad521) l0_3.length c0_3, .slice A0_4 l0_4.length c0_4, .slice A0_5 l0_5.length c0_5, .slice A0_6 l0_6.length c0_6, .slice A0_7 l0_7.length c0_7, .slice A0_8 l0_8.length c0_8, .slice A0_9 l0_9.length c0_9, .slice A0_10 l0_10.length c0_10] 34 (0, 0)) (by (with_reducible repeat (first | refine blk_drewN ?_ _ | refine blk_drew ?_ | refine blk_alloc ?_ _)); exact BK519.out) hb)
                   have n2_ := Aside0.mk (below_step (by repeat (first | (with_reducible first | exact HB.out | apply below_alloc | apply pw_below_drewN | apply below_drew1 | refine below_set ?_ GE519.out) | exact HB.out)) hb)
                   have n3_ := Aside0.mk (hbox)
                   have n4_ := Aside0.mk ((by rw [hg]; exact (below_size (by repeat (first | (with_reducible first | exact HB.out | apply below_alloc | apply pw_below_drewN | apply below_drew1 | refine below_set ?_ GE519.out) | exact HB.out))) : w.heap.size ≤ gb526))
                   have n5_ := Aside0.mk ((by rw [hg]; exact (below_size (by repeat (first | (with_reducible first | exact HB.out | apply below_alloc | apply pw_below_drewN | apply below_drew1 | refine below_set ?_ GE519.out) | exact HB.out))) : w.heap.size ≤ gb526))
                   have n6_ := Aside0.mk ((by rw [hg]; exact Nat.ne_of_lt (blk_lt (g := gb519) (o := .cells #[.slice (some ad522) l0_0.length c0_0, .slice (some ad520) l0_1.length c0_1, .slice A0_2 l0_2.length c0_2, .slice (some ad521) l0_3.length c0_3, .slice A0_4 l0_4.length c0_4, .slice A0_5 l0_5.length c0_5, .slice A0_6 l0_6.length c0_6, .slice A0_7 l0_7.length c0_7, .slice A0_8 l0_8.length c0_8, .slice A0_9 l0_9.length c0_9, .slice A0_10 l0_10.length c0_10] 34 (0, 0)) (by (with_reducible repeat (first | refine blk_drewN ?_ _ | refine blk_drew ?_ | refine blk_alloc ?_ _)); exact BK519.out)) : gb519 ≠ gb526))
                   have n7_ := Aside0.mk ((by rw [hg]; exact Nat.ne_of_gt (blk_lt (g := gb519) (o := .cells #[.slice (some ad522) l0_0.length c0_0, .slice (some ad520) l0_1.length c0_1, .slice A0_2 l0_2.length c0_2, .slice (some ad521) l0_3.length c0_3, .slice A0_4 l0_4.length c0_4, .slice A0_5 l0_5.length c0_5, .slice A0_6 l0_6.length c0_6, .slice A0_7 l0_7.length c0_7, .slice A0_8 l0_8.length c0_8, .slice A0_9 l0_9.length c0_9, .slice A0_10 l0_10.length c0_10] 34 (0, 0)) (by (with_reducible repeat (first | refine blk_drewN ?_ _ | refine blk_drew ?_ | refine blk_alloc ?_ _)); exact BK519.out)) : gb526 ≠ gb519))
                   clear HO_3
                   clear BK519
                   clear HB
                   have HO_3 := n0_
                   have BK519 := n1_
                   have HB := n2_
                   have BK526 := n3_
                   have GW526 := n4_
                   have GE526 := n5_
                   have NB519_526 := n6_
                   have NB526_519 := n7_
                   clear n0_ n1_ n2_ n3_ n4_ n5_ n6_ n7_
                   clear hb hbox hg
                   refine hK.out _ _ ⟨(blk_cell BK519.out 0).trans rfl, (blk_cell BK519.out 1).trans rfl, (blk_cell BK519.out 2).trans rfl, (blk_cell BK519.out 3).trans rfl, (blk_cell BK519.out 4).trans rfl, (blk_cell BK519.out 5).trans rfl, (blk_cell BK519.out 6).trans rfl, (blk_cell BK519.out 7).trans rfl, (blk_cell BK519.out 8).trans rfl, (blk_cell BK519.out 9).trans rfl, (blk_cell BK519.out 10).trans rfl, ((HB.out.cell (World.block_lt_of_cell? w _ hw520_0)).trans hw520_0), ((HB.out.cell (World.block_lt_of_cell? w _ hw520_1)).trans hw520_1), ((HB.out.cell (World.block_lt_of_cell? w _ hw521_0)).trans hw521_0), ((HB.out.cell (World.block_lt_of_cell? w _ hw522_0)).trans hw522_0)⟩ (fun hHeld => ?_)
                   clear hK K
                   refine norm_ (a' := ?_) ?_ ?_
                   rotate_left
                   ·show Act.put _ (some 7) _ = _
                    simp only [Act.put, List.setIfInBounds_toArray, List.set_cons_zero, List.set_cons_succ, i64_w, i32_w]
                    rfl
                   exact norm_ (by simp only [putAll, Act.put, List.setIfInBounds_toArray, List.set_cons_zero, List.set_cons_succ]) (hCont (gb526) _ ⟨hHeld, (by (with_reducible repeat (first | apply Kd.R_alloc | apply Kd.R_drewN | apply Kd.R_drew)); exact Kd.R_mono HO_3.out (fun _ hk => hk.2)), (by (with_reducible repeat (first | refine blk_drewN ?_ _ | refine blk_drew ?_ | refine blk_alloc ?_ _)); exact BK519.out), (by (with_reducible repeat (first | refine blk_drewN ?_ _ | refine blk_drew ?_ | refine blk_alloc ?_ _)); exact BK526.out), GW526.out, GE526.out, NB519_526.out, NB526_519.out, (by repeat (first | (with_reducible first | exact HB.out | apply below_alloc | apply pw_below_drewN | apply below_drew1 | refine below_set ?_ GE519.out | refine below_set ?_ GE526.out) | exact HB.out))⟩)
                  ·skip
                   refine box_step ?hg (N := 7) ?hd (cs := #[.string (⟨#[]⟩ : ByteArray), .string (⟨#[]⟩ : ByteArray), .string (⟨#[]⟩ : ByteArray)]) (t := 36) ?hr ?_; (case hd => rfl); (case hg => rfl); (case hr => first | (go_simp; done) | (go_simp; rfl))
                   intro gb526 hg w31 hbox hb
                   have n0_ := Aside0.mk (Kd.R_below (Kd.R_elderB (by (with_reducible repeat (first | apply Kd.R_alloc | apply Kd.R_drewN | apply Kd.R_drew)); exact HO_3.out) gb526 (Nat.le_of_eq hg.symm)) hb)
                   have n1_ := Aside0.mk (blk_below (g := gb519) (o := .cells #[.slice (some ad522) l0_0.length c0_0, .slice (some ad520) l0_1.length c0_1, .slice A0_2 l0_2.length c0_2, .slice (some ad521) l0_3.length c0_3, .slice A0_4 l0_4.length c0_4, .slice A0_5 l0_5.length c0_5, .slice A0_6 l0_6.length c0_6, .slice A0_7 l0_7.length c0_7, .slice A0_8 l0_8.length c0_8, .slice A0_9 l0_9.length c0_9, .slice A0_10 l0_10.length c0_10] 34 (0, 0)) (by (with_reducible repeat (first | refine blk_drewN ?_ _ | refine blk_drew ?_ | refine blk_alloc ?_ _)); exact BK519.out) hb)
                   have n2_ := Aside0.mk (below_step (by repeat (first | (with_reducible first | exact HB.out | apply below_alloc | apply pw_below_drewN | apply below_drew1 | refine below_set ?_ GE519.out) | exact HB.out)) hb)
                   have n3_ := Aside0.mk (hbox)
                   have n4_ := Aside0.mk ((by rw [hg]; exact (below_size (by repeat (first | (with_reducible first | exact HB.out | apply below_alloc | apply pw_below_drewN | apply below_drew1 | refine below_set ?_ GE519.out) | exact HB.out))) : w.heap.size ≤ gb526))
                   have n5_ := Aside0.mk ((by rw [hg]; exact (below_size (by repeat (first | (with_reducible first | exact HB.out | apply below_alloc | apply pw_below_drewN | apply below_drew1 | refine below_set ?_ GE519.out) | exact HB.out))) : w.heap.size ≤ gb526))
                   have n6_ := Aside0.mk ((by rw [hg]; exact Nat.ne_of_lt (blk_lt (g := gb519) (o := .cells #[.slice (some ad522) l0_0.length c0_0, .slice (some ad520) l0_1.length c0_1, .slice A0_2 l0_2.length c0_2, .slice (some ad521) l0_3.length c0_3, .slice A0_4 l0_4.length c0_4, .slice A0_5 l0_5.length c0_5, .slice A0_6 l0_6.length c0_6, .slice A0_7 l0_7.length c0_7, .slice A0_8 l0_8.length c0_8, .slice A0_9 l0_9.length c0_9, .slice A0_10 l0_10.length c0_10] 34 (0, 0)) (by (with_reducible repeat (first | refine blk_drewN ?_ _ | refine blk_drew ?_ | refine blk_alloc ?_ _)); exact BK519.out)) : gb519 ≠ gb526))
                   have n7_ := Aside0.mk ((by rw [hg]; exact Nat.ne_of_gt (blk_lt (g := gb519) (o := .cells #[.slice (some ad522) l0_0.length c0_0, .slice (some ad520) l0_1.length c0_1, .slice A0_2 l0_2.length c0_2, .slice (some ad521) l0_3.length c0_3, .slice A0_4 l0_4.length c0_4, .slice A0_5 l0_5.length c0_5, .slice A0_6 l0_6.length c0_6, .slice A0_7 l0_7.length c0_7, .slice A0_8 l0_8.length c0_8, .slice A0_9 l0_9.length c0_9, .slice A0_10 l0_10.length c0_10] 34 (0, 0)) (by (with_reducible repeat (first | refine blk_drewN ?_ _ | refine blk_drew ?_ | refine blk_alloc ?_ _)); exact BK519.out)) : gb526 ≠ gb519))
                   clear HO_3
                   clear BK519
                   clear HB
                   have HO_3 := n0_
                   have BK519 := n1_
                   have HB := n2_
                   have BK526 := n3_
                   have GW526 := n4_
                   have GE526 := n5_
                   have NB519_526 := n6_
                   have NB526_519 := n7_
                   clear n0_ n1_ n2_ n3_ n4_ n5_ n6_ n7_
                   clear hb hbox hg
                   refine hK.out _ _ ⟨(blk_cell BK519.out 0).trans rfl, (blk_cell BK519.out 1).trans rfl, (blk_cell BK519.out 2).trans rfl, (blk_cell BK519.out 3).trans rfl, (blk_cell BK519.out 4).trans rfl, (blk_cell BK519.out 5).trans rfl, (blk_cell BK519.out 6).trans rfl, (blk_cell BK519.out 7).trans rfl, (blk_cell BK519.out 8).trans rfl, (blk_cell BK519.out 9).trans rfl, (blk_cell BK519.out 10).trans rfl, ((HB.out.cell (World.block_lt_of_cell? w _ hw520_0)).trans hw520_0), ((HB.out.cell (World.block_lt_of_cell? w _ hw520_1)).trans hw520_1), ((HB.out.cell (World.block_lt_of_cell? w _ hw521_0)).trans hw521_0), ((HB.out.cell (World.block_lt_of_cell? w _ hw522_0)).trans hw522_0)⟩ (fun hHeld => ?_)
                   clear hK K
                   refine norm_ (a' := ?_) ?_ ?_
                   rotate_left
                   ·show Act.put _ (some 7) _ = _
                    simp only [Act.put, List.setIfInBounds_toArray, List.set_cons_zero, List.set_cons_succ, i64_w, i32_w]
                    rfl
                   refine one_ (i := 16) (N := some 46) #[true, true, true, true, true, true, true, true, true, true, true, true, true, true, true, true, true, true, false] rfl rfl (one_of HT_.out (by kernel_rfl)) (by decide) (fun K hK => ?_)
                   refine goes_ Try.func40 (by kernel_rfl) rfl #[.string ((rd_T57 l0_1 x4_1).f0), .string (rdOf ByteArray.empty l0_3 x5_2), .string (rdOf ByteArray.empty l0_0 x6_3)] (by rfl) rfl rfl (by (try simp only [List.map_toArray, List.map_cons, List.map_nil]); first | done | rfl | (simp only [List.length_drop, List.length_take]; rfl)) ?_
                   with_reducible refine (gatehouselaw08_tri.calls ((rd_T57 l0_1 x4_1).f0) (rdOf ByteArray.empty l0_3 x5_2) (rdOf ByteArray.empty l0_0 x6_3) t523 t524 t525 _ A13.out).mono ?_
                   rintro e w32 ⟨rfl, hb⟩
                   refine ⟨_, rfl, ?_⟩
                   have n0_ := Aside0.mk (Kd.R_below (by (with_reducible repeat (first | apply Kd.R_alloc | apply Kd.R_drewN | apply Kd.R_drew)); exact HO_3.out) hb)
                   have n1_ := Aside0.mk (blk_below (g := gb519) (o := .cells #[.slice (some ad522) l0_0.length c0_0, .slice (some ad520) l0_1.length c0_1, .slice A0_2 l0_2.length c0_2, .slice (some ad521) l0_3.length c0_3, .slice A0_4 l0_4.length c0_4, .slice A0_5 l0_5.length c0_5, .slice A0_6 l0_6.length c0_6, .slice A0_7 l0_7.length c0_7, .slice A0_8 l0_8.length c0_8, .slice A0_9 l0_9.length c0_9, .slice A0_10 l0_10.length c0_10] 34 (0, 0)) (by (with_reducible repeat (first | refine blk_drewN ?_ _ | refine blk_drew ?_ | refine blk_alloc ?_ _)); exact BK519.out) hb)
                   have n2_ := Aside0.mk (blk_below (g := gb526) (o := .cells #[.string (⟨#[]⟩ : ByteArray), .string (⟨#[]⟩ : ByteArray), .string (⟨#[]⟩ : ByteArray)] 36 (0, 0)) (by (with_reducible repeat (first | refine blk_drewN ?_ _ | refine blk_drew ?_ | refine blk_alloc ?_ _)); exact BK526.out) hb)
                   have n3_ := Aside0.mk (below_step (by repeat (first | (with_reducible first | exact HB.out | apply below_alloc | apply pw_below_drewN | apply below_drew1 | refine below_set ?_ GE519.out | refine below_set ?_ GE526.out) | exact HB.out)) hb)
                   clear HO_3
                   clear BK519
                   clear BK526
                   clear HB
                   have HO_3 := n0_
                   have BK519 := n1_
                   have BK526 := n2_
                   have HB := n3_
                   clear n0_ n1_ n2_ n3_
                   (try clear hb)
                   (try clear hb2)
                   (try clear hk)
                   (try clear hi)
                   refine hK.out _ _ ⟨(blk_cell BK519.out 0).trans rfl, (blk_cell BK519.out 1).trans rfl, (blk_cell BK519.out 2).trans rfl, (blk_cell BK519.out 3).trans rfl, (blk_cell BK519.out 4).trans rfl, (blk_cell BK519.out 5).trans rfl, (blk_cell BK519.out 6).trans rfl, (blk_cell BK519.out 7).trans rfl, (blk_cell BK519.out 8).trans rfl, (blk_cell BK519.out 9).trans rfl, (blk_cell BK519.out 10).trans rfl, ((HB.out.cell (World.block_lt_of_cell? w _ hw520_0)).trans hw520_0), ((HB.out.cell (World.block_lt_of_cell? w _ hw520_1)).trans hw520_1), ((HB.out.cell (World.block_lt_of_cell? w _ hw521_0)).trans hw521_0), ((HB.out.cell (World.block_lt_of_cell? w _ hw522_0)).trans hw522_0)⟩ (fun hHeld => ?_)
                   clear hK K
                   refine norm_ (a' := ?_) ?_ ?_
                   rotate_left
                   ·show Act.put _ (some 46) _ = _
                    simp only [Act.put, List.setIfInBounds_toArray, List.set_cons_zero, List.set_cons_succ, i64_w, i32_w]
                    rfl
                   exact norm_ (by simp only [putAll, Act.put, List.setIfInBounds_toArray, List.set_cons_zero, List.set_cons_succ]) (hCont (gb526) _ ⟨hHeld, (by (with_reducible repeat (first | apply Kd.R_alloc | apply Kd.R_drewN | apply Kd.R_drew)); exact Kd.R_mono HO_3.out (fun _ hk => hk.2)), (by (with_reducible repeat (first | refine blk_drewN ?_ _ | refine blk_drew ?_ | refine blk_alloc ?_ _)); exact BK519.out), (by (with_reducible repeat (first | refine blk_drewN ?_ _ | refine blk_drew ?_ | refine blk_alloc ?_ _)); exact BK526.out), GW526.out, GE526.out, NB519_526.out, NB526_519.out, (by repeat (first | (with_reducible first | exact HB.out | apply below_alloc | apply pw_below_drewN | apply below_drew1 | refine below_set ?_ GE519.out | refine below_set ?_ GE526.out) | exact HB.out))⟩)
                 rintro gb526 w33 ⟨hS_, h0_, h1_, h2_, h3_, h4_, h5_, h6_, h7_⟩
                 have n0_ : Aside0 (Kd.R k36 36 w33 w.heap.size (fun k_ => k_ ≠ gb526) u3 x3_3) := ⟨h0_⟩
                 have n1_ : Aside0 (w33.heap[gb519]? = some (.cells #[.slice (some ad522) l0_0.length c0_0, .slice (some ad520) l0_1.length c0_1, .slice A0_2 l0_2.length c0_2, .slice (some ad521) l0_3.length c0_3, .slice A0_4 l0_4.length c0_4, .slice A0_5 l0_5.length c0_5, .slice A0_6 l0_6.length c0_6, .slice A0_7 l0_7.length c0_7, .slice A0_8 l0_8.length c0_8, .slice A0_9 l0_9.length c0_9, .slice A0_10 l0_10.length c0_10] 34 (0, 0))) := ⟨h1_⟩
                 have n2_ : Aside0 (w33.heap[gb526]? = some (.cells #[.string (⟨#[]⟩ : ByteArray), .string (⟨#[]⟩ : ByteArray), .string (⟨#[]⟩ : ByteArray)] 36 (0, 0))) := ⟨h2_⟩
                 have n3_ : Aside0 (w.heap.size ≤ gb526) := ⟨h3_⟩
                 have n4_ : Aside0 (w.heap.size ≤ gb526) := ⟨h4_⟩
                 have n5_ : Aside0 (gb519 ≠ gb526) := ⟨h5_⟩
                 have n6_ : Aside0 (gb526 ≠ gb519) := ⟨h6_⟩
                 have n7_ : Aside0 (Below w.heap.size w w33) := ⟨h7_⟩
                 clear HO_3
                 clear BK519
                 clear HB
                 clear h0_ h1_ h2_ h3_ h4_ h5_ h6_ h7_
                 have HO_3 := n0_
                 have BK519 := n1_
                 have BK526 := n2_
                 have GW526 := n3_
                 have GE526 := n4_
                 have NB519_526 := n5_
                 have NB526_519 := n6_
                 have HB := n7_
                 clear n0_ n1_ n2_ n3_ n4_ n5_ n6_ n7_
                 have hHeld : w33.cell? ⟨gb519, 0, none⟩ = some (.slice (some ad522) l0_0.length c0_0) ∧ w33.cell? ⟨gb519, 1, none⟩ = some (.slice (some ad520) l0_1.length c0_1) ∧ w33.cell? ⟨gb519, 2, none⟩ = some (.slice A0_2 l0_2.length c0_2) ∧ w33.cell? ⟨gb519, 3, none⟩ = some (.slice (some ad521) l0_3.length c0_3) ∧ w33.cell? ⟨gb519, 4, none⟩ = some (.slice A0_4 l0_4.length c0_4) ∧ w33.cell? ⟨gb519, 5, none⟩ = some (.slice A0_5 l0_5.length c0_5) ∧ w33.cell? ⟨gb519, 6, none⟩ = some (.slice A0_6 l0_6.length c0_6) ∧ w33.cell? ⟨gb519, 7, none⟩ = some (.slice A0_7 l0_7.length c0_7) ∧ w33.cell? ⟨gb519, 8, none⟩ = some (.slice A0_8 l0_8.length c0_8) ∧ w33.cell? ⟨gb519, 9, none⟩ = some (.slice A0_9 l0_9.length c0_9) ∧ w33.cell? ⟨gb519, 10, none⟩ = some (.slice A0_10 l0_10.length c0_10) ∧ w33.cell? (ad520.add ((x4_1).toNat * 2)) = some (.string ((rd_T57 l0_1 x4_1).f0)) ∧ w33.cell? ⟨(ad520.add ((x4_1).toNat * 2)).block, (ad520.add ((x4_1).toNat * 2)).off + 1, none⟩ = some (.float .f64 ((rd_T57 l0_1 x4_1).f1)) ∧ w33.cell? (ad521.add (x5_2).toNat) = some (.string (rdOf ByteArray.empty l0_3 x5_2)) ∧ w33.cell? (ad522.add (x6_3).toNat) = some (.string (rdOf ByteArray.empty l0_0 x6_3)) := hS_
                 refine norm_ (a' := ?_) ?_ ?_
                 rotate_left
                 ·simp only [putAll, Act.put, List.setIfInBounds_toArray, List.set_cons_zero, List.set_cons_succ]
                  rfl
                 refine one_ (i := 18) (N := none) #[true, true, true, true, true, true, true, true, true, true, true, true, true, true, true, true, true, true, true] rfl rfl (one_of HT_.out (by kernel_rfl)) (by decide) (fun K hK => ?_)
                 have hs34 : w33.cell? ⟨gb526, 0, none⟩ = some (.string (⟨#[]⟩ : ByteArray)) := (blk_cell BK526.out 0).trans rfl
                 have hfs34 := blk_frozen BK526.out 0
                 have hns34_0 := NB519_526.out
                 have hms34_0 := NB526_519.out
                 have hs35 : w33.cell? ⟨gb526, 1, none⟩ = some (.string (⟨#[]⟩ : ByteArray)) := (blk_cell BK526.out 1).trans rfl
                 have hfs35 := blk_frozen BK526.out 1
                 have hns35_0 := NB519_526.out
                 have hms35_0 := NB526_519.out
                 have hs36 : w33.cell? ⟨gb526, 2, none⟩ = some (.string (⟨#[]⟩ : ByteArray)) := (blk_cell BK526.out 2).trans rfl
                 have hfs36 := blk_frozen BK526.out 2
                 have hns36_0 := NB519_526.out
                 have hms36_0 := NB526_519.out
                 refine skip_ (w1 := ?_) (by rfl) rfl ?_ ?_
                 rotate_left
                 ·go_simp
                  rfl
                 refine hK.out _ _ ⟨((cell_far (p := ⟨gb526, _, none⟩) NB519_526.out _).trans (((cell_far (p := ⟨gb526, _, none⟩) NB519_526.out _).trans (((cell_far (p := ⟨gb526, _, none⟩) NB519_526.out _).trans (hHeld.1)))))), ((cell_far (p := ⟨gb526, _, none⟩) NB519_526.out _).trans (((cell_far (p := ⟨gb526, _, none⟩) NB519_526.out _).trans (((cell_far (p := ⟨gb526, _, none⟩) NB519_526.out _).trans (hHeld.2.1)))))), ((cell_far (p := ⟨gb526, _, none⟩) NB519_526.out _).trans (((cell_far (p := ⟨gb526, _, none⟩) NB519_526.out _).trans (((cell_far (p := ⟨gb526, _, none⟩) NB519_526.out _).trans (hHeld.2.2.1)))))), ((cell_far (p := ⟨gb526, _, none⟩) NB519_526.out _).trans (((cell_far (p := ⟨gb526, _, none⟩) NB519_526.out _).trans (((cell_far (p := ⟨gb526, _, none⟩) NB519_526.out _).trans (hHeld.2.2.2.1)))))), ((cell_far (p := ⟨gb526, _, none⟩) NB519_526.out _).trans (((cell_far (p := ⟨gb526, _, none⟩) NB519_526.out _).trans (((cell_far (p := ⟨gb526, _, none⟩) NB519_526.out _).trans (hHeld.2.2.2.2.1)))))), ((cell_far (p := ⟨gb526, _, none⟩) NB519_526.out _).trans (((cell_far (p := ⟨gb526, _, none⟩) NB519_526.out _).trans (((cell_far (p := ⟨gb526, _, none⟩) NB519_526.out _).trans (hHeld.2.2.2.2.2.1)))))), ((cell_far (p := ⟨gb526, _, none⟩) NB519_526.out _).trans (((cell_far (p := ⟨gb526, _, none⟩) NB519_526.out _).trans (((cell_far (p := ⟨gb526, _, none⟩) NB519_526.out _).trans (hHeld.2.2.2.2.2.2.1)))))), ((cell_far (p := ⟨gb526, _, none⟩) NB519_526.out _).trans (((cell_far (p := ⟨gb526, _, none⟩) NB519_526.out _).trans (((cell_far (p := ⟨gb526, _, none⟩) NB519_526.out _).trans (hHeld.2.2.2.2.2.2.2.1)))))), ((cell_far (p := ⟨gb526, _, none⟩) NB519_526.out _).trans (((cell_far (p := ⟨gb526, _, none⟩) NB519_526.out _).trans (((cell_far (p := ⟨gb526, _, none⟩) NB519_526.out _).trans (hHeld.2.2.2.2.2.2.2.2.1)))))), ((cell_far (p := ⟨gb526, _, none⟩) NB519_526.out _).trans (((cell_far (p := ⟨gb526, _, none⟩) NB519_526.out _).trans (((cell_far (p := ⟨gb526, _, none⟩) NB519_526.out _).trans (hHeld.2.2.2.2.2.2.2.2.2.1)))))), ((cell_far (p := ⟨gb526, _, none⟩) NB519_526.out _).trans (((cell_far (p := ⟨gb526, _, none⟩) NB519_526.out _).trans (((cell_far (p := ⟨gb526, _, none⟩) NB519_526.out _).trans (hHeld.2.2.2.2.2.2.2.2.2.2.1)))))), ((cell_far (p := ⟨gb526, _, none⟩) (by first | exact Nat.ne_of_lt (Nat.lt_of_lt_of_le (by have := World.block_lt_of_cell? _ _ hw520_0; first | rwa [add_block] at this | exact this) GW526.out) | (rw [add_block]; exact Nat.ne_of_lt (Nat.lt_of_lt_of_le (by have := World.block_lt_of_cell? _ _ hw520_0; first | rwa [add_block] at this | exact this) GW526.out)) | (show (Addr.add _ _).block ≠ _; rw [add_block]; exact Nat.ne_of_lt (Nat.lt_of_lt_of_le (by have := World.block_lt_of_cell? _ _ hw520_0; first | rwa [add_block] at this | exact this) GW526.out)) | (dsimp only; exact Nat.ne_of_lt (Nat.lt_of_lt_of_le (by have := World.block_lt_of_cell? _ _ hw520_0; first | rwa [add_block] at this | exact this) GW526.out))) _).trans (((cell_far (p := ⟨gb526, _, none⟩) (by first | exact Nat.ne_of_lt (Nat.lt_of_lt_of_le (by have := World.block_lt_of_cell? _ _ hw520_0; first | rwa [add_block] at this | exact this) GW526.out) | (rw [add_block]; exact Nat.ne_of_lt (Nat.lt_of_lt_of_le (by have := World.block_lt_of_cell? _ _ hw520_0; first | rwa [add_block] at this | exact this) GW526.out)) | (show (Addr.add _ _).block ≠ _; rw [add_block]; exact Nat.ne_of_lt (Nat.lt_of_lt_of_le (by have := World.block_lt_of_cell? _ _ hw520_0; first | rwa [add_block] at this | exact this) GW526.out)) | (dsimp only; exact Nat.ne_of_lt (Nat.lt_of_lt_of_le (by have := World.block_lt_of_cell? _ _ hw520_0; first | rwa [add_block] at this | exact this) GW526.out))) _).trans (((cell_far (p := ⟨gb526, _, none⟩) (by first | exact Nat.ne_of_lt (Nat.lt_of_lt_of_le (by have := World.block_lt_of_cell? _ _ hw520_0; first | rwa [add_block] at this | exact this) GW526.out) | (rw [add_block]; exact Nat.ne_of_lt (Nat.lt_of_lt_of_le (by have := World.block_lt_of_cell? _ _ hw520_0; first | rwa [add_block] at this | exact this) GW526.out)) | (show (Addr.add _ _).block ≠ _; rw [add_block]; exact Nat.ne_of_lt (Nat.lt_of_lt_of_le (by have := World.block_lt_of_cell? _ _ hw520_0; first | rwa [add_block] at this | exact this) GW526.out)) | (dsimp only; exact Nat.ne_of_lt (Nat.lt_of_lt_of_le (by have := World.block_lt_of_cell? _ _ hw520_0; first | rwa [add_block] at this | exact this) GW526.out))) _).trans (hHeld.2.2.2.2.2.2.2.2.2.2.2.1)))))), ((cell_far (p := ⟨gb526, _, none⟩) (by first | exact Nat.ne_of_lt (Nat.lt_of_lt_of_le (by have := World.block_lt_of_cell? _ _ hw520_1; first | rwa [add_block] at this | exact this) GW526.out) | (rw [add_block]; exact Nat.ne_of_lt (Nat.lt_of_lt_of_le (by have := World.block_lt_of_cell? _ _ hw520_1; first | rwa [add_block] at this | exact this) GW526.out)) | (show (Addr.add _ _).block ≠ _; rw [add_block]; exact Nat.ne_of_lt (Nat.lt_of_lt_of_le (by have := World.block_lt_of_cell? _ _ hw520_1; first | rwa [add_block] at this | exact this) GW526.out)) | (dsimp only; exact Nat.ne_of_lt (Nat.lt_of_lt_of_le (by have := World.block_lt_of_cell? _ _ hw520_1; first | rwa [add_block] at this | exact this) GW526.out))) _).trans (((cell_far (p := ⟨gb526, _, none⟩) (by first | exact Nat.ne_of_lt (Nat.lt_of_lt_of_le (by have := World.block_lt_of_cell? _ _ hw520_1; first | rwa [add_block] at this | exact this) GW526.out) | (rw [add_block]; exact Nat.ne_of_lt (Nat.lt_of_lt_of_le (by have := World.block_lt_of_cell? _ _ hw520_1; first | rwa [add_block] at this | exact this) GW526.out)) | (show (Addr.add _ _).block ≠ _; rw [add_block]; exact Nat.ne_of_lt (Nat.lt_of_lt_of_le (by have := World.block_lt_of_cell? _ _ hw520_1; first | rwa [add_block] at this | exact this) GW526.out)) | (dsimp only; exact Nat.ne_of_lt (Nat.lt_of_lt_of_le (by have := World.block_lt_of_cell? _ _ hw520_1; first | rwa [add_block] at this | exact this) GW526.out))) _).trans (((cell_far (p := ⟨gb526, _, none⟩) (by first | exact Nat.ne_of_lt (Nat.lt_of_lt_of_le (by have := World.block_lt_of_cell? _ _ hw520_1; first | rwa [add_block] at this | exact this) GW526.out) | (rw [add_block]; exact Nat.ne_of_lt (Nat.lt_of_lt_of_le (by have := World.block_lt_of_cell? _ _ hw520_1; first | rwa [add_block] at this | exact this) GW526.out)) | (show (Addr.add _ _).block ≠ _; rw [add_block]; exact Nat.ne_of_lt (Nat.lt_of_lt_of_le (by have := World.block_lt_of_cell? _ _ hw520_1; first | rwa [add_block] at this | exact this) GW526.out)) | (dsimp only; exact Nat.ne_of_lt (Nat.lt_of_lt_of_le (by have := World.block_lt_of_cell? _ _ hw520_1; first | rwa [add_block] at this | exact this) GW526.out))) _).trans (hHeld.2.2.2.2.2.2.2.2.2.2.2.2.1)))))), ((cell_far (p := ⟨gb526, _, none⟩) (by first | exact Nat.ne_of_lt (Nat.lt_of_lt_of_le (by have := World.block_lt_of_cell? _ _ hw521_0; first | rwa [add_block] at this | exact this) GW526.out) | (rw [add_block]; exact Nat.ne_of_lt (Nat.lt_of_lt_of_le (by have := World.block_lt_of_cell? _ _ hw521_0; first | rwa [add_block] at this | exact this) GW526.out)) | (show (Addr.add _ _).block ≠ _; rw [add_block]; exact Nat.ne_of_lt (Nat.lt_of_lt_of_le (by have := World.block_lt_of_cell? _ _ hw521_0; first | rwa [add_block] at this | exact this) GW526.out)) | (dsimp only; exact Nat.ne_of_lt (Nat.lt_of_lt_of_le (by have := World.block_lt_of_cell? _ _ hw521_0; first | rwa [add_block] at this | exact this) GW526.out))) _).trans (((cell_far (p := ⟨gb526, _, none⟩) (by first | exact Nat.ne_of_lt (Nat.lt_of_lt_of_le (by have := World.block_lt_of_cell? _ _ hw521_0; first | rwa [add_block] at this | exact this) GW526.out) | (rw [add_block]; exact Nat.ne_of_lt (Nat.lt_of_lt_of_le (by have := World.block_lt_of_cell? _ _ hw521_0; first | rwa [add_block] at this | exact this) GW526.out)) | (show (Addr.add _ _).block ≠ _; rw [add_block]; exact Nat.ne_of_lt (Nat.lt_of_lt_of_le (by have := World.block_lt_of_cell? _ _ hw521_0; first | rwa [add_block] at this | exact this) GW526.out)) | (dsimp only; exact Nat.ne_of_lt (Nat.lt_of_lt_of_le (by have := World.block_lt_of_cell? _ _ hw521_0; first | rwa [add_block] at this | exact this) GW526.out))) _).trans (((cell_far (p := ⟨gb526, _, none⟩) (by first | exact Nat.ne_of_lt (Nat.lt_of_lt_of_le (by have := World.block_lt_of_cell? _ _ hw521_0; first | rwa [add_block] at this | exact this) GW526.out) | (rw [add_block]; exact Nat.ne_of_lt (Nat.lt_of_lt_of_le (by have := World.block_lt_of_cell? _ _ hw521_0; first | rwa [add_block] at this | exact this) GW526.out)) | (show (Addr.add _ _).block ≠ _; rw [add_block]; exact Nat.ne_of_lt (Nat.lt_of_lt_of_le (by have := World.block_lt_of_cell? _ _ hw521_0; first | rwa [add_block] at this | exact this) GW526.out)) | (dsimp only; exact Nat.ne_of_lt (Nat.lt_of_lt_of_le (by have := World.block_lt_of_cell? _ _ hw521_0; first | rwa [add_block] at this | exact this) GW526.out))) _).trans (hHeld.2.2.2.2.2.2.2.2.2.2.2.2.2.1)))))), ((cell_far (p := ⟨gb526, _, none⟩) (by first | exact Nat.ne_of_lt (Nat.lt_of_lt_of_le (by have := World.block_lt_of_cell? _ _ hw522_0; first | rwa [add_block] at this | exact this) GW526.out) | (rw [add_block]; exact Nat.ne_of_lt (Nat.lt_of_lt_of_le (by have := World.block_lt_of_cell? _ _ hw522_0; first | rwa [add_block] at this | exact this) GW526.out)) | (show (Addr.add _ _).block ≠ _; rw [add_block]; exact Nat.ne_of_lt (Nat.lt_of_lt_of_le (by have := World.block_lt_of_cell? _ _ hw522_0; first | rwa [add_block] at this | exact this) GW526.out)) | (dsimp only; exact Nat.ne_of_lt (Nat.lt_of_lt_of_le (by have := World.block_lt_of_cell? _ _ hw522_0; first | rwa [add_block] at this | exact this) GW526.out))) _).trans (((cell_far (p := ⟨gb526, _, none⟩) (by first | exact Nat.ne_of_lt (Nat.lt_of_lt_of_le (by have := World.block_lt_of_cell? _ _ hw522_0; first | rwa [add_block] at this | exact this) GW526.out) | (rw [add_block]; exact Nat.ne_of_lt (Nat.lt_of_lt_of_le (by have := World.block_lt_of_cell? _ _ hw522_0; first | rwa [add_block] at this | exact this) GW526.out)) | (show (Addr.add _ _).block ≠ _; rw [add_block]; exact Nat.ne_of_lt (Nat.lt_of_lt_of_le (by have := World.block_lt_of_cell? _ _ hw522_0; first | rwa [add_block] at this | exact this) GW526.out)) | (dsimp only; exact Nat.ne_of_lt (Nat.lt_of_lt_of_le (by have := World.block_lt_of_cell? _ _ hw522_0; first | rwa [add_block] at this | exact this) GW526.out))) _).trans (((cell_far (p := ⟨gb526, _, none⟩) (by first | exact Nat.ne_of_lt (Nat.lt_of_lt_of_le (by have := World.block_lt_of_cell? _ _ hw522_0; first | rwa [add_block] at this | exact this) GW526.out) | (rw [add_block]; exact Nat.ne_of_lt (Nat.lt_of_lt_of_le (by have := World.block_lt_of_cell? _ _ hw522_0; first | rwa [add_block] at this | exact this) GW526.out)) | (show (Addr.add _ _).block ≠ _; rw [add_block]; exact Nat.ne_of_lt (Nat.lt_of_lt_of_le (by have := World.block_lt_of_cell? _ _ hw522_0; first | rwa [add_block] at this | exact this) GW526.out)) | (dsimp only; exact Nat.ne_of_lt (Nat.lt_of_lt_of_le (by have := World.block_lt_of_cell? _ _ hw522_0; first | rwa [add_block] at this | exact this) GW526.out))) _).trans (hHeld.2.2.2.2.2.2.2.2.2.2.2.2.2.2))))))⟩ (fun hHeld => ?_)
                 clear hK K
                 refine done_ (done_of HT_.out (by kernel_rfl)) ?_
                 have hnb37 := NB526_519.out
                 have hnc37 := NB519_526.out
                 have hcz38_0 : w33.cell? ⟨gb526, 0, none⟩ = some (.string (⟨#[]⟩ : ByteArray)) := (blk_cell BK526.out 0).trans rfl
                 have hcz38_1 : w33.cell? ⟨gb526, 1, none⟩ = some (.string (⟨#[]⟩ : ByteArray)) := (blk_cell BK526.out 1).trans rfl
                 have hcz38_2 : w33.cell? ⟨gb526, 2, none⟩ = some (.string (⟨#[]⟩ : ByteArray)) := (blk_cell BK526.out 2).trans rfl
                 have hfz38_0 := blk_frozen BK526.out 0
                 have hfz38_1 := blk_frozen BK526.out 1
                 have hfz38_2 := blk_frozen BK526.out 2
                 obtain ⟨Ao39, co39, eo39⟩ := Kd.R_slice HO_3.out
                 subst eo39
                 try go_wp2_with (first | ((with_reducible refine gate_callee (f := 32) rfl ?_); refine goesL_ (some 49) rfl rfl Try.func32 (by kernel_rfl) rfl #[.slice Ao39 x3_3.length co39, .agg #[.string t523, .string t524, .string t525]] rfl (by (try simp only [List.map_toArray, List.map_cons, List.map_nil]); first | done | rfl | (simp only [List.length_drop, List.length_take]; rfl)) ?_; (with_reducible refine (gatehouselaw08_has.calls k3 _ _ x3_3 t523 t524 t525 false _ ?side1 ?side2 A14.out).mono ?_); (case side1 => refine (Kd.R_reads' (e := 36) (base := w.heap.size) (ok := fun k_ => k_ ≠ gb526) (n := x3_3.length) (c := co39) ?_).2.2; exact (by (with_reducible repeat (first | apply Kd.R_alloc | apply Kd.R_drewN | apply Kd.R_drew)); exact (Kd.R_mono (Kd.R_far (p := ⟨gb526, 2, none⟩) (Kd.R_far (p := ⟨gb526, 1, none⟩) (Kd.R_far (p := ⟨gb526, 0, none⟩) (Kd.R_mono HO_3.out (fun k_ hk => (⟨hk, hk⟩ : _ ∧ k_ ≠ gb526))) (fun _ hk => hk.2) (.string t523)) (fun _ hk => hk.2) (.string t524)) (fun _ hk => hk.2) (.string t525)) (fun _ h_ => h_.1)))); (case side2 => exact (Kd.R_reads' HO_3.out).2.1); rintro e w40 ⟨rfl, hb⟩; refine ⟨_, rfl, ?_⟩; have n0_ := Aside0.mk (Kd.R_below (by (with_reducible repeat (first | apply Kd.R_alloc | apply Kd.R_drewN | apply Kd.R_drew)); exact (Kd.R_mono (Kd.R_far (p := ⟨gb526, 2, none⟩) (Kd.R_far (p := ⟨gb526, 1, none⟩) (Kd.R_far (p := ⟨gb526, 0, none⟩) (Kd.R_mono HO_3.out (fun k_ hk => (⟨hk, hk⟩ : _ ∧ k_ ≠ gb526))) (fun _ hk => hk.2) (.string t523)) (fun _ hk => hk.2) (.string t524)) (fun _ hk => hk.2) (.string t525)) (fun _ h_ => h_.1))) hb); have n1_ := Aside0.mk (blk_below (g := gb519) (o := .cells #[.slice (some ad522) l0_0.length c0_0, .slice (some ad520) l0_1.length c0_1, .slice A0_2 l0_2.length c0_2, .slice (some ad521) l0_3.length c0_3, .slice A0_4 l0_4.length c0_4, .slice A0_5 l0_5.length c0_5, .slice A0_6 l0_6.length c0_6, .slice A0_7 l0_7.length c0_7, .slice A0_8 l0_8.length c0_8, .slice A0_9 l0_9.length c0_9, .slice A0_10 l0_10.length c0_10] 34 (0, 0)) (by (with_reducible repeat (first | refine blk_drewN ?_ _ | refine blk_drew ?_ | refine blk_alloc ?_ _)); refine blk_far ?_ NB519_526.out _; (with_reducible repeat (first | refine blk_drewN ?_ _ | refine blk_drew ?_ | refine blk_alloc ?_ _)); refine blk_far ?_ NB519_526.out _; (with_reducible repeat (first | refine blk_drewN ?_ _ | refine blk_drew ?_ | refine blk_alloc ?_ _)); refine blk_far ?_ NB519_526.out _; (with_reducible repeat (first | refine blk_drewN ?_ _ | refine blk_drew ?_ | refine blk_alloc ?_ _)); exact BK519.out) hb); have n2_ := Aside0.mk (blk_below (g := gb526) (o := .cells #[.string t523, .string t524, .string t525] 36 (0, 0)) (by (with_reducible repeat (first | refine blk_drewN ?_ _ | refine blk_drew ?_ | refine blk_alloc ?_ _)); refine blk_put (cs := #[.string t523, .string t524, .string (⟨#[]⟩ : ByteArray)]) ?_ 2 _ rfl; (with_reducible repeat (first | refine blk_drewN ?_ _ | refine blk_drew ?_ | refine blk_alloc ?_ _)); refine blk_put (cs := #[.string t523, .string (⟨#[]⟩ : ByteArray), .string (⟨#[]⟩ : ByteArray)]) ?_ 1 _ rfl; (with_reducible repeat (first | refine blk_drewN ?_ _ | refine blk_drew ?_ | refine blk_alloc ?_ _)); refine blk_put (cs := #[.string (⟨#[]⟩ : ByteArray), .string (⟨#[]⟩ : ByteArray), .string (⟨#[]⟩ : ByteArray)]) ?_ 0 _ rfl; (with_reducible repeat (first | refine blk_drewN ?_ _ | refine blk_drew ?_ | refine blk_alloc ?_ _)); exact BK526.out) hb); have n3_ := Aside0.mk (below_step (by repeat (first | (with_reducible first | exact HB.out | apply below_alloc | apply pw_below_drewN | apply below_drew1 | refine below_set ?_ GE519.out | refine below_set ?_ GE526.out) | exact HB.out)) hb); clear HO_3; clear BK519; clear BK526; clear HB; have HO_3 := n0_; have BK519 := n1_; have BK526 := n2_; have HB := n3_; clear n0_ n1_ n2_ n3_; (try clear hb); (try clear hb2); (try clear hk); (try clear hi); have hcz41_0 : w40.cell? ⟨gb526, 0, none⟩ = some (.string t523) := (blk_cell BK526.out 0).trans rfl; have hcz41_1 : w40.cell? ⟨gb526, 1, none⟩ = some (.string t524) := (blk_cell BK526.out 1).trans rfl; have hcz41_2 : w40.cell? ⟨gb526, 2, none⟩ = some (.string t525) := (blk_cell BK526.out 2).trans rfl; have hfz41_0 := blk_frozen BK526.out 0; have hfz41_1 := blk_frozen BK526.out 1; have hfz41_2 := blk_frozen BK526.out 2) | ((with_reducible refine gate_builtin (b := .append) (xs := #[.tmp 52, .tmp 54]) rfl ?_); at_builtin; refine Kd.R_append k36 (w0 := w) w.heap.size rfl (.tmp 52) (.tmp 54) 32 36 (.agg #[(.string ⟨#[]⟩), (.string ⟨#[]⟩), (.string ⟨#[]⟩)]) 48 rfl Try.underlying32 info36 rfl (by decide) (by omega) (.slice Ao39 x3_3.length co39) x3_3 (⟨t523, t524, t525⟩ : S36) [.string t523, .string t524, .string t525] (fun k_ => k_ ≠ gb526) (fun _ => False) rfl rfl ?aP (fun _ hk => hk.elim) ?aF ?aO ?aB ?aS ?aL ?_; (case aP => exact k36_mkM _ _ _ (⟨t523, t524, t525⟩ : S36)); (case aB => exact (by repeat (first | (with_reducible first | exact HB.out | apply below_alloc | apply pw_below_drewN | apply below_drew1 | refine below_set ?_ GE519.out | refine below_set ?_ GE526.out) | exact HB.out))); (case aF => exact (fun k_ hk => Kd.freshB (g := gb526) (o := .cells #[.string t523, .string t524, .string t525] 36 (0, 0)) (by (with_reducible repeat (first | refine blk_drewN ?_ _ | refine blk_drew ?_ | refine blk_alloc ?_ _)); exact BK526.out) k_ hk)); (case aO => exact (by (with_reducible repeat (first | apply Kd.R_alloc | apply Kd.R_drewN | apply Kd.R_drew)); exact HO_3.out)); (case aS => exact (below_size (by repeat (first | (with_reducible first | exact HB.out | apply below_alloc | apply pw_below_drewN | apply below_drew1 | refine below_set ?_ GE519.out | refine below_set ?_ GE526.out) | exact HB.out)))); (case aL => have := LMc28.out; omega); intro v529 w42 ho hb hg hat; rw [← Ny528.out] at ho; have n0_ := Aside0.mk (blk_grown (g := gb519) (o := .cells #[.slice (some ad522) l0_0.length c0_0, .slice (some ad520) l0_1.length c0_1, .slice A0_2 l0_2.length c0_2, .slice (some ad521) l0_3.length c0_3, .slice A0_4 l0_4.length c0_4, .slice A0_5 l0_5.length c0_5, .slice A0_6 l0_6.length c0_6, .slice A0_7 l0_7.length c0_7, .slice A0_8 l0_8.length c0_8, .slice A0_9 l0_9.length c0_9, .slice A0_10 l0_10.length c0_10] 34 (0, 0)) (by (with_reducible repeat (first | refine blk_drewN ?_ _ | refine blk_drew ?_ | refine blk_alloc ?_ _)); exact BK519.out) hg (Kd.R_ne HO_3.out BK519.out (by decide))); have n1_ := Aside0.mk (blk_grown (g := gb526) (o := .cells #[.string t523, .string t524, .string t525] 36 (0, 0)) (by (with_reducible repeat (first | refine blk_drewN ?_ _ | refine blk_drew ?_ | refine blk_alloc ?_ _)); exact BK526.out) hg (Kd.R_away HO_3.out (fun _ hk => hk))); have n2_ := Aside0.mk (hb); have n3_ := Aside0.mk (ho); clear BK519; clear BK526; clear HB; clear HO_3; have BK519 := n0_; have BK526 := n1_; have HB := n2_; have HO530 := n3_; clear n0_ n1_ n2_ n3_; clear ho hb hg hat))
                 go_roundg k3
                 case measure => have := HK1.out; have := HK2.out; have := HK3.out; omega
                 case rel => exact ⟨(y528), (wrap64 (x6_3 + 1)), (by first | rfl | (simp; done) | (simp [*]; done)), H', ⟨by have := HK1.out; have := HK2.out; have := HK3.out; omega⟩, ⟨by (with_reducible repeat (first | apply Kd.R_alloc | apply Kd.R_drewN | apply Kd.R_drew)); exact Kd.R_mono HO530.out (fun _ hk => trivial)⟩, ⟨by (with_reducible repeat (first | refine blk_drewN ?_ _ | refine blk_drew ?_ | refine blk_alloc ?_ _)); exact BK519.out⟩, ⟨by repeat (first | (with_reducible first | exact HB.out | apply below_alloc | apply pw_below_drewN | apply below_drew1 | refine below_set ?_ GE519.out | refine below_set ?_ GE526.out) | exact HB.out)⟩⟩
                ·rw [if_neg c28] at H
                 exact absurd H (by simp)
              ·rw [if_neg c12] at H
               exact absurd H (by simp)
             ·rw [if_neg c11] at H
              exact absurd H (by simp)
            ·rw [if_neg c10] at H
             exact absurd H (by simp)
           ·rw [if_neg c9] at H
            exact absurd H (by simp)
          ·rw [if_neg c8] at H
           exact absurd H (by simp)
         ·rw [if_neg c7] at H
          have c7b0 : decide (x6_3 < (l0_0.length : Int)) = false := decide_eq_false c7
          clear c7
          have H' := Aside0.mk H
          clear H
          have hcz43_0 : wr.cell? ⟨gb519, 0, none⟩ = some (.slice A0_0 l0_0.length c0_0) := (blk_cell BK519.out 0).trans rfl
          have hcz43_1 : wr.cell? ⟨gb519, 1, none⟩ = some (.slice A0_1 l0_1.length c0_1) := (blk_cell BK519.out 1).trans rfl
          have hcz43_2 : wr.cell? ⟨gb519, 2, none⟩ = some (.slice A0_2 l0_2.length c0_2) := (blk_cell BK519.out 2).trans rfl
          have hcz43_3 : wr.cell? ⟨gb519, 3, none⟩ = some (.slice A0_3 l0_3.length c0_3) := (blk_cell BK519.out 3).trans rfl
          have hcz43_4 : wr.cell? ⟨gb519, 4, none⟩ = some (.slice A0_4 l0_4.length c0_4) := (blk_cell BK519.out 4).trans rfl
          have hcz43_5 : wr.cell? ⟨gb519, 5, none⟩ = some (.slice A0_5 l0_5.length c0_5) := (blk_cell BK519.out 5).trans rfl
          have hcz43_6 : wr.cell? ⟨gb519, 6, none⟩ = some (.slice A0_6 l0_6.length c0_6) := (blk_cell BK519.out 6).trans rfl
          have hcz43_7 : wr.cell? ⟨gb519, 7, none⟩ = some (.slice A0_7 l0_7.length c0_7) := (blk_cell BK519.out 7).trans rfl
          have hcz43_8 : wr.cell? ⟨gb519, 8, none⟩ = some (.slice A0_8 l0_8.length c0_8) := (blk_cell BK519.out 8).trans rfl
          have hcz43_9 : wr.cell? ⟨gb519, 9, none⟩ = some (.slice A0_9 l0_9.length c0_9) := (blk_cell BK519.out 9).trans rfl
          have hcz43_10 : wr.cell? ⟨gb519, 10, none⟩ = some (.slice A0_10 l0_10.length c0_10) := (blk_cell BK519.out 10).trans rfl
          have hfz43_0 := blk_frozen BK519.out 0
          have hfz43_1 := blk_frozen BK519.out 1
          have hfz43_2 := blk_frozen BK519.out 2
          have hfz43_3 := blk_frozen BK519.out 3
          have hfz43_4 := blk_frozen BK519.out 4
          have hfz43_5 := blk_frozen BK519.out 5
          have hfz43_6 := blk_frozen BK519.out 6
          have hfz43_7 := blk_frozen BK519.out 7
          have hfz43_8 := blk_frozen BK519.out 8
          have hfz43_9 := blk_frozen BK519.out 9
          have hfz43_10 := blk_frozen BK519.out 10
          go_wp2
          go_roundg k3
          case measure => have := HK1.out; have := HK2.out; have := HK3.out; omega
          case rel => exact ⟨(x3_3), (wrap64 (x5_2 + 1)), (by first | rfl | (simp; done) | (simp [*]; done)), H', ⟨by have := HK1.out; have := HK2.out; have := HK3.out; omega⟩, ⟨by (with_reducible repeat (first | apply Kd.R_alloc | apply Kd.R_drewN | apply Kd.R_drew)); exact HO_3.out⟩, ⟨by (with_reducible repeat (first | refine blk_drewN ?_ _ | refine blk_drew ?_ | refine blk_alloc ?_ _)); exact BK519.out⟩, ⟨by repeat (first | (with_reducible first | exact HB.out | apply below_alloc | apply pw_below_drewN | apply below_drew1 | refine below_set ?_ GE519.out) | exact HB.out)⟩⟩
      ·rw [if_neg c5] at H
       have c5b0 : decide (x5_2 < (l0_3.length : Int)) = false := decide_eq_false c5
       clear c5
       have H' := Aside0.mk H
       clear H
       have hcz44_0 : wr.cell? ⟨gb519, 0, none⟩ = some (.slice A0_0 l0_0.length c0_0) := (blk_cell BK519.out 0).trans rfl
       have hcz44_1 : wr.cell? ⟨gb519, 1, none⟩ = some (.slice A0_1 l0_1.length c0_1) := (blk_cell BK519.out 1).trans rfl
       have hcz44_2 : wr.cell? ⟨gb519, 2, none⟩ = some (.slice A0_2 l0_2.length c0_2) := (blk_cell BK519.out 2).trans rfl
       have hcz44_3 : wr.cell? ⟨gb519, 3, none⟩ = some (.slice A0_3 l0_3.length c0_3) := (blk_cell BK519.out 3).trans rfl
       have hcz44_4 : wr.cell? ⟨gb519, 4, none⟩ = some (.slice A0_4 l0_4.length c0_4) := (blk_cell BK519.out 4).trans rfl
       have hcz44_5 : wr.cell? ⟨gb519, 5, none⟩ = some (.slice A0_5 l0_5.length c0_5) := (blk_cell BK519.out 5).trans rfl
       have hcz44_6 : wr.cell? ⟨gb519, 6, none⟩ = some (.slice A0_6 l0_6.length c0_6) := (blk_cell BK519.out 6).trans rfl
       have hcz44_7 : wr.cell? ⟨gb519, 7, none⟩ = some (.slice A0_7 l0_7.length c0_7) := (blk_cell BK519.out 7).trans rfl
       have hcz44_8 : wr.cell? ⟨gb519, 8, none⟩ = some (.slice A0_8 l0_8.length c0_8) := (blk_cell BK519.out 8).trans rfl
       have hcz44_9 : wr.cell? ⟨gb519, 9, none⟩ = some (.slice A0_9 l0_9.length c0_9) := (blk_cell BK519.out 9).trans rfl
       have hcz44_10 : wr.cell? ⟨gb519, 10, none⟩ = some (.slice A0_10 l0_10.length c0_10) := (blk_cell BK519.out 10).trans rfl
       have hfz44_0 := blk_frozen BK519.out 0
       have hfz44_1 := blk_frozen BK519.out 1
       have hfz44_2 := blk_frozen BK519.out 2
       have hfz44_3 := blk_frozen BK519.out 3
       have hfz44_4 := blk_frozen BK519.out 4
       have hfz44_5 := blk_frozen BK519.out 5
       have hfz44_6 := blk_frozen BK519.out 6
       have hfz44_7 := blk_frozen BK519.out 7
       have hfz44_8 := blk_frozen BK519.out 8
       have hfz44_9 := blk_frozen BK519.out 9
       have hfz44_10 := blk_frozen BK519.out 10
       go_wp2
       go_roundg k2
       case measure => have := HK1.out; have := HK2.out; omega
       case rel => exact ⟨(x3_2), (wrap64 (x4_1 + 1)), (by first | rfl | (simp; done) | (simp [*]; done)), H', ⟨by have := HK1.out; have := HK2.out; omega⟩, ⟨by (with_reducible repeat (first | apply Kd.R_alloc | apply Kd.R_drewN | apply Kd.R_drew)); exact HO_3.out⟩, ⟨by (with_reducible repeat (first | refine blk_drewN ?_ _ | refine blk_drew ?_ | refine blk_alloc ?_ _)); exact BK519.out⟩, ⟨by repeat (first | (with_reducible first | exact HB.out | apply below_alloc | apply pw_below_drewN | apply below_drew1 | refine below_set ?_ GE519.out) | exact HB.out)⟩⟩
   ·rw [if_neg c3] at H
    have c3b0 : decide (x4_1 < (l0_1.length : Int)) = false := decide_eq_false c3
    clear c3
    obtain rfl := Option.some.inj H
    have hcz45_0 : wr.cell? ⟨gb519, 0, none⟩ = some (.slice A0_0 l0_0.length c0_0) := (blk_cell BK519.out 0).trans rfl
    have hcz45_1 : wr.cell? ⟨gb519, 1, none⟩ = some (.slice A0_1 l0_1.length c0_1) := (blk_cell BK519.out 1).trans rfl
    have hcz45_2 : wr.cell? ⟨gb519, 2, none⟩ = some (.slice A0_2 l0_2.length c0_2) := (blk_cell BK519.out 2).trans rfl
    have hcz45_3 : wr.cell? ⟨gb519, 3, none⟩ = some (.slice A0_3 l0_3.length c0_3) := (blk_cell BK519.out 3).trans rfl
    have hcz45_4 : wr.cell? ⟨gb519, 4, none⟩ = some (.slice A0_4 l0_4.length c0_4) := (blk_cell BK519.out 4).trans rfl
    have hcz45_5 : wr.cell? ⟨gb519, 5, none⟩ = some (.slice A0_5 l0_5.length c0_5) := (blk_cell BK519.out 5).trans rfl
    have hcz45_6 : wr.cell? ⟨gb519, 6, none⟩ = some (.slice A0_6 l0_6.length c0_6) := (blk_cell BK519.out 6).trans rfl
    have hcz45_7 : wr.cell? ⟨gb519, 7, none⟩ = some (.slice A0_7 l0_7.length c0_7) := (blk_cell BK519.out 7).trans rfl
    have hcz45_8 : wr.cell? ⟨gb519, 8, none⟩ = some (.slice A0_8 l0_8.length c0_8) := (blk_cell BK519.out 8).trans rfl
    have hcz45_9 : wr.cell? ⟨gb519, 9, none⟩ = some (.slice A0_9 l0_9.length c0_9) := (blk_cell BK519.out 9).trans rfl
    have hcz45_10 : wr.cell? ⟨gb519, 10, none⟩ = some (.slice A0_10 l0_10.length c0_10) := (blk_cell BK519.out 10).trans rfl
    have hfz45_0 := blk_frozen BK519.out 0
    have hfz45_1 := blk_frozen BK519.out 1
    have hfz45_2 := blk_frozen BK519.out 2
    have hfz45_3 := blk_frozen BK519.out 3
    have hfz45_4 := blk_frozen BK519.out 4
    have hfz45_5 := blk_frozen BK519.out 5
    have hfz45_6 := blk_frozen BK519.out 6
    have hfz45_7 := blk_frozen BK519.out 7
    have hfz45_8 := blk_frozen BK519.out 8
    have hfz45_9 := blk_frozen BK519.out 9
    have hfz45_10 := blk_frozen BK519.out 10
    go_wp2
    go_ret
    exact ⟨_, by first | rfl | (simp [errW_none, errW_some] <;> rfl) | (simp [*, errW_none, errW_some] <;> rfl), by (with_reducible repeat (first | apply Kd.R_alloc | apply Kd.R_drewN | apply Kd.R_drew)); exact HO_3.out, by repeat (first | (with_reducible first | exact HB.out | apply below_alloc | apply pw_below_drewN | apply below_drew1 | refine below_set ?_ GE519.out) | exact HB.out)⟩

end Go.Proofs.Ytnkdcekddhmjnaa.F
