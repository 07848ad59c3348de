import Derived.Test.YteefneemmdfncaaF0
import Derived.Test.YteefneemmdfncaaF7
import Derived.Test.YteefneemmdfncaaF2
import Derived.Test.YteefneemmdfncaaF8
import Derived.Test.YteefneemmdfncaaF9
-- Written by a program of this session (mk.py over the kit's print, turned for floats and for contracts given by hand). Not trusted: Lean checks it.
namespace Go.Proofs.Yteefneemmdfncaa.F
open Go.RowKit Go.Proofs.YteefneemmdfncaaW.PrintWords Go.Proofs.YteefneemmdfncaaW.PrintLast Go.Proofs.YteefneemmdfncaaW.PrintMore
attribute [local go_sem] max2_int min2_int max_two min_two max_three min_three max_four min_four   -- for this text's walks alone
attribute [local go_sem] flt_eql flt_neq flt_lss flt_leq flt_gtr flt_geq run_store_float
set_option linter.unusedVariables false
set_option linter.unusedSimpArgs false

attribute [local go_sem high] eqA30 eqA53
/-! ### mean_once: function 90 -/
def mean_once.l0 : Nat → List ByteArray → List ByteArray → Int → Int → Option (List ByteArray)
 | 0, _, _, _, _ => none
 | k + 1, x3, x6, x7, x8 => if x8 < x7 then (if 0 ≤ x8 then (if x8 < (x6.length : Int) then ((slices_Contains_string_string.f k x3 (rdOf ByteArray.empty x6 x8)).bind fun t602 => (if t602 = true then (mean_once.l0 k x3 x6 x7 (wrap64 (x8 + 1))) else (if x3.length < 8796093022208 then (mean_once.l0 k (x3 ++ [rdOf ByteArray.empty x6 x8]) x6 x7 (wrap64 (x8 + 1))) else (none)))) else (none)) else (none)) else (some x3)
def mean_once.f (k : Nat) (l0 : List ByteArray) : Option (List ByteArray) := mean_once.l0 k ([] : List ByteArray) l0 (l0.length : Int) 0
set_option maxHeartbeats 8000000 in
set_option maxRecDepth 100000 in
theorem mean_once.calls (k : Nat) (A0 : Option Addr) (c0 : Nat) (l0 : List ByteArray) (r : List ByteArray) (w : World) (hr0 : Kd.C Kd.string w A0 l0.length l0) (hc0 : l0.length ≤ c0) (h : mean_once.f k l0 = some r) :
  Calls Try.prog 90 #[.slice A0 l0.length c0] w fun e w' => ∃ v0_ : Value, e = .returned (v0_) ∧ Kd.R Kd.string 9 w' w.heap.size (fun _ => True) v0_ r ∧ Below w.heap.size w w' := by
 have HR0 := Aside0.mk hr0; have HC0 := Aside0.mk hc0; clear hr0 hc0; have HB := Aside0.mk (Below.refl w.heap.size w); have H : (mean_once.l0 k ([] : List ByteArray) l0 (l0.length : Int) 0) = some r := h; clear h; have H' := Aside0.mk H; clear H
 go_enter Try.func90, Try.ntmps90
 go_wp2
 go_loopg [3, 8] k (fun kq v3 v8 w' => ∃ (z1 : List ByteArray) (z0 : Int), v8 = .int .i64 z0 ∧ Aside0 (mean_once.l0 kq z1 l0 (l0.length : Int) z0 = some r) ∧ Aside0 (kq ≤ k) ∧ Aside0 (Kd.R Kd.string 9 w' w.heap.size (fun _ => True) v3 z1) ∧ Aside0 (Below w.heap.size w w'))
 case atStart => exact ⟨(([] : List ByteArray)), (0), (by first | rfl | (simp; done) | (simp [*]; done)), H', ⟨Nat.le_refl _⟩, ⟨by first | exact Kd.R_nil _ _ _ _ _ | exact Kd.N_nil _ _ _ _ _ | exact Kd.V_nil _ _ _ _ _ | exact Kd.Q_nil _ _ _ _ _ | exact Kd.S_nil _ _ _ _ _⟩, ⟨hW HB⟩⟩
 case round =>
  clear H'; obtain ⟨z1, z0, rfl, HA, HK1, z2, HB⟩ := hrel
  cases gk with
  | zero => exact absurd HA.out (by simp [mean_once.l0])
  | succ k1 =>
   have H := HA.out; clear HA
   simp only [mean_once.l0] at H
   by_cases c2 : z0 < (l0.length : Int)
   ·rw [if_pos c2] at H
    have zb : decide (z0 < (l0.length : Int)) = true := decide_eq_true c2; clear c2
    by_cases c3 : 0 ≤ z0
    ·rw [if_pos c3] at H
     have zf : decide (0 ≤ z0) = true := decide_eq_true c3; clear c3
     by_cases c4 : z0 < (l0.length : Int)
     ·rw [if_pos c4] at H
      have zg : decide (z0 < (l0.length : Int)) = true := decide_eq_true c4; clear c4; replace H := Option.bind_eq_some_iff.mp H; obtain ⟨t602, A50, H⟩ := H; replace H : (if t602 = true then (mean_once.l0 k1 z1 l0 (l0.length : Int) (wrap64 (z0 + 1))) else (if z1.length < 8796093022208 then (mean_once.l0 k1 (z1 ++ [rdOf ByteArray.empty l0 z0]) l0 (l0.length : Int) (wrap64 (z0 + 1))) else (none))) = some r := H; have A5 := Aside0.mk A50; clear A50
      by_cases c6 : t602 = true
      ·subst c6
       have H1 : (mean_once.l0 k1 z1 l0 (l0.length : Int) (wrap64 (z0 + 1))) = some r := by rw [if_pos rfl] at H; exact H
       clear H; have H := H1; clear H1; have H' := Aside0.mk H; clear H; have p601 : 0 ≤ (z0 : Int) := of_decide_eq_true (by first | (with_reducible assumption) | assumption); have q601 : z0 < (l0.length : Int) := of_decide_eq_true (by first | (with_reducible assumption) | assumption); obtain ⟨za, e601, z3⟩ := Kd.at_string HR0.out z0 p601 q601
       cases e601
       replace z3 := hC HB z3; replace p601 := eq_true p601; replace q601 := eq_true q601; obtain ⟨z6, zc, zd⟩ := Kd.R_slice z2.out
       subst zd
       go_wp2_with (first | ((with_reducible refine gate_callee (f := 94) rfl ?_); refine goesL_ (some 14) rfl rfl Try.func94 (by kernel_rfl) rfl #[.slice z6 z1.length zc, .string (rdOf ByteArray.empty l0 z0)] rfl (by (try simp only [List.map_toArray, List.map_cons, List.map_nil]); first | done | rfl | (simp only [List.length_drop, List.length_take]; rfl)) ?_; (with_reducible refine (slices_Contains_string_string.calls k1 _ _ z1 (rdOf ByteArray.empty l0 z0) true _ ?side1 ?side2 A5.out).mono ?_); (case side1 => exact cE (Kd.R_reads' z2.out).2.2); (case side2 => exact (Kd.R_reads' z2.out).2.1); rintro e w' ⟨rfl, ⟨nd, rfl⟩⟩; refine ⟨_, rfl, ?_⟩))
       go_roundg k1
       case measure => have := HK1.out; omega
       case rel => exact ⟨(z1), (wrap64 (z0 + 1)), (by first | rfl | (simp; done) | (simp [*]; done)), H', ⟨by have := HK1.out; omega⟩, ⟨rE z2.out⟩, ⟨hW HB⟩⟩
      ·replace c6 := Bool.eq_false_iff.mpr c6
       subst c6
       have H1 : (if z1.length < 8796093022208 then (mean_once.l0 k1 (z1 ++ [rdOf ByteArray.empty l0 z0]) l0 (l0.length : Int) (wrap64 (z0 + 1))) else (none)) = some r := by rw [if_neg (show ¬ (false = true) by decide)] at H; exact H
       clear H; have H := H1; clear H1
       by_cases c8 : z1.length < 8796093022208
       ·rw [if_pos c8] at H
        have z8 := Aside0.mk c8; clear c8; obtain ⟨y603, hy603⟩ : ∃ y_ : List ByteArray, y_ = (z1 ++ [rdOf ByteArray.empty l0 z0]) := ⟨_, rfl⟩
        replace H : (mean_once.l0 k1 y603 l0 (l0.length : Int) (wrap64 (z0 + 1))) = some r := by first | (rw [hy603]; with_reducible exact H) | (have H2_ := (Option.bind_some _ _).symm.trans H; rw [hy603]; with_reducible exact H2_) | (have H2_ := (Option.bind_some _ _).symm.trans H; with_reducible exact H2_) | with_reducible exact H | (rw [hy603]; exact H) | exact H
        have z9 := Aside0.mk hy603; clear hy603; have H' := Aside0.mk H; clear H; have p601 : 0 ≤ (z0 : Int) := of_decide_eq_true (by first | (with_reducible assumption) | assumption); have q601 : z0 < (l0.length : Int) := of_decide_eq_true (by first | (with_reducible assumption) | assumption); obtain ⟨za, e601, z3⟩ := Kd.at_string HR0.out z0 p601 q601
        cases e601
        replace z3 := hC HB z3; replace p601 := eq_true p601; replace q601 := eq_true q601; obtain ⟨z4, z5, ze⟩ := Kd.R_slice z2.out
        subst ze
        go_wp2_with (first | ((with_reducible refine gate_callee (f := 94) rfl ?_); refine goesL_ (some 14) rfl rfl Try.func94 (by kernel_rfl) rfl #[.slice z4 z1.length z5, .string (rdOf ByteArray.empty l0 z0)] rfl (by (try simp only [List.map_toArray, List.map_cons, List.map_nil]); first | done | rfl | (simp only [List.length_drop, List.length_take]; rfl)) ?_; (with_reducible refine (slices_Contains_string_string.calls k1 _ _ z1 (rdOf ByteArray.empty l0 z0) false _ ?side1 ?side2 A5.out).mono ?_); (case side1 => exact cE (Kd.R_reads' z2.out).2.2); (case side2 => exact (Kd.R_reads' z2.out).2.1); rintro e w' ⟨rfl, ⟨nd, rfl⟩⟩; refine ⟨_, rfl, ?_⟩) | ((with_reducible refine gate_builtin (b := .append) (xs := #[.tmp 16, .tmp 18]) rfl ?_); at_builtin; refine Kd.R_append Kd.string (w0 := w) w.heap.size rfl (.tmp 16) (.tmp 18) 22 9 (.string ⟨#[]⟩) 16 rfl Try.underlying22 info9 rfl (by decide) (by omega) (.slice z4 z1.length z5) z1 (rdOf ByteArray.empty l0 z0) [.string (rdOf ByteArray.empty l0 z0)] (fun _ => True) (fun _ => False) rfl rfl ?aP (fun _ hk => hk.elim) ?aF ?aO ?aB ?aS ?aL ?_; (case aP => exact rfl); (case aB => exact (hW HB)); (case aF => exact (fun _ _ => trivial)); (case aO => exact (rE z2.out)); (case aS => exact (below_size (hW HB))); (case aL => have := z8.out; omega); intro v604 w10 ho hb hg hat; rw [← z9.out] at ho; replace HB := Aside0.mk (hb); have z7 := Aside0.mk (ho); clear z2; clear ho hb hg hat))
        go_roundg k1
        case measure => have := HK1.out; omega
        case rel => exact ⟨(y603), (wrap64 (z0 + 1)), (by first | rfl | (simp; done) | (simp [*]; done)), H', ⟨by have := HK1.out; omega⟩, ⟨rE z7.out⟩, ⟨hW HB⟩⟩
       ·rw [if_neg c8] at H
        exact absurd H (by simp)
     ·rw [if_neg c4] at H
      exact absurd H (by simp)
    ·rw [if_neg c3] at H
     exact absurd H (by simp)
   ·rw [if_neg c2] at H
    have zb : decide (z0 < (l0.length : Int)) = false := decide_eq_false c2; clear c2
    obtain rfl := Option.some.inj H
    go_wp2
    go_ret
    exact ⟨_, by first | rfl | (simp [errW_none, errW_some] <;> rfl) | (simp [*, errW_none, errW_some] <;> rfl), by (with_reducible repeat (first | apply Kd.R_alloc | apply Kd.R_drewN | apply Kd.R_drew)); exact z2.out, by repeat (first | (with_reducible first | exact HB.out | apply below_alloc | apply pw_below_drewN | apply below_drew1) | exact HB.out)⟩

-- by hand: function 43 (mean_Relation)

-- NOT PRINTED: function 78 (diff_crowded)

-- NOT PRINTED: function 31 (diff_Between)

-- by hand: function 35 (diff_List)

-- by hand: function 37 (diff_Same)

/-! ### gatehouselaw13_small: function 86 -/
def gatehouselaw13_small.f (a0 : ByteArray) : Option (List ByteArray × (List (S77)) × List ByteArray × List ByteArray × List ByteArray × (List (S105)) × (List (S105)) × (List (S105)) × (List (S105)) × (List (S75)) × (List (S30))) := some ((([(⟨#[111, 112, 101, 110]⟩ : ByteArray), (⟨#[115, 104, 117, 116]⟩ : ByteArray)] : List ByteArray)), (([(⟨(⟨#[97, 110, 110]⟩ : ByteArray), 4607182418800017408⟩ : S77)] : List (S77))), ([] : List ByteArray), (([(⟨#[100, 111, 111, 114]⟩ : ByteArray)] : List ByteArray)), ([] : List ByteArray), ([] : List (S105)), ([] : List (S105)), ([] : List (S105)), ([] : List (S105)), (([(⟨false, (⟨#[97, 110, 110]⟩ : ByteArray), (⟨#[100, 111, 111, 114]⟩ : ByteArray), (([a0] : List ByteArray)), 0, (0 : Nat)⟩ : S75)] : List (S75))), ([] : List (S30)))
set_option maxHeartbeats 8000000 in
set_option maxRecDepth 100000 in
theorem gatehouselaw13_small.calls (a0 : ByteArray) (r1 : List ByteArray) (r2 : List (S77)) (r3 : List ByteArray) (r4 : List ByteArray) (r5 : List ByteArray) (r6 : List (S105)) (r7 : List (S105)) (r8 : List (S105)) (r9 : List (S105)) (r10 : List (S75)) (r11 : List (S30)) (w : World) (h : gatehouselaw13_small.f a0 = some (r1, r2, r3, r4, r5, r6, r7, r8, r9, r10, r11)) :
  Calls Try.prog 86 #[.string a0] w fun e w' => ∃ v0_ v1_ v2_ v3_ v4_ v5_ v6_ v7_ v8_ v9_ v10_ : Value, e = .returned (.agg #[v0_, v1_, v2_, v3_, v4_, v5_, v6_, v7_, v8_, v9_, v10_]) ∧ Kd.R Kd.string 9 w' w.heap.size (fun k_ => (w.heap.size ≤ k_) ∧ oN k_ v2_ ∧ oN k_ v3_ ∧ oN k_ v4_) v0_ r1 ∧ Kd.R k77 77 w' w.heap.size (fun k_ => (w.heap.size ≤ k_)) v1_ r2 ∧ Kd.R Kd.string 9 w' w.heap.size (fun k_ => (w.heap.size ≤ k_) ∧ oN k_ v0_ ∧ oN k_ v3_ ∧ oN k_ v4_) v2_ r3 ∧ Kd.R Kd.string 9 w' w.heap.size (fun k_ => (w.heap.size ≤ k_) ∧ oN k_ v0_ ∧ oN k_ v2_ ∧ oN k_ v4_) v3_ r4 ∧ Kd.R Kd.string 9 w' w.heap.size (fun k_ => (w.heap.size ≤ k_) ∧ oN k_ v0_ ∧ oN k_ v2_ ∧ oN k_ v3_) v4_ r5 ∧ Kd.R k105 105 w' w.heap.size (fun k_ => (w.heap.size ≤ k_) ∧ oN k_ v6_ ∧ oN k_ v7_ ∧ oN k_ v8_) v5_ r6 ∧ Kd.R k105 105 w' w.heap.size (fun k_ => (w.heap.size ≤ k_) ∧ oN k_ v5_ ∧ oN k_ v7_ ∧ oN k_ v8_) v6_ r7 ∧ Kd.R k105 105 w' w.heap.size (fun k_ => (w.heap.size ≤ k_) ∧ oN k_ v5_ ∧ oN k_ v6_ ∧ oN k_ v8_) v7_ r8 ∧ Kd.R k105 105 w' w.heap.size (fun k_ => (w.heap.size ≤ k_) ∧ oN k_ v5_ ∧ oN k_ v6_ ∧ oN k_ v7_) v8_ r9 ∧ Kd.N k75 75 w' w.heap.size (fun k_ => (w.heap.size ≤ k_) ∧ oN k_ v0_ ∧ oN k_ v1_ ∧ oN k_ v2_ ∧ oN k_ v3_ ∧ oN k_ v4_ ∧ oN k_ v5_ ∧ oN k_ v6_ ∧ oN k_ v7_ ∧ oN k_ v8_ ∧ oN k_ v10_) v9_ r10 ∧ Kd.R k30 30 w' w.heap.size (fun k_ => (w.heap.size ≤ k_)) v10_ r11 ∧ Below w.heap.size w w' := by
 have hu28 := Try.underlying28; have hu77 := Try.underlying77; have hu75 := Try.underlying75; have HB := Aside0.mk (Below.refl w.heap.size w); have H : (some ((([(⟨#[111, 112, 101, 110]⟩ : ByteArray), (⟨#[115, 104, 117, 116]⟩ : ByteArray)] : List ByteArray)), (([(⟨(⟨#[97, 110, 110]⟩ : ByteArray), 4607182418800017408⟩ : S77)] : List (S77))), ([] : List ByteArray), (([(⟨#[100, 111, 111, 114]⟩ : ByteArray)] : List ByteArray)), ([] : List ByteArray), ([] : List (S105)), ([] : List (S105)), ([] : List (S105)), ([] : List (S105)), (([(⟨false, (⟨#[97, 110, 110]⟩ : ByteArray), (⟨#[100, 111, 111, 114]⟩ : ByteArray), (([a0] : List ByteArray)), 0, (0 : Nat)⟩ : S75)] : List (S75))), ([] : List (S30)))) = some (r1, r2, r3, r4, r5, r6, r7, r8, r9, r10, r11) := h; clear h; obtain ⟨y607, hy607⟩ : ∃ y_ : List ByteArray, y_ = (([(⟨#[111, 112, 101, 110]⟩ : ByteArray), (⟨#[115, 104, 117, 116]⟩ : ByteArray)] : List ByteArray)) := ⟨_, rfl⟩
 replace H : (some (y607, (([(⟨(⟨#[97, 110, 110]⟩ : ByteArray), 4607182418800017408⟩ : S77)] : List (S77))), ([] : List ByteArray), (([(⟨#[100, 111, 111, 114]⟩ : ByteArray)] : List ByteArray)), ([] : List ByteArray), ([] : List (S105)), ([] : List (S105)), ([] : List (S105)), ([] : List (S105)), (([(⟨false, (⟨#[97, 110, 110]⟩ : ByteArray), (⟨#[100, 111, 111, 114]⟩ : ByteArray), (([a0] : List ByteArray)), 0, (0 : Nat)⟩ : S75)] : List (S75))), ([] : List (S30)))) = some (r1, r2, r3, r4, r5, r6, r7, r8, r9, r10, r11) := by first | (rw [hy607]; with_reducible exact H) | (have H2_ := (Option.bind_some _ _).symm.trans H; rw [hy607]; with_reducible exact H2_) | (have H2_ := (Option.bind_some _ _).symm.trans H; with_reducible exact H2_) | with_reducible exact H | (rw [hy607]; exact H) | exact H
 have zg := Aside0.mk hy607; clear hy607; obtain ⟨y610, hy610⟩ : ∃ y_ : List (S77), y_ = (([(⟨(⟨#[97, 110, 110]⟩ : ByteArray), 4607182418800017408⟩ : S77)] : List (S77))) := ⟨_, rfl⟩
 replace H : (some (y607, y610, ([] : List ByteArray), (([(⟨#[100, 111, 111, 114]⟩ : ByteArray)] : List ByteArray)), ([] : List ByteArray), ([] : List (S105)), ([] : List (S105)), ([] : List (S105)), ([] : List (S105)), (([(⟨false, (⟨#[97, 110, 110]⟩ : ByteArray), (⟨#[100, 111, 111, 114]⟩ : ByteArray), (([a0] : List ByteArray)), 0, (0 : Nat)⟩ : S75)] : List (S75))), ([] : List (S30)))) = some (r1, r2, r3, r4, r5, r6, r7, r8, r9, r10, r11) := by first | (rw [hy610]; with_reducible exact H) | (have H2_ := (Option.bind_some _ _).symm.trans H; rw [hy610]; with_reducible exact H2_) | (have H2_ := (Option.bind_some _ _).symm.trans H; with_reducible exact H2_) | with_reducible exact H | (rw [hy610]; exact H) | exact H
 have zh := Aside0.mk hy610; clear hy610; obtain ⟨y613, hy613⟩ : ∃ y_ : List ByteArray, y_ = (([(⟨#[100, 111, 111, 114]⟩ : ByteArray)] : List ByteArray)) := ⟨_, rfl⟩
 replace H : (some (y607, y610, ([] : List ByteArray), y613, ([] : List ByteArray), ([] : List (S105)), ([] : List (S105)), ([] : List (S105)), ([] : List (S105)), (([(⟨false, (⟨#[97, 110, 110]⟩ : ByteArray), (⟨#[100, 111, 111, 114]⟩ : ByteArray), (([a0] : List ByteArray)), 0, (0 : Nat)⟩ : S75)] : List (S75))), ([] : List (S30)))) = some (r1, r2, r3, r4, r5, r6, r7, r8, r9, r10, r11) := by first | (rw [hy613]; with_reducible exact H) | (have H2_ := (Option.bind_some _ _).symm.trans H; rw [hy613]; with_reducible exact H2_) | (have H2_ := (Option.bind_some _ _).symm.trans H; with_reducible exact H2_) | with_reducible exact H | (rw [hy613]; exact H) | exact H
 have zi := Aside0.mk hy613; clear hy613; obtain ⟨y616, hy616⟩ : ∃ y_ : List ByteArray, y_ = (([a0] : List ByteArray)) := ⟨_, rfl⟩
 replace H : (some (y607, y610, ([] : List ByteArray), y613, ([] : List ByteArray), ([] : List (S105)), ([] : List (S105)), ([] : List (S105)), ([] : List (S105)), (([(⟨false, (⟨#[97, 110, 110]⟩ : ByteArray), (⟨#[100, 111, 111, 114]⟩ : ByteArray), y616, 0, (0 : Nat)⟩ : S75)] : List (S75))), ([] : List (S30)))) = some (r1, r2, r3, r4, r5, r6, r7, r8, r9, r10, r11) := by first | (rw [hy616]; with_reducible exact H) | (have H2_ := (Option.bind_some _ _).symm.trans H; rw [hy616]; with_reducible exact H2_) | (have H2_ := (Option.bind_some _ _).symm.trans H; with_reducible exact H2_) | with_reducible exact H | (rw [hy616]; exact H) | exact H
 have zj := Aside0.mk hy616; clear hy616; obtain ⟨y619, hy619⟩ : ∃ y_ : List (S75), y_ = (([(⟨false, (⟨#[97, 110, 110]⟩ : ByteArray), (⟨#[100, 111, 111, 114]⟩ : ByteArray), y616, 0, (0 : Nat)⟩ : S75)] : List (S75))) := ⟨_, rfl⟩
 replace H : (some (y607, y610, ([] : List ByteArray), y613, ([] : List ByteArray), ([] : List (S105)), ([] : List (S105)), ([] : List (S105)), ([] : List (S105)), y619, ([] : List (S30)))) = some (r1, r2, r3, r4, r5, r6, r7, r8, r9, r10, r11) := by first | (rw [hy619]; with_reducible exact H) | (have H2_ := (Option.bind_some _ _).symm.trans H; rw [hy619]; with_reducible exact H2_) | (have H2_ := (Option.bind_some _ _).symm.trans H; with_reducible exact H2_) | with_reducible exact H | (rw [hy619]; exact H) | exact H
 have zk := Aside0.mk hy619; clear hy619
 simp only [Option.some.injEq, Prod.mk.injEq] at H
 obtain ⟨rfl, rfl, rfl, rfl, rfl, rfl, rfl, rfl, rfl, rfl, rfl⟩ := H
 go_enter Try.func86, Try.ntmps86
 go_wp2_with (first | ((with_reducible refine gate_dst (N := 2) rfl ?_); refine box_event ?hg (N := 2) ?hd (cs := #[.slice none 0 0, .slice none 0 0, .slice none 0 0, .slice none 0 0, .slice none 0 0, .slice none 0 0, .slice none 0 0, .slice none 0 0, .slice none 0 0, .slice none 0 0, .slice none 0 0]) (t := 28) ?hr ?_; (case hd => rfl); (case hg => rfl); (case hr => first | (go_simp; done) | (go_simp; rfl)); intro z0 hg w2 hbox hb; have z1 := Aside0.mk (hbox); have zs := Aside0.mk ((by rw [hg]; exact (below_size (hW HB)) : w.heap.size ≤ z0)); have zm := Aside0.mk ((by rw [hg]; exact (below_size (hW HB)) : w.heap.size ≤ z0)); replace HB := hF HB hb; clear hb hbox hg) | ((with_reducible refine gate_dst (N := 3) rfl ?_); refine Kd.R_lit Kd.string _ 9 ?hg (N := 3) ?hd (xs := ([(⟨#[111, 112, 101, 110]⟩ : ByteArray), (⟨#[115, 104, 117, 116]⟩ : ByteArray)] : List ByteArray)) (inner := [.string (⟨#[111, 112, 101, 110]⟩ : ByteArray), .string (⟨#[115, 104, 117, 116]⟩ : ByteArray)]) (ok := fun _ => True) (okp := fun _ => True) ?hr ?hp (fun _ hk => hk) trivial (Below.refl _ _) (Nat.le_refl _) (by simp) ?_; (case hd => rfl); (case hg => rfl); (case hr => first | (go_simp; done) | (go_simp; rfl)); (case hp => exact (Reps.one (show Kd.M Kd.string _ _ _ (⟨#[111, 112, 101, 110]⟩ : ByteArray) [.string (⟨#[111, 112, 101, 110]⟩ : ByteArray)] from rfl) (Reps.one (show Kd.M Kd.string _ _ _ (⟨#[115, 104, 117, 116]⟩ : ByteArray) [.string (⟨#[115, 104, 117, 116]⟩ : ByteArray)] from rfl) (Reps.none _ _)))); intro v608 w3 ho4 hb hg_ hnew_; clear hg_ hnew_; (first | rw [← zg.out] at ho4 | (simp only [Int.reduceToNat] at ho4; rw [← zg.out] at ho4)); have z2 := Aside0.mk (Kd.R_lower (Kd.R_newM (M := fun k_ => (w.heap.size ≤ k_)) ho4 (below_size (hW HB)) (fun k_ h_ => h_)) (below_size (hW HB))); replace z1 := kF z1 hb; replace HB := hF HB hb; clear hb ho4) | ((with_reducible refine gate_dst (N := 5) rfl ?_); refine Kd.R_lit k77 _ 77 ?hg (N := 5) ?hd (xs := ([(⟨(⟨#[97, 110, 110]⟩ : ByteArray), 4607182418800017408⟩ : S77)] : List (S77))) (inner := [.string (⟨#[97, 110, 110]⟩ : ByteArray), .float .f64 4607182418800017408]) (ok := fun _ => True) (okp := fun _ => True) ?hr ?hp (fun _ hk => hk) trivial (Below.refl _ _) (Nat.le_refl _) (by simp) ?_; (case hd => rfl); (case hg => rfl); (case hr => first | (go_simp; done) | (go_simp; rfl)); (case hp => exact (Reps.c2 (show Kd.M k77 _ _ _ (⟨(⟨#[97, 110, 110]⟩ : ByteArray), 4607182418800017408⟩ : S77) [.string (⟨#[97, 110, 110]⟩ : ByteArray), .float .f64 4607182418800017408] from (k77_mkM _ _ _ (⟨(⟨#[97, 110, 110]⟩ : ByteArray), 4607182418800017408⟩ : S77) )) (Reps.none _ _))); intro v611 w5 ho6 hb hg_ hnew_; clear hg_ hnew_; (first | rw [← zh.out] at ho6 | (simp only [Int.reduceToNat] at ho6; rw [← zh.out] at ho6)); replace z2 := rF z2 hb; have z3 := Aside0.mk (Kd.R_lower (Kd.R_newM (M := fun k_ => (w.heap.size ≤ k_)) ho6 (below_size (hW HB)) (fun k_ h_ => h_)) (below_size (hW HB))); replace z1 := kF z1 hb; replace HB := hF HB hb; clear hb ho6) | ((with_reducible refine gate_dst (N := 6) rfl ?_); refine Kd.R_lit Kd.string _ 9 ?hg (N := 6) ?hd (xs := ([(⟨#[100, 111, 111, 114]⟩ : ByteArray)] : List ByteArray)) (inner := [.string (⟨#[100, 111, 111, 114]⟩ : ByteArray)]) (ok := fun _ => True) (okp := fun _ => True) ?hr ?hp (fun _ hk => hk) trivial (Below.refl _ _) (Nat.le_refl _) (by simp) ?_; (case hd => rfl); (case hg => rfl); (case hr => first | (go_simp; done) | (go_simp; rfl)); (case hp => exact (Reps.one (show Kd.M Kd.string _ _ _ (⟨#[100, 111, 111, 114]⟩ : ByteArray) [.string (⟨#[100, 111, 111, 114]⟩ : ByteArray)] from rfl) (Reps.none _ _))); intro v614 w7 ho8 hb hg_ hnew_; clear hg_ hnew_; (first | rw [← zi.out] at ho8 | (simp only [Int.reduceToNat] at ho8; rw [← zi.out] at ho8)); replace z3 := rF z3 hb; have z4 := Aside0.mk (Kd.R_lower (Kd.R_new' (Kd.R_newM (M := fun k_ => (w.heap.size ≤ k_)) ho8 (below_size (hW HB)) (fun k_ h_ => h_)) (Kd.R_lt (rE z2.out))) (below_size (hW HB))); replace z2 := Aside0.mk (Kd.R_elder' (rE z2.out) (Kd.R_base ho8) hb); replace z1 := kF z1 hb; replace HB := hF HB hb; clear hb ho8) | ((with_reducible refine gate_dst (N := 8) rfl ?_); refine Kd.R_lit Kd.string _ 9 ?hg (N := 8) ?hd (xs := ([a0] : List ByteArray)) (inner := [.string a0]) (ok := fun _ => True) (okp := fun _ => True) ?hr ?hp (fun _ hk => hk) trivial (Below.refl _ _) (Nat.le_refl _) (by simp) ?_; (case hd => rfl); (case hg => rfl); (case hr => first | (go_simp; done) | (go_simp; rfl)); (case hp => exact (Reps.one (show Kd.M Kd.string _ _ _ a0 [.string a0] from rfl) (Reps.none _ _))); intro v617 w9 ho10 hb hg_ hnew_; clear hg_ hnew_; (first | rw [← zj.out] at ho10 | (simp only [Int.reduceToNat] at ho10; rw [← zj.out] at ho10)); replace z3 := rF z3 hb; have zd := Aside0.mk (Kd.R_lower (Kd.R_new' (Kd.R_new' (Kd.R_newM (M := fun k_ => (w.heap.size ≤ k_)) ho10 (below_size (hW HB)) (fun k_ h_ => h_)) (Kd.R_lt (rE z2.out))) (Kd.R_lt (rE z4.out))) (below_size (hW HB))); replace z2 := Aside0.mk (Kd.R_elder' (rE z2.out) (Kd.R_base ho10) hb); replace z4 := Aside0.mk (Kd.R_elder' (rE z4.out) (Kd.R_base ho10) hb); replace z1 := kF z1 hb; replace HB := hF HB hb; clear hb ho10; obtain ⟨ze, zl, zn⟩ := Kd.R_slice zd.out; subst zn) | ((with_reducible refine gate_dst (N := 10) rfl ?_); refine Kd.N_lit k75 _ 75 ?hg (N' := 10) ?hd (xs := ([(⟨false, (⟨#[97, 110, 110]⟩ : ByteArray), (⟨#[100, 111, 111, 114]⟩ : ByteArray), y616, 0, (0 : Nat)⟩ : S75)] : List (S75))) (inner := [.bool false, .string (⟨#[97, 110, 110]⟩ : ByteArray), .string (⟨#[100, 111, 111, 114]⟩ : ByteArray), .slice ze y616.length zl, .int .i8 0, .float .f64 (0 : Nat)]) (ok := (fun k_ => (w.heap.size ≤ k_) ∧ oN k_ v608 ∧ oN k_ v611 ∧ oN k_ v614 ∧ k_ ≠ z0)) (okp := (fun k_ => (w.heap.size ≤ k_) ∧ oN k_ v608 ∧ oN k_ v611 ∧ oN k_ v614 ∧ k_ ≠ z0)) ?hr ?hp (fun _ hk => hk) ((show ∀ k_, w9.heap.size ≤ k_ → (fun k_ => (w.heap.size ≤ k_) ∧ oN k_ v608 ∧ oN k_ v611 ∧ oN k_ v614 ∧ k_ ≠ z0) k_ from fun k_ hk => ⟨(Nat.le_trans (below_size (hW HB)) hk), Kd.fresh' (Kd.R_lt (rE z2.out)) k_ hk, Kd.fresh' (Kd.R_lt (rE z3.out)) k_ hk, Kd.fresh' (Kd.R_lt (rE z4.out)) k_ hk, Kd.freshB (g := z0) (o := .cells #[.slice none 0 0, .slice none 0 0, .slice none 0 0, .slice none 0 0, .slice none 0 0, .slice none 0 0, .slice none 0 0, .slice none 0 0, .slice none 0 0, .slice none 0 0, .slice none 0 0] 28 (0, 0)) (bE z1) k_ hk⟩) _ (Nat.le_refl _)) (Below.refl _ _) (Nat.le_refl _) (by simp) ?_; (case hd => rfl); (case hg => rfl); (case hr => first | (go_simp; done) | (go_simp; rfl)); (case hp => exact (Reps.c6 (show Kd.FK k75 _ _ (⟨false, (⟨#[97, 110, 110]⟩ : ByteArray), (⟨#[100, 111, 111, 114]⟩ : ByteArray), y616, 0, (0 : Nat)⟩ : S75) [.bool false, .string (⟨#[97, 110, 110]⟩ : ByteArray), .string (⟨#[100, 111, 111, 114]⟩ : ByteArray), .slice ze y616.length zl, .int .i8 0, .float .f64 (0 : Nat)] from (k75_mkF _ _ (⟨false, (⟨#[97, 110, 110]⟩ : ByteArray), (⟨#[100, 111, 111, 114]⟩ : ByteArray), y616, 0, (0 : Nat)⟩ : S75) (Kd.R_reads' (Kd.R_mono (ok' := (fun k_ => (w.heap.size ≤ k_) ∧ oN k_ v608 ∧ oN k_ v611 ∧ oN k_ v614 ∧ k_ ≠ z0)) (Kd.R_types (Kd.R_apart' (zd.out) (Kd.R_typed z3.out) (by decide)) z1.out (by decide)) (fun k_ hk => ⟨hk.1.1.1.1.1, ⟨hk.1.1.1.2, ⟨hk.1.2, ⟨hk.1.1.2, hk.2⟩⟩⟩⟩))).2.1 (Kd.R_F (Kd.R_mono (ok' := (fun k_ => (w.heap.size ≤ k_) ∧ oN k_ v608 ∧ oN k_ v611 ∧ oN k_ v614 ∧ k_ ≠ z0)) (Kd.R_types (Kd.R_apart' (zd.out) (Kd.R_typed z3.out) (by decide)) z1.out (by decide)) (fun k_ hk => ⟨hk.1.1.1.1.1, ⟨hk.1.1.1.2, ⟨hk.1.2, ⟨hk.1.1.2, hk.2⟩⟩⟩⟩))))) (Reps.none _ _))); intro v620 w12 ho13 hb hg_ hnew_; clear hg_ hnew_; (first | rw [← zk.out] at ho13 | (simp only [Int.reduceToNat] at ho13; rw [← zk.out] at ho13)); replace z2 := rF z2 hb; replace z3 := rF z3 hb; replace z4 := rF z4 hb; have zf := Aside0.mk (Kd.N_lower ho13 (below_size (hW HB))); replace z1 := kF z1 hb; replace HB := hF HB hb; clear zd; clear hb ho13; obtain ⟨z5, z9, zo⟩ := Kd.N_slice zf.out; subst zo; obtain ⟨z6, za, zp⟩ := Kd.R_slice z4.out; subst zp; obtain ⟨z7, zb, zq⟩ := Kd.R_slice z3.out; subst zq; obtain ⟨z8, zc, zr⟩ := Kd.R_slice z2.out; subst zr; obtain ⟨zt, zu, zw, zx, zy, zz, zA, zB, zC, zD, zv, zE, zF, zH, zI, zJ, zK, zL, zM, zN, zO, zG⟩ := bC11 z1))
 refine bodyPost_ret (results_cell_row rfl _ _ z0 28 #[.slice z8 y607.length zc, .slice z7 y610.length zb, .slice none 0 0, .slice z6 y613.length za, .slice none 0 0, .slice none 0 0, .slice none 0 0, .slice none 0 0, .slice none 0 0, .slice z5 y619.length z9, .slice none 0 0] (0, 0) _ rfl (pK z1) Try.underlying28 rfl (by kernel_rfl)) rfl ?_
 exact ⟨_, _, _, _, _, _, _, _, _, _, _, by first | rfl | (simp [errW_none, errW_some] <;> rfl) | (simp [*, errW_none, errW_some] <;> rfl), by (with_reducible repeat (first | apply Kd.R_alloc | apply Kd.R_drewN | apply Kd.R_drew)); exact Kd.R_mono (Kd.R_far (p := ⟨z0, 10, none⟩) (Kd.R_far (p := ⟨z0, 9, none⟩) (Kd.R_far (p := ⟨z0, 8, none⟩) (Kd.R_far (p := ⟨z0, 7, none⟩) (Kd.R_far (p := ⟨z0, 6, none⟩) (Kd.R_far (p := ⟨z0, 5, none⟩) (Kd.R_far (p := ⟨z0, 4, none⟩) (Kd.R_far (p := ⟨z0, 3, none⟩) (Kd.R_far (p := ⟨z0, 2, none⟩) (Kd.R_far (p := ⟨z0, 1, none⟩) (Kd.R_far (p := ⟨z0, 0, none⟩) (Kd.R_types z2.out z1.out (by decide)) (fun _ hk => hk.2) (.slice z8 y607.length zc)) (fun _ hk => hk.2) (.slice z7 y610.length zb)) (fun _ hk => hk.2) (.slice none 0 0)) (fun _ hk => hk.2) (.slice z6 y613.length za)) (fun _ hk => hk.2) (.slice none 0 0)) (fun _ hk => hk.2) (.slice none 0 0)) (fun _ hk => hk.2) (.slice none 0 0)) (fun _ hk => hk.2) (.slice none 0 0)) (fun _ hk => hk.2) (.slice none 0 0)) (fun _ hk => hk.2) (.slice z5 y619.length z9)) (fun _ hk => hk.2) (.slice none 0 0)) (fun _ hk => ⟨hk.1.1.1.1, ⟨(by simp [Value.ownBlock]), ⟨hk.1.1.2, (by simp [Value.ownBlock])⟩⟩⟩), by (with_reducible repeat (first | apply Kd.R_alloc | apply Kd.R_drewN | apply Kd.R_drew)); exact Kd.R_mono (Kd.R_far (p := ⟨z0, 10, none⟩) (Kd.R_far (p := ⟨z0, 9, none⟩) (Kd.R_far (p := ⟨z0, 8, none⟩) (Kd.R_far (p := ⟨z0, 7, none⟩) (Kd.R_far (p := ⟨z0, 6, none⟩) (Kd.R_far (p := ⟨z0, 5, none⟩) (Kd.R_far (p := ⟨z0, 4, none⟩) (Kd.R_far (p := ⟨z0, 3, none⟩) (Kd.R_far (p := ⟨z0, 2, none⟩) (Kd.R_far (p := ⟨z0, 1, none⟩) (Kd.R_far (p := ⟨z0, 0, none⟩) (Kd.R_types z3.out z1.out (by decide)) (fun _ hk => hk.2) (.slice z8 y607.length zc)) (fun _ hk => hk.2) (.slice z7 y610.length zb)) (fun _ hk => hk.2) (.slice none 0 0)) (fun _ hk => hk.2) (.slice z6 y613.length za)) (fun _ hk => hk.2) (.slice none 0 0)) (fun _ hk => hk.2) (.slice none 0 0)) (fun _ hk => hk.2) (.slice none 0 0)) (fun _ hk => hk.2) (.slice none 0 0)) (fun _ hk => hk.2) (.slice none 0 0)) (fun _ hk => hk.2) (.slice z5 y619.length z9)) (fun _ hk => hk.2) (.slice none 0 0)) (fun _ hk => hk.1.1), by first | exact Kd.R_nil _ _ _ _ _ | exact Kd.N_nil _ _ _ _ _ | exact Kd.V_nil _ _ _ _ _ | exact Kd.Q_nil _ _ _ _ _ | exact Kd.S_nil _ _ _ _ _, by (with_reducible repeat (first | apply Kd.R_alloc | apply Kd.R_drewN | apply Kd.R_drew)); exact Kd.R_mono (Kd.R_far (p := ⟨z0, 10, none⟩) (Kd.R_far (p := ⟨z0, 9, none⟩) (Kd.R_far (p := ⟨z0, 8, none⟩) (Kd.R_far (p := ⟨z0, 7, none⟩) (Kd.R_far (p := ⟨z0, 6, none⟩) (Kd.R_far (p := ⟨z0, 5, none⟩) (Kd.R_far (p := ⟨z0, 4, none⟩) (Kd.R_far (p := ⟨z0, 3, none⟩) (Kd.R_far (p := ⟨z0, 2, none⟩) (Kd.R_far (p := ⟨z0, 1, none⟩) (Kd.R_far (p := ⟨z0, 0, none⟩) (Kd.R_types z4.out z1.out (by decide)) (fun _ hk => hk.2) (.slice z8 y607.length zc)) (fun _ hk => hk.2) (.slice z7 y610.length zb)) (fun _ hk => hk.2) (.slice none 0 0)) (fun _ hk => hk.2) (.slice z6 y613.length za)) (fun _ hk => hk.2) (.slice none 0 0)) (fun _ hk => hk.2) (.slice none 0 0)) (fun _ hk => hk.2) (.slice none 0 0)) (fun _ hk => hk.2) (.slice none 0 0)) (fun _ hk => hk.2) (.slice none 0 0)) (fun _ hk => hk.2) (.slice z5 y619.length z9)) (fun _ hk => hk.2) (.slice none 0 0)) (fun _ hk => ⟨hk.1.1.1.1, ⟨hk.1.1.2, ⟨(by simp [Value.ownBlock]), (by simp [Value.ownBlock])⟩⟩⟩), by first | exact Kd.R_nil _ _ _ _ _ | exact Kd.N_nil _ _ _ _ _ | exact Kd.V_nil _ _ _ _ _ | exact Kd.Q_nil _ _ _ _ _ | exact Kd.S_nil _ _ _ _ _, by first | exact Kd.R_nil _ _ _ _ _ | exact Kd.N_nil _ _ _ _ _ | exact Kd.V_nil _ _ _ _ _ | exact Kd.Q_nil _ _ _ _ _ | exact Kd.S_nil _ _ _ _ _, by first | exact Kd.R_nil _ _ _ _ _ | exact Kd.N_nil _ _ _ _ _ | exact Kd.V_nil _ _ _ _ _ | exact Kd.Q_nil _ _ _ _ _ | exact Kd.S_nil _ _ _ _ _, by first | exact Kd.R_nil _ _ _ _ _ | exact Kd.N_nil _ _ _ _ _ | exact Kd.V_nil _ _ _ _ _ | exact Kd.Q_nil _ _ _ _ _ | exact Kd.S_nil _ _ _ _ _, by first | exact Kd.R_nil _ _ _ _ _ | exact Kd.N_nil _ _ _ _ _ | exact Kd.V_nil _ _ _ _ _ | exact Kd.Q_nil _ _ _ _ _ | exact Kd.S_nil _ _ _ _ _, by (with_reducible repeat (first | apply Kd.N_alloc | apply Kd.N_drewN | apply Kd.N_drew)); exact Kd.N_mono (Kd.N_far (p := ⟨z0, 10, none⟩) (Kd.N_far (p := ⟨z0, 9, none⟩) (Kd.N_far (p := ⟨z0, 8, none⟩) (Kd.N_far (p := ⟨z0, 7, none⟩) (Kd.N_far (p := ⟨z0, 6, none⟩) (Kd.N_far (p := ⟨z0, 5, none⟩) (Kd.N_far (p := ⟨z0, 4, none⟩) (Kd.N_far (p := ⟨z0, 3, none⟩) (Kd.N_far (p := ⟨z0, 2, none⟩) (Kd.N_far (p := ⟨z0, 1, none⟩) (Kd.N_far (p := ⟨z0, 0, none⟩) (Kd.N_mono zf.out (fun k_ hk => (⟨hk, hk.2.2.2.2⟩ : _ ∧ k_ ≠ z0))) (fun _ hk => hk.2) (.slice z8 y607.length zc)) (fun _ hk => hk.2) (.slice z7 y610.length zb)) (fun _ hk => hk.2) (.slice none 0 0)) (fun _ hk => hk.2) (.slice z6 y613.length za)) (fun _ hk => hk.2) (.slice none 0 0)) (fun _ hk => hk.2) (.slice none 0 0)) (fun _ hk => hk.2) (.slice none 0 0)) (fun _ hk => hk.2) (.slice none 0 0)) (fun _ hk => hk.2) (.slice none 0 0)) (fun _ hk => hk.2) (.slice z5 y619.length z9)) (fun _ hk => hk.2) (.slice none 0 0)) (fun _ hk => ⟨hk.1.1, ⟨hk.1.2.1, ⟨hk.1.2.2.1, ⟨(by simp [Value.ownBlock]), ⟨hk.1.2.2.2.1, ⟨(by simp [Value.ownBlock]), ⟨(by simp [Value.ownBlock]), ⟨(by simp [Value.ownBlock]), ⟨(by simp [Value.ownBlock]), ⟨(by simp [Value.ownBlock]), (by simp [Value.ownBlock])⟩⟩⟩⟩⟩⟩⟩⟩⟩⟩), by first | exact Kd.R_nil _ _ _ _ _ | exact Kd.N_nil _ _ _ _ _ | exact Kd.V_nil _ _ _ _ _ | exact Kd.Q_nil _ _ _ _ _ | exact Kd.S_nil _ _ _ _ _, by repeat (first | (with_reducible first | exact HB.out | apply below_alloc | apply pw_below_drewN | apply below_drew1 | refine below_set ?_ zm.out) | exact HB.out)⟩

-- NOT PRINTED: function 39 (gatehouselaw13_alive)

/-! ### gatehouselaw13_told: function 40 -/
def gatehouselaw13_told.l0 : Nat → List (S53) → Int → Int → ByteArray → ByteArray → ByteArray → Bool → Option (Int)
 | 0, _, _, _, _, _, _, _ => none
 | k + 1, x0, x5, x6, z9, za, zb, zc => if x6 < (x0.length : Int) then (if 0 ≤ x6 then (if (((((rd_T53 x0 x6).f0.f0).toList) == z9.toList && ((((rd_T53 x0 x6).f0.f1).toList) == za.toList && ((((rd_T53 x0 x6).f0.f2).toList) == zb.toList))) && (((rd_T53 x0 x6).f1) == zc)) = true then (gatehouselaw13_told.l0 k x0 (wrap64 (x5 + 1)) (wrap64 (x6 + 1)) z9 za zb zc) else (gatehouselaw13_told.l0 k x0 x5 (wrap64 (x6 + 1)) z9 za zb zc)) else (none)) else (some x5)
def gatehouselaw13_told.f (k : Nat) (l0 : List (S53)) (a1_0 : ByteArray) (a1_1 : ByteArray) (a1_2 : ByteArray) (a1_3 : Bool) : Option (Int) := gatehouselaw13_told.l0 k l0 0 0 a1_0 a1_1 a1_2 a1_3
set_option maxHeartbeats 8000000 in
set_option maxRecDepth 100000 in
theorem gatehouselaw13_told.calls (k : Nat) (A0 : Option Addr) (c0 : Nat) (l0 : List (S53)) (a1_0 : ByteArray) (a1_1 : ByteArray) (a1_2 : ByteArray) (a1_3 : Bool) (r : Int) (w : World) (hr0 : Kd.C k53 w A0 l0.length l0) (hc0 : l0.length ≤ c0) (h : gatehouselaw13_told.f k l0 a1_0 a1_1 a1_2 a1_3 = some r) :
  Calls Try.prog 40 #[.slice A0 l0.length c0, .agg #[.string a1_0, .string a1_1, .string a1_2, .bool a1_3]] w fun e w' => e = .returned (.int .i64 r) ∧ Below w.heap.size w w' := by
 have hu53 := Try.underlying53; have HR0 := Aside0.mk hr0; have HC0 := Aside0.mk hc0; clear hr0 hc0; have HB := Aside0.mk (Below.refl w.heap.size w); have H : (gatehouselaw13_told.l0 k l0 0 0 a1_0 a1_1 a1_2 a1_3) = some r := h; clear h; have H' := Aside0.mk H; clear H
 go_enter Try.func40, Try.ntmps40
 go_wp2_with (first | ((with_reducible refine gate_dst (N := 3) rfl ?_); refine box_event ?hg (N := 3) ?hd (cs := #[.string a1_0, .string a1_1, .string a1_2, .bool a1_3]) (t := 53) ?hr ?_; (case hd => rfl); (case hg => rfl); (case hr => first | (go_simp; done) | (go_simp; rfl)); intro z1 hg w3 hbox hb; have z2 := Aside0.mk (hbox); have zd := Aside0.mk ((by rw [hg]; exact (below_size (hW HB)) : w.heap.size ≤ z1)); have z8 := Aside0.mk ((by rw [hg]; exact (below_size (hW HB)) : w.heap.size ≤ z1)); replace HB := hF HB hb; clear hb hbox hg))
 repeat (go_quiet (first | ((with_reducible refine gate_dst (N := 3) rfl ?_); refine box_event ?hg (N := 3) ?hd (cs := #[.string a1_0, .string a1_1, .string a1_2, .bool a1_3]) (t := 53) ?hr ?_; (case hd => rfl); (case hg => rfl); (case hr => first | (go_simp; done) | (go_simp; rfl)); intro z1 hg w3 hbox hb; have z2 := Aside0.mk (hbox); have zd := Aside0.mk ((by rw [hg]; exact (below_size (hW HB)) : w.heap.size ≤ z1)); have z8 := Aside0.mk ((by rw [hg]; exact (below_size (hW HB)) : w.heap.size ≤ z1)); replace HB := hF HB hb; clear hb hbox hg)); try go_wp2_with (first | ((with_reducible refine gate_dst (N := 3) rfl ?_); refine box_event ?hg (N := 3) ?hd (cs := #[.string a1_0, .string a1_1, .string a1_2, .bool a1_3]) (t := 53) ?hr ?_; (case hd => rfl); (case hg => rfl); (case hr => first | (go_simp; done) | (go_simp; rfl)); intro z1 hg w3 hbox hb; have z2 := Aside0.mk (hbox); have zd := Aside0.mk ((by rw [hg]; exact (below_size (hW HB)) : w.heap.size ≤ z1)); have z8 := Aside0.mk ((by rw [hg]; exact (below_size (hW HB)) : w.heap.size ≤ z1)); replace HB := hF HB hb; clear hb hbox hg)))
 go_loopg [5, 6] k (fun kq v5 v6 w' => ∃ (z7 : Int) (z0 : Int), v5 = .int .i64 z7 ∧ v6 = .int .i64 z0 ∧ Aside0 (gatehouselaw13_told.l0 kq l0 z7 z0 a1_0 a1_1 a1_2 a1_3 = some r) ∧ Aside0 (kq ≤ k) ∧ Aside0 (w'.heap[z1]? = some (.cells #[.string a1_0, .string a1_1, .string a1_2, .bool a1_3] 53 (0, 0))) ∧ Aside0 (Below w.heap.size w w'))
 case atStart => exact ⟨(0), (0), (by first | rfl | (simp; done) | (simp [*]; done)), (by first | rfl | (simp; done) | (simp [*]; done)), H', ⟨Nat.le_refl _⟩, ⟨bE z2⟩, ⟨hW HB⟩⟩
 case round =>
  clear H'
  try clear p2
  obtain ⟨z7, z0, rfl, rfl, HA, HK1, z2, HB⟩ := hrel
  cases gk with
  | zero => exact absurd HA.out (by simp [gatehouselaw13_told.l0])
  | succ k1 =>
   have H := HA.out; clear HA
   simp only [gatehouselaw13_told.l0] at H
   by_cases c4 : z0 < (l0.length : Int)
   ·rw [if_pos c4] at H
    have zf : decide (z0 < (l0.length : Int)) = true := decide_eq_true c4; clear c4
    by_cases c5 : 0 ≤ z0
    ·rw [if_pos c5] at H
     have zh : decide (0 ≤ z0) = true := decide_eq_true c5; clear c5
     by_cases c6 : (((((rd_T53 l0 z0).f0.f0).toList) == a1_0.toList && ((((rd_T53 l0 z0).f0.f1).toList) == a1_1.toList && ((((rd_T53 l0 z0).f0.f2).toList) == a1_2.toList))) && (((rd_T53 l0 z0).f1) == a1_3)) = true
     ·rw [if_pos c6] at H
      have zg : (((((rd_T53 l0 z0).f0.f0).toList) == a1_0.toList && ((((rd_T53 l0 z0).f0.f1).toList) == a1_1.toList && ((((rd_T53 l0 z0).f0.f2).toList) == a1_2.toList))) && (((rd_T53 l0 z0).f1) == a1_3)) = true := c6; clear c6; have H' := Aside0.mk H; clear H; have p623 : 0 ≤ (z0 : Int) := of_decide_eq_true (by first | (with_reducible assumption) | assumption); have q623 : z0 < (l0.length : Int) := of_decide_eq_true (by first | (with_reducible assumption) | assumption); obtain ⟨ze, e623, z3, z4, z5, z6⟩ := at_T53 HR0.out z0 p623 q623
      cases e623
      replace z3 := hC HB z3; replace z4 := hC HB z4; replace z5 := hC HB z5; replace z6 := hC HB z6; replace p623 := eq_true p623; replace q623 := eq_true q623; obtain ⟨zi, zj, zk, zl, zq, zr, zs, zt⟩ := bC4 z2
      go_wp2
      repeat (go_quiet (fail); try go_wp2)
      go_roundg k1
      case measure => have := HK1.out; omega
      case rel => exact ⟨(wrap64 (z7 + 1)), (wrap64 (z0 + 1)), (by first | rfl | (simp; done) | (simp [*]; done)), (by first | rfl | (simp; done) | (simp [*]; done)), H', ⟨by have := HK1.out; omega⟩, ⟨bE z2⟩, ⟨hW HB⟩⟩
     ·rw [if_neg c6] at H
      have zg : (((((rd_T53 l0 z0).f0.f0).toList) == a1_0.toList && ((((rd_T53 l0 z0).f0.f1).toList) == a1_1.toList && ((((rd_T53 l0 z0).f0.f2).toList) == a1_2.toList))) && (((rd_T53 l0 z0).f1) == a1_3)) = false := by simpa using c6
      clear c6; have H' := Aside0.mk H; clear H; have p623 : 0 ≤ (z0 : Int) := of_decide_eq_true (by first | (with_reducible assumption) | assumption); have q623 : z0 < (l0.length : Int) := of_decide_eq_true (by first | (with_reducible assumption) | assumption); obtain ⟨ze, e623, z3, z4, z5, z6⟩ := at_T53 HR0.out z0 p623 q623
      cases e623
      replace z3 := hC HB z3; replace z4 := hC HB z4; replace z5 := hC HB z5; replace z6 := hC HB z6; replace p623 := eq_true p623; replace q623 := eq_true q623; obtain ⟨zm, zn, zo, zp, zu, zv, zw, zx⟩ := bC4 z2
      go_wp2
      repeat (go_quiet (fail); try go_wp2)
      go_roundg k1
      case measure => have := HK1.out; omega
      case rel => exact ⟨(z7), (wrap64 (z0 + 1)), (by first | rfl | (simp; done) | (simp [*]; done)), (by first | rfl | (simp; done) | (simp [*]; done)), H', ⟨by have := HK1.out; omega⟩, ⟨bE z2⟩, ⟨hW HB⟩⟩
    ·rw [if_neg c5] at H
     exact absurd H (by simp)
   ·rw [if_neg c4] at H
    have zf : decide (z0 < (l0.length : Int)) = false := decide_eq_false c4; clear c4
    obtain rfl := Option.some.inj H
    go_wp2
    repeat (go_quiet (fail); try go_wp2)
    go_ret
    exact ⟨by first | rfl | (simp [errW_none, errW_some] <;> rfl) | (simp [*, errW_none, errW_some] <;> rfl), by repeat (first | (with_reducible first | exact HB.out | apply below_alloc | apply pw_below_drewN | apply below_drew1 | refine below_set ?_ z8.out) | exact HB.out)⟩

-- NOT PRINTED: function 8 (gatehouselaw13_DiffBack)

/-! ### gatehouseref08_first: function 108 -/
/-! ### gatehouseref08_one: function 111 -/
/-! ### gatehouseref08_may: function 112 -/
-- NOT PRINTED: function 73 (gatehouseref08_Relation)

-- NOT PRINTED: function 74 (gatehouseref13_places)

-- NOT PRINTED: function 29 (gatehouseref13_List)

/-! ### gatehouselaw13_sameNames: function 113 -/
-- NOT PRINTED: function 80 (gatehouselaw13_keptNames)

-- NOT PRINTED: function 81 (gatehouselaw13_keptPairs)

-- NOT PRINTED: function 82 (gatehouselaw13_keptTriples)

/-! ### gatehouselaw13_alike: function 114 -/
-- NOT PRINTED: function 83 (gatehouselaw13_keptSubjects)

-- NOT PRINTED: function 84 (gatehouselaw13_keptRules)

-- NOT PRINTED: function 32 (gatehouselaw13_kept)

-- NOT PRINTED: function 33 (gatehouselaw13_wiped)

/-! ### gatehouseref13_Alike: function 34 -/
-- NOT PRINTED: function 6 (gatehouselaw13_DiffBetween)

/-! ### gatehouselaw13_mark: function 85 -/
-- NOT PRINTED: function 36 (gatehouselaw13_apart)

-- NOT PRINTED: function 41 (gatehouseref13_Chain)

-- NOT PRINTED: function 42 (diff_Chain)

-- NOT PRINTED: function 9 (gatehouselaw13_DiffChain)

-- NOT PRINTED: function 38 (gatehouselaw13_over)

-- NOT PRINTED: function 7 (gatehouselaw13_DiffList)

-- NOT PRINTED: function 11 (gatehouselaw13_DiffThrough)

/-! ### gatehouselaw13_has: function 44 -/
def gatehouselaw13_has.l0 : Nat → List (S30) → Int → ByteArray → ByteArray → ByteArray → Option (Bool)
 | 0, _, _, _, _, _ => none
 | k + 1, x0, x5, z8, z9, za => if x5 < (x0.length : Int) then (if 0 ≤ x5 then (if ((((rd_T30 x0 x5).f0).toList) == z8.toList && ((((rd_T30 x0 x5).f1).toList) == z9.toList && ((((rd_T30 x0 x5).f2).toList) == za.toList))) = true then (some true) else (gatehouselaw13_has.l0 k x0 (wrap64 (x5 + 1)) z8 z9 za)) else (none)) else (some false)
def gatehouselaw13_has.f (k : Nat) (l0 : List (S30)) (a1_0 : ByteArray) (a1_1 : ByteArray) (a1_2 : ByteArray) : Option (Bool) := gatehouselaw13_has.l0 k l0 0 a1_0 a1_1 a1_2
set_option maxHeartbeats 8000000 in
set_option maxRecDepth 100000 in
theorem gatehouselaw13_has.calls (k : Nat) (A0 : Option Addr) (c0 : Nat) (l0 : List (S30)) (a1_0 : ByteArray) (a1_1 : ByteArray) (a1_2 : ByteArray) (r : Bool) (w : World) (hr0 : Kd.C k30 w A0 l0.length l0) (hc0 : l0.length ≤ c0) (h : gatehouselaw13_has.f k l0 a1_0 a1_1 a1_2 = some r) :
  Calls Try.prog 44 #[.slice A0 l0.length c0, .agg #[.string a1_0, .string a1_1, .string a1_2]] w fun e w' => e = .returned (.bool r) ∧ Below w.heap.size w w' := by
 have hu30 := Try.underlying30; have HR0 := Aside0.mk hr0; have HC0 := Aside0.mk hc0; clear hr0 hc0; have HB := Aside0.mk (Below.refl w.heap.size w); have H : (gatehouselaw13_has.l0 k l0 0 a1_0 a1_1 a1_2) = some r := h; clear h; have H' := Aside0.mk H; clear H
 go_enter Try.func44, Try.ntmps44
 go_wp2_with (first | ((with_reducible refine gate_dst (N := 3) rfl ?_); refine box_event ?hg (N := 3) ?hd (cs := #[.string a1_0, .string a1_1, .string a1_2]) (t := 30) ?hr ?_; (case hd => rfl); (case hg => rfl); (case hr => first | (go_simp; done) | (go_simp; rfl)); intro z1 hg w3 hbox hb; have z2 := Aside0.mk (hbox); have z7 := Aside0.mk ((by rw [hg]; exact (below_size (hW HB)) : w.heap.size ≤ z1)); have z6 := Aside0.mk ((by rw [hg]; exact (below_size (hW HB)) : w.heap.size ≤ z1)); replace HB := hF HB hb; clear hb hbox hg))
 repeat (go_quiet (first | ((with_reducible refine gate_dst (N := 3) rfl ?_); refine box_event ?hg (N := 3) ?hd (cs := #[.string a1_0, .string a1_1, .string a1_2]) (t := 30) ?hr ?_; (case hd => rfl); (case hg => rfl); (case hr => first | (go_simp; done) | (go_simp; rfl)); intro z1 hg w3 hbox hb; have z2 := Aside0.mk (hbox); have z7 := Aside0.mk ((by rw [hg]; exact (below_size (hW HB)) : w.heap.size ≤ z1)); have z6 := Aside0.mk ((by rw [hg]; exact (below_size (hW HB)) : w.heap.size ≤ z1)); replace HB := hF HB hb; clear hb hbox hg)); try go_wp2_with (first | ((with_reducible refine gate_dst (N := 3) rfl ?_); refine box_event ?hg (N := 3) ?hd (cs := #[.string a1_0, .string a1_1, .string a1_2]) (t := 30) ?hr ?_; (case hd => rfl); (case hg => rfl); (case hr => first | (go_simp; done) | (go_simp; rfl)); intro z1 hg w3 hbox hb; have z2 := Aside0.mk (hbox); have z7 := Aside0.mk ((by rw [hg]; exact (below_size (hW HB)) : w.heap.size ≤ z1)); have z6 := Aside0.mk ((by rw [hg]; exact (below_size (hW HB)) : w.heap.size ≤ z1)); replace HB := hF HB hb; clear hb hbox hg)))
 go_loopg [5] k (fun kq v5 w' => ∃ (z0 : Int), v5 = .int .i64 z0 ∧ Aside0 (gatehouselaw13_has.l0 kq l0 z0 a1_0 a1_1 a1_2 = some r) ∧ Aside0 (kq ≤ k) ∧ Aside0 (w'.heap[z1]? = some (.cells #[.string a1_0, .string a1_1, .string a1_2] 30 (0, 0))) ∧ Aside0 (Below w.heap.size w w'))
 case atStart => exact ⟨(0), (by first | rfl | (simp; done) | (simp [*]; done)), H', ⟨Nat.le_refl _⟩, ⟨bE z2⟩, ⟨hW HB⟩⟩
 case round =>
  clear H'
  try clear p2
  obtain ⟨z0, rfl, HA, HK1, z2, HB⟩ := hrel
  cases gk with
  | zero => exact absurd HA.out (by simp [gatehouselaw13_has.l0])
  | succ k1 =>
   have H := HA.out; clear HA
   simp only [gatehouselaw13_has.l0] at H
   by_cases c4 : z0 < (l0.length : Int)
   ·rw [if_pos c4] at H
    have zc : decide (z0 < (l0.length : Int)) = true := decide_eq_true c4; clear c4
    by_cases c5 : 0 ≤ z0
    ·rw [if_pos c5] at H
     have zg : decide (0 ≤ z0) = true := decide_eq_true c5; clear c5
     by_cases c6 : ((((rd_T30 l0 z0).f0).toList) == a1_0.toList && ((((rd_T30 l0 z0).f1).toList) == a1_1.toList && ((((rd_T30 l0 z0).f2).toList) == a1_2.toList))) = true
     ·rw [if_pos c6] at H
      have zd : ((((rd_T30 l0 z0).f0).toList) == a1_0.toList && ((((rd_T30 l0 z0).f1).toList) == a1_1.toList && ((((rd_T30 l0 z0).f2).toList) == a1_2.toList))) = true := c6
      (try (have ze : decide ((((rd_T30 l0 z0).f0).toList) = a1_0.toList && ((((rd_T30 l0 z0).f1).toList) == a1_1.toList && ((((rd_T30 l0 z0).f2).toList) == a1_2.toList))) = true := by simpa using c6))
      (try (have zf : ((((rd_T30 l0 z0).f0).toList) == a1_0.toList && ((((rd_T30 l0 z0).f1).toList) == a1_1.toList && ((((rd_T30 l0 z0).f2).toList) == a1_2.toList))) = true := by simpa using c6))
      clear c6
      obtain rfl := Option.some.inj H
      have p731 : 0 ≤ (z0 : Int) := of_decide_eq_true (by first | (with_reducible assumption) | assumption); have q731 : z0 < (l0.length : Int) := of_decide_eq_true (by first | (with_reducible assumption) | assumption); obtain ⟨zb, e731, z3, z4, z5⟩ := at_T30 HR0.out z0 p731 q731
      cases e731
      replace z3 := hC HB z3; replace z4 := hC HB z4; replace z5 := hC HB z5; replace p731 := eq_true p731; replace q731 := eq_true q731; obtain ⟨zi, zj, zk, zo, zp, zq⟩ := bC3 z2
      go_wp2
      repeat (go_quiet (fail); try go_wp2)
      go_ret
      exact ⟨by first | rfl | (simp [errW_none, errW_some] <;> rfl) | (simp [*, errW_none, errW_some] <;> rfl), by repeat (first | (with_reducible first | exact HB.out | apply below_alloc | apply pw_below_drewN | apply below_drew1 | refine below_set ?_ z6.out) | exact HB.out)⟩
     ·rw [if_neg c6] at H
      have zd : ((((rd_T30 l0 z0).f0).toList) == a1_0.toList && ((((rd_T30 l0 z0).f1).toList) == a1_1.toList && ((((rd_T30 l0 z0).f2).toList) == a1_2.toList))) = false := by simpa using c6
      (try (have ze : decide ((((rd_T30 l0 z0).f0).toList) = a1_0.toList && ((((rd_T30 l0 z0).f1).toList) == a1_1.toList && ((((rd_T30 l0 z0).f2).toList) == a1_2.toList))) = false := by simpa using c6))
      (try (have zf : ((((rd_T30 l0 z0).f0).toList) == a1_0.toList && ((((rd_T30 l0 z0).f1).toList) == a1_1.toList && ((((rd_T30 l0 z0).f2).toList) == a1_2.toList))) = false := by simpa using c6))
      (try (have zh : ¬ ((((rd_T30 l0 z0).f0).toList) = a1_0.toList && ((((rd_T30 l0 z0).f1).toList) == a1_1.toList && ((((rd_T30 l0 z0).f2).toList) == a1_2.toList))) := by simpa using c6))
      clear c6; have H' := Aside0.mk H; clear H; have p731 : 0 ≤ (z0 : Int) := of_decide_eq_true (by first | (with_reducible assumption) | assumption); have q731 : z0 < (l0.length : Int) := of_decide_eq_true (by first | (with_reducible assumption) | assumption); obtain ⟨zb, e731, z3, z4, z5⟩ := at_T30 HR0.out z0 p731 q731
      cases e731
      replace z3 := hC HB z3; replace z4 := hC HB z4; replace z5 := hC HB z5; replace p731 := eq_true p731; replace q731 := eq_true q731; obtain ⟨zl, zm, zn, zr, zs, zt⟩ := bC3 z2
      go_wp2
      repeat (go_quiet (fail); try go_wp2)
      go_roundg k1
      case measure => have := HK1.out; omega
      case rel => exact ⟨(wrap64 (z0 + 1)), (by first | rfl | (simp; done) | (simp [*]; done)), H', ⟨by have := HK1.out; omega⟩, ⟨bE z2⟩, ⟨hW HB⟩⟩
    ·rw [if_neg c5] at H
     exact absurd H (by simp)
   ·rw [if_neg c4] at H
    have zc : decide (z0 < (l0.length : Int)) = false := decide_eq_false c4; clear c4
    obtain rfl := Option.some.inj H
    go_wp2
    repeat (go_quiet (fail); try go_wp2)
    go_ret
    exact ⟨by first | rfl | (simp [errW_none, errW_some] <;> rfl) | (simp [*, errW_none, errW_some] <;> rfl), by repeat (first | (with_reducible first | exact HB.out | apply below_alloc | apply pw_below_drewN | apply below_drew1 | refine below_set ?_ z6.out) | exact HB.out)⟩

-- NOT PRINTED: function 10 (gatehouselaw13_DiffTurns)

end Go.Proofs.Yteefneemmdfncaa.F
