-- Written by a program of this session (mk.py over the kit's print, turned for floats and for contracts given by hand). Not trusted: Lean checks it.
import Derived.Test.YtnkdcekddhmjnaaF0
namespace Go.Proofs.Ytnkdcekddhmjnaa.F
open Go.RowKit Go.Proofs.YtnkdcekddhmjnaaW.PrintWords Go.Proofs.YtnkdcekddhmjnaaW.PrintLast Go.Proofs.YtnkdcekddhmjnaaW.PrintMore
attribute [local go_sem] max2_int min2_int max_two min_two max_three min_three max_four min_four   -- for this text's walks alone
attribute [local go_sem] flt_eql flt_neq flt_lss flt_leq flt_gtr flt_geq run_store_float
set_option linter.unusedVariables false
set_option linter.unusedSimpArgs false

/-! ### gatehouselaw08_turned: function 35 -/
def gatehouselaw08_turned.l0 : Nat → List (S86) → Int → List (S86) → Int → Option ((List (S86)))
 | 0, _, _, _, _ => none
 | k + 1, x0, x1, x5, x6 => if x6 < (x0.length : Int) then (if x1 < 0 then (if 0 ≤ (wrap64 ((wrap64 ((x0.length : Int) - 1)) - x6)) then (if (wrap64 ((wrap64 ((x0.length : Int) - 1)) - x6)) < (x0.length : Int) then (if x5.length < 4398046511104 then (gatehouselaw08_turned.l0 k x0 x1 (x5 ++ [(⟨(rd_T86 x0 (wrap64 ((wrap64 ((x0.length : Int) - 1)) - x6))).f0, (rd_T86 x0 (wrap64 ((wrap64 ((x0.length : Int) - 1)) - x6))).f1⟩ : S86)]) (wrap64 (x6 + 1))) else (none)) else (none)) else (none)) else (if (x0.length : Int) = 0 then (none) else (if 0 ≤ (Int.tmod (wrap64 (x6 + (Int.tmod x1 (x0.length : Int)))) (x0.length : Int)) then (if (Int.tmod (wrap64 (x6 + (Int.tmod x1 (x0.length : Int)))) (x0.length : Int)) < (x0.length : Int) then (if x5.length < 4398046511104 then (gatehouselaw08_turned.l0 k x0 x1 (x5 ++ [(⟨(rd_T86 x0 (Int.tmod (wrap64 (x6 + (Int.tmod x1 (x0.length : Int)))) (x0.length : Int))).f0, (rd_T86 x0 (Int.tmod (wrap64 (x6 + (Int.tmod x1 (x0.length : Int)))) (x0.length : Int))).f1⟩ : S86)]) (wrap64 (x6 + 1))) else (none)) else (none)) else (none)))) else (some x5)
def gatehouselaw08_turned.f (k : Nat) (l0 : List (S86)) (a1 : Int) : Option ((List (S86))) := gatehouselaw08_turned.l0 k l0 a1 ([] : List (S86)) 0
set_option maxHeartbeats 8000000 in
set_option maxRecDepth 100000 in
theorem gatehouselaw08_turned.calls (k : Nat) (A0 : Option Addr) (c0 : Nat) (l0 : List (S86)) (a1 : Int) (r : List (S86)) (w : World) (hr0 : Kd.C k86 w A0 l0.length l0) (hc0 : l0.length ≤ c0) (h : gatehouselaw08_turned.f k l0 a1 = some r) :
  Calls Try.prog 35 #[.slice A0 l0.length c0, .int .i64 a1] w fun e w' => ∃ v0_ : Value, e = .returned (v0_) ∧ Kd.R k86 86 w' w.heap.size (fun _ => True) v0_ r ∧ Below w.heap.size w w' := by
 have hu86 := Try.underlying86; have HR0 := Aside0.mk hr0; have HC0 := Aside0.mk hc0; clear hr0 hc0; have HB := Aside0.mk (Below.refl w.heap.size w); have H : (gatehouselaw08_turned.l0 k l0 a1 ([] : List (S86)) 0) = some r := h; clear h; have H' := Aside0.mk H; clear H
 go_enter Try.func35, Try.ntmps35
 go_wp2
 go_loopg [5, 6] k (fun kq v5 v6 w' => ∃ (z1 : List (S86)) (z0 : Int), v6 = .int .i64 z0 ∧ Aside0 (gatehouselaw08_turned.l0 kq l0 a1 z1 z0 = some r) ∧ Aside0 (kq ≤ k) ∧ Aside0 (Kd.R k86 86 w' w.heap.size (fun _ => True) v5 z1) ∧ Aside0 (Below w.heap.size w w'))
 case atStart => exact ⟨(([] : List (S86))), (0), (by first | rfl | (simp; done) | (simp [*]; done)), H', ⟨Nat.le_refl _⟩, ⟨by first | exact Kd.R_nil _ _ _ _ _ | exact Kd.N_nil _ _ _ _ _ | exact Kd.V_nil _ _ _ _ _ | exact Kd.Q_nil _ _ _ _ _ | exact Kd.S_nil _ _ _ _ _⟩, ⟨hW HB⟩⟩
 case round =>
  clear H'
  try clear p2
  obtain ⟨z1, z0, rfl, HA, HK1, z2, HB⟩ := hrel
  cases gk with
  | zero => exact absurd HA.out (by simp [gatehouselaw08_turned.l0])
  | succ k1 =>
   have H := HA.out; clear HA
   simp only [gatehouselaw08_turned.l0] at H
   by_cases c3 : z0 < (l0.length : Int)
   ·rw [if_pos c3] at H
    have zd : decide (z0 < (l0.length : Int)) = true := decide_eq_true c3; clear c3
    by_cases c4 : a1 < 0
    ·rw [if_pos c4] at H
     have ze : decide (a1 < 0) = true := decide_eq_true c4; clear c4; obtain ⟨ji5, hji5⟩ : ∃ j_ : Int, (wrap64 ((wrap64 ((l0.length : Int) - 1)) - z0)) = j_ := ⟨_, rfl⟩
     replace H : (if 0 ≤ (ji5) then (if (ji5) < (l0.length : Int) then (if z1.length < 4398046511104 then (gatehouselaw08_turned.l0 k1 l0 a1 (z1 ++ [(⟨(rd_T86 l0 (ji5)).f0, (rd_T86 l0 (ji5)).f1⟩ : S86)]) (wrap64 (z0 + 1))) else (none)) else (none)) else (none)) = some r := by first | (rw [hji5] at H; exact H) | (simp only [hji5] at H ⊢; exact H)
     have hji5w : (IntKind.i64.wrap ((wrap64 ((l0.length : Int) - 1)) - z0)) = ji5 := (i64_w _).trans hji5
     by_cases c6 : 0 ≤ (ji5)
     ·rw [if_pos c6] at H
      have zm : decide (0 ≤ (ji5)) = true := decide_eq_true c6; clear c6
      by_cases c7 : (ji5) < (l0.length : Int)
      ·rw [if_pos c7] at H
       have zn : decide ((ji5) < (l0.length : Int)) = true := decide_eq_true c7; clear c7
       by_cases c8 : z1.length < 4398046511104
       ·rw [if_pos c8] at H
        have za := Aside0.mk c8; clear c8; obtain ⟨y682, hy682⟩ : ∃ y_ : List (S86), y_ = (z1 ++ [(⟨(rd_T86 l0 (ji5)).f0, (rd_T86 l0 (ji5)).f1⟩ : S86)]) := ⟨_, rfl⟩
        replace H : (gatehouselaw08_turned.l0 k1 l0 a1 y682 (wrap64 (z0 + 1))) = some r := by first | (rw [hy682]; with_reducible exact H) | (have H2_ := (Option.bind_some _ _).symm.trans H; rw [hy682]; with_reducible exact H2_) | (have H2_ := (Option.bind_some _ _).symm.trans H; with_reducible exact H2_) | with_reducible exact H | (rw [hy682]; exact H) | exact H
        have zb := Aside0.mk hy682; clear hy682; have H' := Aside0.mk H; clear H; have p681 : 0 ≤ ((ji5) : Int) := of_decide_eq_true (by first | (with_reducible assumption) | assumption); have q681 : (ji5) < (l0.length : Int) := of_decide_eq_true (by first | (with_reducible assumption) | assumption); obtain ⟨zf, e681, z3, z4⟩ := at_T86 HR0.out (ji5) p681 q681
        cases e681
        replace z3 := hC HB z3; replace z4 := hC HB z4; replace p681 := eq_true p681; replace q681 := eq_true q681
        go_wp2_with (first | ((with_reducible refine gate_builtin (b := .append) (xs := #[.tmp 15, .tmp 24]) rfl ?_); at_builtin; refine Kd.R_append k86 (w0 := w) w.heap.size rfl (.tmp 15) (.tmp 24) 30 86 (.agg #[(.string ⟨#[]⟩), (.string ⟨#[]⟩)]) 32 rfl Try.underlying30 info86 rfl (by decide) (by omega) u5 z1 (⟨(rd_T86 l0 (ji5)).f0, (rd_T86 l0 (ji5)).f1⟩ : S86) [.string ((rd_T86 l0 (ji5)).f0), .string ((rd_T86 l0 (ji5)).f1)] (fun _ => True) (fun _ => False) rfl rfl ?aP (fun _ hk => hk.elim) ?aF ?aO ?aB ?aS ?aL ?_; (case aP => exact k86_mkM _ _ _ (⟨(rd_T86 l0 (ji5)).f0, (rd_T86 l0 (ji5)).f1⟩ : S86)); (case aB => exact (hW HB)); (case aF => exact (fun _ _ => trivial)); (case aO => exact (rE z2.out)); (case aS => exact (below_size (hW HB))); (case aL => have := za.out; omega); intro v683 w9 ho hb hg hat; rw [← zb.out] at ho; replace HB := Aside0.mk (hb); have z7 := Aside0.mk (ho); clear z2; clear ho hb hg hat))
        go_roundg k1
        case measure => have := HK1.out; omega
        case rel => exact ⟨(y682), (wrap64 (z0 + 1)), (by first | rfl | (simp; done) | (simp [*]; done)), H', ⟨by have := HK1.out; omega⟩, ⟨rE z7.out⟩, ⟨hW HB⟩⟩
       ·rw [if_neg c8] at H
        exact absurd H (by simp)
      ·rw [if_neg c7] at H
       exact absurd H (by simp)
     ·rw [if_neg c6] at H
      exact absurd H (by simp)
    ·rw [if_neg c4] at H
     have ze : decide (a1 < 0) = false := decide_eq_false c4; clear c4
     by_cases c10 : (l0.length : Int) = 0
     ·rw [if_pos c10] at H
      exact absurd H (by simp)
     ·rw [if_neg c10] at H
      have zh : ((l0.length : Int) == 0) = false := beq_eq_false_iff_ne.mpr c10; have zi : ((l0.length : Int) != 0) = true := bne_iff_ne.mpr c10
      have zj : ¬ (l0 = []) := fun h_ => c10 (by rw [h_]; rfl)
      obtain ⟨ji11, hji11⟩ : ∃ j_ : Int, (Int.tmod (wrap64 (z0 + (Int.tmod a1 (l0.length : Int)))) (l0.length : Int)) = j_ := ⟨_, rfl⟩
      replace H : (if 0 ≤ (ji11) then (if (ji11) < (l0.length : Int) then (if z1.length < 4398046511104 then (gatehouselaw08_turned.l0 k1 l0 a1 (z1 ++ [(⟨(rd_T86 l0 (ji11)).f0, (rd_T86 l0 (ji11)).f1⟩ : S86)]) (wrap64 (z0 + 1))) else (none)) else (none)) else (none)) = some r := by first | (rw [hji11] at H; exact H) | (simp only [hji11] at H ⊢; exact H)
      by_cases c12 : 0 ≤ (ji11)
      ·rw [if_pos c12] at H
       have zk : decide (0 ≤ (ji11)) = true := decide_eq_true c12; clear c12
       by_cases c13 : (ji11) < (l0.length : Int)
       ·rw [if_pos c13] at H
        have zl : decide ((ji11) < (l0.length : Int)) = true := decide_eq_true c13; clear c13
        by_cases c14 : z1.length < 4398046511104
        ·rw [if_pos c14] at H
         have z9 := Aside0.mk c14; clear c14; obtain ⟨y686, hy686⟩ : ∃ y_ : List (S86), y_ = (z1 ++ [(⟨(rd_T86 l0 (ji11)).f0, (rd_T86 l0 (ji11)).f1⟩ : S86)]) := ⟨_, rfl⟩
         replace H : (gatehouselaw08_turned.l0 k1 l0 a1 y686 (wrap64 (z0 + 1))) = some r := by first | (rw [hy686]; with_reducible exact H) | (have H2_ := (Option.bind_some _ _).symm.trans H; rw [hy686]; with_reducible exact H2_) | (have H2_ := (Option.bind_some _ _).symm.trans H; with_reducible exact H2_) | with_reducible exact H | (rw [hy686]; exact H) | exact H
         have zc := Aside0.mk hy686; clear hy686; have H' := Aside0.mk H; clear H; have p685 : 0 ≤ ((ji11) : Int) := of_decide_eq_true (by first | (with_reducible assumption) | assumption); have q685 : (ji11) < (l0.length : Int) := of_decide_eq_true (by first | (with_reducible assumption) | assumption); obtain ⟨zg, e685, z5, z6⟩ := at_T86 HR0.out (ji11) p685 q685
         cases e685
         replace z5 := hC HB z5; replace z6 := hC HB z6; replace p685 := eq_true p685; replace q685 := eq_true q685
         go_wp2_with (first | ((with_reducible refine gate_builtin (b := .append) (xs := #[.tmp 26, .tmp 39]) rfl ?_); at_builtin; refine Kd.R_append k86 (w0 := w) w.heap.size rfl (.tmp 26) (.tmp 39) 30 86 (.agg #[(.string ⟨#[]⟩), (.string ⟨#[]⟩)]) 32 rfl Try.underlying30 info86 rfl (by decide) (by omega) u5 z1 (⟨(rd_T86 l0 (ji11)).f0, (rd_T86 l0 (ji11)).f1⟩ : S86) [.string ((rd_T86 l0 (ji11)).f0), .string ((rd_T86 l0 (ji11)).f1)] (fun _ => True) (fun _ => False) rfl rfl ?aP (fun _ hk => hk.elim) ?aF ?aO ?aB ?aS ?aL ?_; (case aP => exact k86_mkM _ _ _ (⟨(rd_T86 l0 (ji11)).f0, (rd_T86 l0 (ji11)).f1⟩ : S86)); (case aB => exact (hW HB)); (case aF => exact (fun _ _ => trivial)); (case aO => exact (rE z2.out)); (case aS => exact (below_size (hW HB))); (case aL => have := z9.out; omega); intro v687 w15 ho hb hg hat; rw [← zc.out] at ho; replace HB := Aside0.mk (hb); have z8 := Aside0.mk (ho); clear z2; clear ho hb hg hat))
         go_roundg k1
         case measure => have := HK1.out; omega
         case rel => exact ⟨(y686), (wrap64 (z0 + 1)), (by first | rfl | (simp; done) | (simp [*]; done)), H', ⟨by have := HK1.out; omega⟩, ⟨rE z8.out⟩, ⟨hW HB⟩⟩
        ·rw [if_neg c14] at H
         exact absurd H (by simp)
       ·rw [if_neg c13] at H
        exact absurd H (by simp)
      ·rw [if_neg c12] at H
       exact absurd H (by simp)
   ·rw [if_neg c3] at H
    have zd : decide (z0 < (l0.length : Int)) = false := decide_eq_false c3; clear c3
    obtain rfl := Option.some.inj H
    go_wp2
    go_ret
    exact ⟨_, by first | rfl | (simp [errW_none, errW_some] <;> rfl) | (simp [*, errW_none, errW_some] <;> rfl), by (with_reducible repeat (first | apply Kd.R_alloc | apply Kd.R_drewN | apply Kd.R_drew)); exact z2.out, by repeat (first | (with_reducible first | exact HB.out | apply below_alloc | apply pw_below_drewN | apply below_drew1) | exact HB.out)⟩

end Go.Proofs.Ytnkdcekddhmjnaa.F
