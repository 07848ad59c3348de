import Derived.Test.YteefneemmdfncaaF0
-- Written by a program of this session (mk.py over the kit's print, turned for floats and for contracts given by hand). Not trusted: Lean checks it.
namespace Go.Proofs.Yteefneemmdfncaa.F
open Go.RowKit Go.Proofs.YteefneemmdfncaaW.PrintWords Go.Proofs.YteefneemmdfncaaW.PrintLast Go.Proofs.YteefneemmdfncaaW.PrintMore
attribute [local go_sem] max2_int min2_int max_two min_two max_three min_three max_four min_four   -- for this text's walks alone
attribute [local go_sem] flt_eql flt_neq flt_lss flt_leq flt_gtr flt_geq run_store_float
set_option linter.unusedVariables false
set_option linter.unusedSimpArgs false

/-! ### gatehouselaw13_triples: function 77 -/
def gatehouselaw13_triples.l0 : Nat → List (S30) → List (S30) → Int → Option ((List (S30)))
 | 0, _, _, _ => none
 | k + 1, x0, x3, x4 => if x4 < 20 then (if x3.length < 2932031007402 then (gatehouselaw13_triples.l0 k x0 (x3 ++ [(⟨(⟨#[115, 112, 97, 114, 101]⟩ : ByteArray), (⟨#[]⟩ : ByteArray), (⟨#[]⟩ : ByteArray)⟩ : S30)]) (wrap64 (x4 + 1))) else (none)) else (if 0 ≤ (x0.length : Int) then (if (x0.length : Int) ≤ (x3.length : Int) then (some (x3.take ((x0.length : Int) : Int).toNat)) else (none)) else (none))
def gatehouselaw13_triples.f (k : Nat) (l0 : List (S30)) : Option ((List (S30))) := if ([] : List (S30)).length + l0.length < 2932031007402 then (gatehouselaw13_triples.l0 k l0 (([] : List (S30)) ++ l0) 0) else (none)
set_option maxHeartbeats 8000000 in
set_option maxRecDepth 100000 in
theorem gatehouselaw13_triples.calls (k : Nat) (A0 : Option Addr) (c0 : Nat) (l0 : List (S30)) (r : List (S30)) (w : World) (hr0 : Kd.C k30 w A0 l0.length l0) (hc0 : l0.length ≤ c0) (h : gatehouselaw13_triples.f k l0 = some r) :
  Calls Try.prog 77 #[.slice A0 l0.length c0] w fun e w' => ∃ v0_ : Value, e = .returned (v0_) ∧ Kd.R k30 30 w' w.heap.size (fun _ => True) v0_ r ∧ Below w.heap.size w w' := by
 have hu30 := Try.underlying30; have HR0 := Aside0.mk hr0; have HC0 := Aside0.mk hc0; clear hr0 hc0; have HB := Aside0.mk (Below.refl w.heap.size w); have H : (if ([] : List (S30)).length + l0.length < 2932031007402 then (gatehouselaw13_triples.l0 k l0 (([] : List (S30)) ++ l0) 0) else (none)) = some r := h; clear h
 by_cases c2 : ([] : List (S30)).length + l0.length < 2932031007402
 ·rw [if_pos c2] at H
  have z8 := Aside0.mk c2; clear c2; obtain ⟨y539, hy539⟩ : ∃ y_ : List (S30), y_ = (([] : List (S30)) ++ l0) := ⟨_, rfl⟩
  replace H : (gatehouselaw13_triples.l0 k l0 y539 0) = some r := by first | (rw [hy539]; with_reducible exact H) | (have H2_ := (Option.bind_some _ _).symm.trans H; rw [hy539]; with_reducible exact H2_) | (have H2_ := (Option.bind_some _ _).symm.trans H; with_reducible exact H2_) | with_reducible exact H | (rw [hy539]; exact H) | exact H
  have za := Aside0.mk hy539; clear hy539; have H' := Aside0.mk H; clear H
  go_enter Try.func77, Try.ntmps77
  go_wp2_with (first | ((with_reducible refine gate_builtin (b := .append) (xs := #[.tmp 5, .tmp 6]) rfl ?_); at_builtin; refine Kd.R_append_rows k30 (w0 := w) w.heap.size rfl (.tmp 5) (.tmp 6) 26 30 (.agg #[(.string ⟨#[]⟩), (.string ⟨#[]⟩), (.string ⟨#[]⟩)]) 48 rfl Try.underlying26 info30 rfl (by decide) (by omega) (.slice none 0 0) ([] : List (S30)) l0 _ _ _ (fun _ => True) (fun _ => False) rfl rfl ?aO ?aR (fun _ _ h => h) (fun _ h => h.elim) ?aF ?aB ?aS ?aL ?_; (case aR => repeat (first | exact HR0.out | (with_reducible refine Kd.C_alloc ?_ _) | (with_reducible refine Kd.C_drewN ?_ _) | (with_reducible refine Kd.C_drew ?_))); (case aB => exact (hW HB)); (case aF => exact (fun _ _ => trivial)); (case aO => exact ((Kd.R_nil _ _ _ _ (fun _ => True)))); (case aS => exact (below_size (hW HB))); (case aL => have := z8.out; omega); intro v540 w3 ho hb hg hat; rw [← za.out] at ho; replace HB := Aside0.mk (hb); have z5 := Aside0.mk (ho); clear ho hb hg hat))
  go_loopg [3, 4] k (fun kq v3 v4 w' => ∃ (z0 : List (S30)) (z1 : Int), v4 = .int .i64 z1 ∧ Aside0 (gatehouselaw13_triples.l0 kq l0 z0 z1 = some r) ∧ Aside0 (kq ≤ k) ∧ Aside0 (Kd.R k30 30 w' w.heap.size (fun _ => True) v3 z0) ∧ Aside0 (Below w.heap.size w w'))
  case atStart => exact ⟨(y539), (0), (by first | rfl | (simp; done) | (simp [*]; done)), H', ⟨Nat.le_refl _⟩, ⟨rE z5.out⟩, ⟨hW HB⟩⟩
  case round =>
   clear H'
   try clear c2
   try clear p2
   obtain ⟨z0, z1, rfl, HA, HK1, z2, HB⟩ := hrel
   cases gk with
   | zero => exact absurd HA.out (by simp [gatehouselaw13_triples.l0])
   | succ k1 =>
    have H := HA.out; clear HA
    simp only [gatehouselaw13_triples.l0] at H
    by_cases c4 : z1 < 20
    ·rw [if_pos c4] at H
     have zc : decide (z1 < 20) = true := decide_eq_true c4; clear c4
     by_cases c5 : z0.length < 2932031007402
     ·rw [if_pos c5] at H
      have z9 := Aside0.mk c5; clear c5; obtain ⟨y542, hy542⟩ : ∃ y_ : List (S30), y_ = (z0 ++ [(⟨(⟨#[115, 112, 97, 114, 101]⟩ : ByteArray), (⟨#[]⟩ : ByteArray), (⟨#[]⟩ : ByteArray)⟩ : S30)]) := ⟨_, rfl⟩
      replace H : (gatehouselaw13_triples.l0 k1 l0 y542 (wrap64 (z1 + 1))) = some r := by first | (rw [hy542]; with_reducible exact H) | (have H2_ := (Option.bind_some _ _).symm.trans H; rw [hy542]; with_reducible exact H2_) | (have H2_ := (Option.bind_some _ _).symm.trans H; with_reducible exact H2_) | with_reducible exact H | (rw [hy542]; exact H) | exact H
      have zb := Aside0.mk hy542; clear hy542; have H' := Aside0.mk H; clear H
      go_wp2_with (first | ((with_reducible refine gate_builtin (b := .append) (xs := #[.tmp 12, .tmp 14]) rfl ?_); at_builtin; refine Kd.R_append k30 (w0 := w) w.heap.size rfl (.tmp 12) (.tmp 14) 26 30 (.agg #[(.string ⟨#[]⟩), (.string ⟨#[]⟩), (.string ⟨#[]⟩)]) 48 rfl Try.underlying26 info30 rfl (by decide) (by omega) u3 z0 (⟨(⟨#[115, 112, 97, 114, 101]⟩ : ByteArray), (⟨#[]⟩ : ByteArray), (⟨#[]⟩ : ByteArray)⟩ : S30) [.string (⟨#[115, 112, 97, 114, 101]⟩ : ByteArray), .string (⟨#[]⟩ : ByteArray), .string (⟨#[]⟩ : ByteArray)] (fun _ => True) (fun _ => False) rfl rfl ?aP (fun _ hk => hk.elim) ?aF ?aO ?aB ?aS ?aL ?_; (case aP => exact k30_mkM _ _ _ (⟨(⟨#[115, 112, 97, 114, 101]⟩ : ByteArray), (⟨#[]⟩ : ByteArray), (⟨#[]⟩ : ByteArray)⟩ : S30)); (case aB => exact (hW HB)); (case aF => exact (fun _ _ => trivial)); (case aO => exact (rE z2.out)); (case aS => exact (below_size (hW HB))); (case aL => have := z9.out; omega); intro v543 w6 ho hb hg hat; rw [← zb.out] at ho; replace HB := Aside0.mk (hb); have z6 := Aside0.mk (ho); clear z2; clear ho hb hg hat))
      go_roundg k1
      case measure => have := HK1.out; omega
      case rel => exact ⟨(y542), (wrap64 (z1 + 1)), (by first | rfl | (simp; done) | (simp [*]; done)), H', ⟨by have := HK1.out; omega⟩, ⟨rE z6.out⟩, ⟨hW HB⟩⟩
     ·rw [if_neg c5] at H
      exact absurd H (by simp)
    ·rw [if_neg c4] at H
     have zc : decide (z1 < 20) = false := decide_eq_false c4; clear c4
     by_cases c7 : 0 ≤ (l0.length : Int)
     ·rw [if_pos c7] at H
      have zf := eq_true c7; have zg : decide (0 ≤ (l0.length : Int)) = true := decide_eq_true c7; clear c7
      by_cases c8 : (l0.length : Int) ≤ (z0.length : Int)
      ·rw [if_pos c8] at H
       have zh := eq_true c8; have zi : decide ((l0.length : Int) ≤ (z0.length : Int)) = true := decide_eq_true c8; clear c8; obtain ⟨y545, hy545⟩ : ∃ y_ : List (S30), y_ = (z0.take ((l0.length : Int) : Int).toNat) := ⟨_, rfl⟩
       replace H : (some y545) = some r := by first | (rw [hy545]; with_reducible exact H) | (have H2_ := (Option.bind_some _ _).symm.trans H; rw [hy545]; with_reducible exact H2_) | (have H2_ := (Option.bind_some _ _).symm.trans H; with_reducible exact H2_) | with_reducible exact H | (rw [hy545]; exact H) | exact H
       have z3 := Aside0.mk hy545; clear hy545
       obtain rfl := Option.some.inj H
       obtain ⟨z4, zd, ze⟩ := Kd.R_slice z2.out
       subst ze
       have q10 : ((l0.length : Int) : Int) ≤ ((z0.length : Int) : Int) := of_decide_eq_true (by first | (with_reducible assumption) | assumption); obtain ⟨i010, hi010, _, hsz10, _⟩ := info_parts info30; have hcut10 := cut_to (P := Try.prog) 26 30 .i64 Try.underlying26 hi010 z4 z0.length zd (l0.length : Int) (of_decide_eq_true (by first | (with_reducible assumption) | assumption)) q10 (Kd.R_reads' z2.out).2.1; have hr10 := Kd.R_take (m := ((l0.length : Int) : Int).toNat) z2.out (by omega); have hy10 : y545.length = ((l0.length : Int) : Int).toNat := (by rw [z3.out, List.length_take]; omega)
       rw [← z3.out] at hr10
       rw [← hy10] at hr10 hcut10
       clear hy10 hi010 hsz10 z2; have z7 := Aside0.mk hr10; clear hr10; replace q10 := eq_true q10
       go_wp2
       go_ret
       exact ⟨_, by first | rfl | (simp [errW_none, errW_some] <;> rfl) | (simp [*, errW_none, errW_some] <;> rfl), by (with_reducible repeat (first | apply Kd.R_alloc | apply Kd.R_drewN | apply Kd.R_drew)); exact z7.out, by repeat (first | (with_reducible first | exact HB.out | apply below_alloc | apply pw_below_drewN | apply below_drew1) | exact HB.out)⟩
      ·rw [if_neg c8] at H
       exact absurd H (by simp)
     ·rw [if_neg c7] at H
      exact absurd H (by simp)
 ·rw [if_neg c2] at H
  exact absurd H (by simp)

end Go.Proofs.Yteefneemmdfncaa.F
