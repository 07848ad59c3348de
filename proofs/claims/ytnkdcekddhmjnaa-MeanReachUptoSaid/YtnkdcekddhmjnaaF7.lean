-- Written by a program of this session (mk.py over the kit's print, turned for floats and for contracts given by hand). Not trusted: Lean checks it.
import Derived.Test.YtnkdcekddhmjnaaF0
import Derived.Test.YtnkdcekddhmjnaaF1
import Derived.Test.YtnkdcekddhmjnaaF6
namespace Go.Proofs.Ytnkdcekddhmjnaa.F
open Go.RowKit Go.Proofs.YtnkdcekddhmjnaaW.PrintWords Go.Proofs.YtnkdcekddhmjnaaW.PrintLast Go.Proofs.YtnkdcekddhmjnaaW.PrintMore
attribute [local go_sem] max2_int min2_int max_two min_two max_three min_three max_four min_four   -- for this text's walks alone
attribute [local go_sem] flt_eql flt_neq flt_lss flt_leq flt_gtr flt_geq run_store_float
set_option linter.unusedVariables false
set_option linter.unusedSimpArgs false

attribute [local go_sem high] eqA36
/-! ### gatehouseref08_excepted: function 59 -/
/-! ### gatehouseref08_Allows: function 23 -/
-- NOT PRINTED: function 6 (gatehouselaw08_MeanAllows)

/-! ### gatehouselaw08_vast: function 26 -/
-- NOT PRINTED: function 64 (api_Subject)

/-! ### mean_once: function 66 -/
def mean_once.l0 : Nat → List ByteArray → List ByteArray → Int → Int → Option (List ByteArray)
 | 0, _, _, _, _ => none
 | k + 1, x3, x6, x7, x8 => if x8 < x7 then (if 0 ≤ x8 then (if x8 < (x6.length : Int) then ((slices_Contains_string_string.f k x3 (rdOf ByteArray.empty x6 x8)).bind fun t322 => (if t322 = true then (mean_once.l0 k x3 x6 x7 (wrap64 (x8 + 1))) else (if x3.length < 8796093022208 then (mean_once.l0 k (x3 ++ [rdOf ByteArray.empty x6 x8]) x6 x7 (wrap64 (x8 + 1))) else (none)))) else (none)) else (none)) else (some x3)
def mean_once.f (k : Nat) (l0 : List ByteArray) : Option (List ByteArray) := mean_once.l0 k ([] : List ByteArray) l0 (l0.length : Int) 0
set_option maxHeartbeats 8000000 in
set_option maxRecDepth 100000 in
theorem mean_once.calls (k : Nat) (A0 : Option Addr) (c0 : Nat) (l0 : List ByteArray) (r : List ByteArray) (w : World) (hr0 : Kd.C Kd.string w A0 l0.length l0) (hc0 : l0.length ≤ c0) (h : mean_once.f k l0 = some r) :
  Calls Try.prog 66 #[.slice A0 l0.length c0] w fun e w' => ∃ v0_ : Value, e = .returned (v0_) ∧ Kd.R Kd.string 9 w' w.heap.size (fun _ => True) v0_ r ∧ Below w.heap.size w w' := by
 have HR0 := Aside0.mk hr0; have HC0 := Aside0.mk hc0; clear hr0 hc0; have HB := Aside0.mk (Below.refl w.heap.size w); have H : (mean_once.l0 k ([] : List ByteArray) l0 (l0.length : Int) 0) = some r := h; clear h; have H' := Aside0.mk H; clear H
 go_enter Try.func66, Try.ntmps66
 go_wp2
 go_loopg [3, 8] k (fun kq v3 v8 w' => ∃ (z1 : List ByteArray) (z0 : Int), v8 = .int .i64 z0 ∧ Aside0 (mean_once.l0 kq z1 l0 (l0.length : Int) z0 = some r) ∧ Aside0 (kq ≤ k) ∧ Aside0 (Kd.R Kd.string 9 w' w.heap.size (fun _ => True) v3 z1) ∧ Aside0 (Below w.heap.size w w'))
 case atStart => exact ⟨(([] : List ByteArray)), (0), (by first | rfl | (simp; done) | (simp [*]; done)), H', ⟨Nat.le_refl _⟩, ⟨by first | exact Kd.R_nil _ _ _ _ _ | exact Kd.N_nil _ _ _ _ _ | exact Kd.V_nil _ _ _ _ _ | exact Kd.Q_nil _ _ _ _ _ | exact Kd.S_nil _ _ _ _ _⟩, ⟨hW HB⟩⟩
 case round =>
  clear H'; obtain ⟨z1, z0, rfl, HA, HK1, z2, HB⟩ := hrel
  cases gk with
  | zero => exact absurd HA.out (by simp [mean_once.l0])
  | succ k1 =>
   have H := HA.out; clear HA
   simp only [mean_once.l0] at H
   by_cases c2 : z0 < (l0.length : Int)
   ·rw [if_pos c2] at H
    have zb : decide (z0 < (l0.length : Int)) = true := decide_eq_true c2; clear c2
    by_cases c3 : 0 ≤ z0
    ·rw [if_pos c3] at H
     have zf : decide (0 ≤ z0) = true := decide_eq_true c3; clear c3
     by_cases c4 : z0 < (l0.length : Int)
     ·rw [if_pos c4] at H
      have zg : decide (z0 < (l0.length : Int)) = true := decide_eq_true c4; clear c4; replace H := Option.bind_eq_some_iff.mp H; obtain ⟨t322, A50, H⟩ := H; replace H : (if t322 = true then (mean_once.l0 k1 z1 l0 (l0.length : Int) (wrap64 (z0 + 1))) else (if z1.length < 8796093022208 then (mean_once.l0 k1 (z1 ++ [rdOf ByteArray.empty l0 z0]) l0 (l0.length : Int) (wrap64 (z0 + 1))) else (none))) = some r := H; have A5 := Aside0.mk A50; clear A50
      by_cases c6 : t322 = true
      ·subst c6
       have H1 : (mean_once.l0 k1 z1 l0 (l0.length : Int) (wrap64 (z0 + 1))) = some r := by rw [if_pos rfl] at H; exact H
       clear H; have H := H1; clear H1; have H' := Aside0.mk H; clear H; have p321 : 0 ≤ (z0 : Int) := of_decide_eq_true (by first | (with_reducible assumption) | assumption); have q321 : z0 < (l0.length : Int) := of_decide_eq_true (by first | (with_reducible assumption) | assumption); obtain ⟨za, e321, z3⟩ := Kd.at_string HR0.out z0 p321 q321
       cases e321
       replace z3 := hC HB z3; replace p321 := eq_true p321; replace q321 := eq_true q321; obtain ⟨z6, zc, zd⟩ := Kd.R_slice z2.out
       subst zd
       go_wp2_with (first | ((with_reducible refine gate_callee (f := 47) rfl ?_); refine goesL_ (some 14) rfl rfl Try.func47 (by kernel_rfl) rfl #[.slice z6 z1.length zc, .string (rdOf ByteArray.empty l0 z0)] rfl (by (try simp only [List.map_toArray, List.map_cons, List.map_nil]); first | done | rfl | (simp only [List.length_drop, List.length_take]; rfl)) ?_; (with_reducible refine (slices_Contains_string_string.calls k1 _ _ z1 (rdOf ByteArray.empty l0 z0) true _ ?side1 ?side2 A5.out).mono ?_); (case side1 => exact cE (Kd.R_reads' z2.out).2.2); (case side2 => exact (Kd.R_reads' z2.out).2.1); rintro e w' ⟨rfl, ⟨nd, rfl⟩⟩; refine ⟨_, rfl, ?_⟩))
       go_roundg k1
       case measure => have := HK1.out; omega
       case rel => exact ⟨(z1), (wrap64 (z0 + 1)), (by first | rfl | (simp; done) | (simp [*]; done)), H', ⟨by have := HK1.out; omega⟩, ⟨rE z2.out⟩, ⟨hW HB⟩⟩
      ·replace c6 := Bool.eq_false_iff.mpr c6
       subst c6
       have H1 : (if z1.length < 8796093022208 then (mean_once.l0 k1 (z1 ++ [rdOf ByteArray.empty l0 z0]) l0 (l0.length : Int) (wrap64 (z0 + 1))) else (none)) = some r := by rw [if_neg (show ¬ (false = true) by decide)] at H; exact H
       clear H; have H := H1; clear H1
       by_cases c8 : z1.length < 8796093022208
       ·rw [if_pos c8] at H
        have z8 := Aside0.mk c8; clear c8; obtain ⟨y323, hy323⟩ : ∃ y_ : List ByteArray, y_ = (z1 ++ [rdOf ByteArray.empty l0 z0]) := ⟨_, rfl⟩
        replace H : (mean_once.l0 k1 y323 l0 (l0.length : Int) (wrap64 (z0 + 1))) = some r := by first | (rw [hy323]; with_reducible exact H) | (have H2_ := (Option.bind_some _ _).symm.trans H; rw [hy323]; with_reducible exact H2_) | (have H2_ := (Option.bind_some _ _).symm.trans H; with_reducible exact H2_) | with_reducible exact H | (rw [hy323]; exact H) | exact H
        have z9 := Aside0.mk hy323; clear hy323; have H' := Aside0.mk H; clear H; have p321 : 0 ≤ (z0 : Int) := of_decide_eq_true (by first | (with_reducible assumption) | assumption); have q321 : z0 < (l0.length : Int) := of_decide_eq_true (by first | (with_reducible assumption) | assumption); obtain ⟨za, e321, z3⟩ := Kd.at_string HR0.out z0 p321 q321
        cases e321
        replace z3 := hC HB z3; replace p321 := eq_true p321; replace q321 := eq_true q321; obtain ⟨z4, z5, ze⟩ := Kd.R_slice z2.out
        subst ze
        go_wp2_with (first | ((with_reducible refine gate_callee (f := 47) rfl ?_); refine goesL_ (some 14) rfl rfl Try.func47 (by kernel_rfl) rfl #[.slice z4 z1.length z5, .string (rdOf ByteArray.empty l0 z0)] rfl (by (try simp only [List.map_toArray, List.map_cons, List.map_nil]); first | done | rfl | (simp only [List.length_drop, List.length_take]; rfl)) ?_; (with_reducible refine (slices_Contains_string_string.calls k1 _ _ z1 (rdOf ByteArray.empty l0 z0) false _ ?side1 ?side2 A5.out).mono ?_); (case side1 => exact cE (Kd.R_reads' z2.out).2.2); (case side2 => exact (Kd.R_reads' z2.out).2.1); rintro e w' ⟨rfl, ⟨nd, rfl⟩⟩; refine ⟨_, rfl, ?_⟩) | ((with_reducible refine gate_builtin (b := .append) (xs := #[.tmp 16, .tmp 18]) rfl ?_); at_builtin; refine Kd.R_append Kd.string (w0 := w) w.heap.size rfl (.tmp 16) (.tmp 18) 25 9 (.string ⟨#[]⟩) 16 rfl Try.underlying25 info9 rfl (by decide) (by omega) (.slice z4 z1.length z5) z1 (rdOf ByteArray.empty l0 z0) [.string (rdOf ByteArray.empty l0 z0)] (fun _ => True) (fun _ => False) rfl rfl ?aP (fun _ hk => hk.elim) ?aF ?aO ?aB ?aS ?aL ?_; (case aP => exact rfl); (case aB => exact (hW HB)); (case aF => exact (fun _ _ => trivial)); (case aO => exact (rE z2.out)); (case aS => exact (below_size (hW HB))); (case aL => have := z8.out; omega); intro v324 w10 ho hb hg hat; rw [← z9.out] at ho; replace HB := Aside0.mk (hb); have z7 := Aside0.mk (ho); clear z2; clear ho hb hg hat))
        go_roundg k1
        case measure => have := HK1.out; omega
        case rel => exact ⟨(y323), (wrap64 (z0 + 1)), (by first | rfl | (simp; done) | (simp [*]; done)), H', ⟨by have := HK1.out; omega⟩, ⟨rE z7.out⟩, ⟨hW HB⟩⟩
       ·rw [if_neg c8] at H
        exact absurd H (by simp)
     ·rw [if_neg c4] at H
      exact absurd H (by simp)
    ·rw [if_neg c3] at H
     exact absurd H (by simp)
   ·rw [if_neg c2] at H
    have zb : decide (z0 < (l0.length : Int)) = false := decide_eq_false c2; clear c2
    obtain rfl := Option.some.inj H
    go_wp2
    go_ret
    exact ⟨_, by first | rfl | (simp [errW_none, errW_some] <;> rfl) | (simp [*, errW_none, errW_some] <;> rfl), by (with_reducible repeat (first | apply Kd.R_alloc | apply Kd.R_drewN | apply Kd.R_drew)); exact z2.out, by repeat (first | (with_reducible first | exact HB.out | apply below_alloc | apply pw_below_drewN | apply below_drew1) | exact HB.out)⟩

-- by hand: function 28 (mean_Relation)

/-! ### gatehouselaw08_tri: function 40 -/
def gatehouselaw08_tri.f (a0 : ByteArray) (a1 : ByteArray) (a2 : ByteArray) : Option (ByteArray × ByteArray × ByteArray) := some (a0, a1, a2)
set_option maxHeartbeats 8000000 in
set_option maxRecDepth 100000 in
theorem gatehouselaw08_tri.calls (a0 : ByteArray) (a1 : ByteArray) (a2 : ByteArray) (r1 : ByteArray) (r2 : ByteArray) (r3 : ByteArray) (w : World) (h : gatehouselaw08_tri.f a0 a1 a2 = some (r1, r2, r3)) :
  Calls Try.prog 40 #[.string a0, .string a1, .string a2] w fun e w' => e = .returned (.agg #[.string r1, .string r2, .string r3]) ∧ Below w.heap.size w w' := by
 have hu36 := Try.underlying36; have HB := Aside0.mk (Below.refl w.heap.size w); have H : (some (a0, a1, a2)) = some (r1, r2, r3) := h; clear h
 simp only [Option.some.injEq, Prod.mk.injEq] at H
 obtain ⟨rfl, rfl, rfl⟩ := H
 go_enter Try.func40, Try.ntmps40
 go_wp2_with (first | ((with_reducible refine gate_dst (N := 6) rfl ?_); refine box_event ?hg (N := 6) ?hd (cs := #[.string (⟨#[]⟩ : ByteArray), .string (⟨#[]⟩ : ByteArray), .string (⟨#[]⟩ : ByteArray)]) (t := 36) ?hr ?_; (case hd => rfl); (case hg => rfl); (case hr => first | (go_simp; done) | (go_simp; rfl)); intro z0 hg w4 hbox hb; have z1 := Aside0.mk (hbox); have z3 := Aside0.mk ((by rw [hg]; exact (below_size (hW HB)) : w.heap.size ≤ z0)); have z2 := Aside0.mk ((by rw [hg]; exact (below_size (hW HB)) : w.heap.size ≤ z0)); replace HB := hF HB hb; clear hb hbox hg; obtain ⟨z4, z5, z6, z7, z8, z9⟩ := bC3 z1))
 refine bodyPost_ret (results_cell_row rfl _ _ z0 36 #[.string a0, .string a1, .string a2] (0, 0) _ rfl (pK z1) Try.underlying36 rfl (by kernel_rfl)) rfl ?_
 exact ⟨by first | rfl | (simp [errW_none, errW_some] <;> rfl) | (simp [*, errW_none, errW_some] <;> rfl), by repeat (first | (with_reducible first | exact HB.out | apply below_alloc | apply pw_below_drewN | apply below_drew1 | refine below_set ?_ z2.out) | exact HB.out)⟩

-- by hand: function 30 (gatehouselaw08_alive)

/-! ### gatehouselaw08_texts: function 67 -/
end Go.Proofs.Ytnkdcekddhmjnaa.F
