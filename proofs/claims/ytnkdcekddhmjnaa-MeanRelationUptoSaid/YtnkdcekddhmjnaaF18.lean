import Derived.Test.YtnkdcekddhmjnaaF0
import Derived.Test.YtnkdcekddhmjnaaF6
import Derived.Test.YtnkdcekddhmjnaaAx
import Derived.Test.YtnkdcekddhmjnaaSC
import Derived.Test.YtnkdcekddhmjnaaPF
import Derived.Test.YtnkdcekddhmjnaaPA
-- Written by a program of this session (mk.py over the kit's print, turned for floats and for contracts given by hand). Not trusted: Lean checks it.
namespace Go.Proofs.Ytnkdcekddhmjnaa.F
open Go.RowKit Go.Proofs.YtnkdcekddhmjnaaW.PrintWords Go.Proofs.YtnkdcekddhmjnaaW.PrintLast Go.Proofs.YtnkdcekddhmjnaaW.PrintMore
attribute [local go_sem] max2_int min2_int max_two min_two max_three min_three max_four min_four   -- for this text's walks alone
attribute [local go_sem] flt_eql flt_neq flt_lss flt_leq flt_gtr flt_geq run_store_float
set_option linter.unusedVariables false
set_option linter.unusedSimpArgs false

/-! ### gatehouselaw08_there: function 39 -/
-- by hand: function 41 (reach_Path)

/-! ### gatehouselaw08_joined: function 42 -/
/-! ### gatehouselaw08_MeanReach: function 15 -/
def gatehouselaw08_MeanReach.B2 : List Nat := [0, 1, 0, 4, 15, 0, 32, 0, 128, 511, 1023]
def gatehouselaw08_MeanReach.T3 : Bool × List (List Nat × List Nat) := (true, [([], []), ([0], [0]), ([], []), ([2], [2]), ([1, 3], [1, 3]), ([], []), ([5], [5]), ([], []), ([7], [7]), ([4, 6, 8, 4], [4, 6, 8]), ([9, 9, 0, 1, 2, 3, 4, 5, 6, 7, 8, 9], [9])])
/-! ### gatehouseref08_first: function 60 -/
def gatehouseref08_first.l0 : Nat → List ByteArray → List ByteArray → Int → Option (List ByteArray)
 | 0, _, _, _ => none
 | k + 1, x0, x3, x4 => if x4 < (x0.length : Int) then (if 0 ≤ x4 then ((gatehouseref08_in.f k x3 (rdOf ByteArray.empty x0 x4)).bind fun t809 => (if t809 = true then (gatehouseref08_first.l0 k x0 x3 (wrap64 (x4 + 1))) else (if x3.length < 8796093022208 then (gatehouseref08_first.l0 k x0 (x3 ++ [rdOf ByteArray.empty x0 x4]) (wrap64 (x4 + 1))) else (none)))) else (none)) else (some x3)
def gatehouseref08_first.f (k : Nat) (l0 : List ByteArray) : Option (List ByteArray) := gatehouseref08_first.l0 k l0 ([] : List ByteArray) 0
set_option maxHeartbeats 8000000 in
set_option maxRecDepth 100000 in
theorem gatehouseref08_first.calls (k : Nat) (A0 : Option Addr) (c0 : Nat) (l0 : List ByteArray) (r : List ByteArray) (w : World) (hr0 : Kd.C Kd.string w A0 l0.length l0) (hc0 : l0.length ≤ c0) (h : gatehouseref08_first.f k l0 = some r) :
  Calls Try.prog 60 #[.slice A0 l0.length c0] w fun e w' => ∃ v0_ : Value, e = .returned (v0_) ∧ Kd.R Kd.string 9 w' w.heap.size (fun _ => True) v0_ r ∧ Below w.heap.size w w' := by
 have HR0 := Aside0.mk hr0; have HC0 := Aside0.mk hc0; clear hr0 hc0; have HB := Aside0.mk (Below.refl w.heap.size w); have H : (gatehouseref08_first.l0 k l0 ([] : List ByteArray) 0) = some r := h; clear h; have H' := Aside0.mk H; clear H
 go_enter Try.func60, Try.ntmps60
 go_wp2
 go_loopg [3, 4] k (fun kq v3 v4 w' => ∃ (z1 : List ByteArray) (z0 : Int), v4 = .int .i64 z0 ∧ Aside0 (gatehouseref08_first.l0 kq l0 z1 z0 = some r) ∧ Aside0 (kq ≤ k) ∧ Aside0 (Kd.R Kd.string 9 w' w.heap.size (fun _ => True) v3 z1) ∧ Aside0 (Below w.heap.size w w'))
 case atStart => exact ⟨(([] : List ByteArray)), (0), (by first | rfl | (simp; done) | (simp [*]; done)), H', ⟨Nat.le_refl _⟩, ⟨by first | exact Kd.R_nil _ _ _ _ _ | exact Kd.N_nil _ _ _ _ _ | exact Kd.V_nil _ _ _ _ _ | exact Kd.Q_nil _ _ _ _ _ | exact Kd.S_nil _ _ _ _ _⟩, ⟨hW HB⟩⟩
 case round =>
  clear H'; obtain ⟨z1, z0, rfl, HA, HK1, z2, HB⟩ := hrel
  cases gk with
  | zero => exact absurd HA.out (by simp [gatehouseref08_first.l0])
  | succ k1 =>
   have H := HA.out; clear HA
   simp only [gatehouseref08_first.l0] at H
   by_cases c2 : z0 < (l0.length : Int)
   ·rw [if_pos c2] at H
    have zd : decide (z0 < (l0.length : Int)) = true := decide_eq_true c2; clear c2
    by_cases c3 : 0 ≤ z0
    ·rw [if_pos c3] at H
     have zh : decide (0 ≤ z0) = true := decide_eq_true c3; clear c3; replace H := Option.bind_eq_some_iff.mp H; obtain ⟨t809, A40, H⟩ := H; replace H : (if t809 = true then (gatehouseref08_first.l0 k1 l0 z1 (wrap64 (z0 + 1))) else (if z1.length < 8796093022208 then (gatehouseref08_first.l0 k1 l0 (z1 ++ [rdOf ByteArray.empty l0 z0]) (wrap64 (z0 + 1))) else (none))) = some r := H; have A4 := Aside0.mk A40; clear A40
     by_cases c5 : t809 = true
     ·subst c5
      have H1 : (gatehouseref08_first.l0 k1 l0 z1 (wrap64 (z0 + 1))) = some r := by rw [if_pos rfl] at H; exact H
      clear H; have H := H1; clear H1; have H' := Aside0.mk H; clear H; have p808 : 0 ≤ (z0 : Int) := of_decide_eq_true (by first | (with_reducible assumption) | assumption); have q808 : z0 < (l0.length : Int) := of_decide_eq_true (by first | (with_reducible assumption) | assumption); obtain ⟨z5, e808, z3⟩ := Kd.at_string HR0.out z0 p808 q808
      cases e808
      replace z3 := hC HB z3; replace p808 := eq_true p808; replace q808 := eq_true q808; obtain ⟨z8, ze, zf⟩ := Kd.R_slice z2.out
      subst zf
      go_wp2_with (first | ((with_reducible refine gate_callee (f := 51) rfl ?_); refine goesL_ (some 17) rfl rfl Try.func51 (by kernel_rfl) rfl #[.slice z8 z1.length ze, .string (rdOf ByteArray.empty l0 z0)] rfl (by (try simp only [List.map_toArray, List.map_cons, List.map_nil]); first | done | rfl | (simp only [List.length_drop, List.length_take]; rfl)) ?_; (with_reducible refine (gatehouseref08_in.calls k1 _ _ z1 (rdOf ByteArray.empty l0 z0) true _ ?side1 ?side2 A4.out).mono ?_); (case side1 => exact cE (Kd.R_reads' z2.out).2.2); (case side2 => exact (Kd.R_reads' z2.out).2.1); rintro e w' ⟨rfl, ⟨nd, rfl⟩⟩; refine ⟨_, rfl, ?_⟩))
      go_roundg k1
      case measure => have := HK1.out; omega
      case rel => exact ⟨(z1), (wrap64 (z0 + 1)), (by first | rfl | (simp; done) | (simp [*]; done)), H', ⟨by have := HK1.out; omega⟩, ⟨rE z2.out⟩, ⟨hW HB⟩⟩
     ·replace c5 := Bool.eq_false_iff.mpr c5
      subst c5
      have H1 : (if z1.length < 8796093022208 then (gatehouseref08_first.l0 k1 l0 (z1 ++ [rdOf ByteArray.empty l0 z0]) (wrap64 (z0 + 1))) else (none)) = some r := by rw [if_neg (show ¬ (false = true) by decide)] at H; exact H
      clear H; have H := H1; clear H1
      by_cases c7 : z1.length < 8796093022208
      ·rw [if_pos c7] at H
       have za := Aside0.mk c7; clear c7; obtain ⟨y811, hy811⟩ : ∃ y_ : List ByteArray, y_ = (z1 ++ [rdOf ByteArray.empty l0 z0]) := ⟨_, rfl⟩
       replace H : (gatehouseref08_first.l0 k1 l0 y811 (wrap64 (z0 + 1))) = some r := by first | (rw [hy811]; with_reducible exact H) | (have H2_ := (Option.bind_some _ _).symm.trans H; rw [hy811]; with_reducible exact H2_) | (have H2_ := (Option.bind_some _ _).symm.trans H; with_reducible exact H2_) | with_reducible exact H | (rw [hy811]; exact H) | exact H
       have zb := Aside0.mk hy811; clear hy811; have H' := Aside0.mk H; clear H; have p808 : 0 ≤ (z0 : Int) := of_decide_eq_true (by first | (with_reducible assumption) | assumption); have q808 : z0 < (l0.length : Int) := of_decide_eq_true (by first | (with_reducible assumption) | assumption); obtain ⟨z5, e808, z3⟩ := Kd.at_string HR0.out z0 p808 q808
       cases e808
       replace z3 := hC HB z3; replace p808 := eq_true p808; replace q808 := eq_true q808; obtain ⟨z4, z6, zg⟩ := Kd.R_slice z2.out
       subst zg
       go_wp2_with (first | ((with_reducible refine gate_callee (f := 51) rfl ?_); refine goesL_ (some 17) rfl rfl Try.func51 (by kernel_rfl) rfl #[.slice z4 z1.length z6, .string (rdOf ByteArray.empty l0 z0)] rfl (by (try simp only [List.map_toArray, List.map_cons, List.map_nil]); first | done | rfl | (simp only [List.length_drop, List.length_take]; rfl)) ?_; (with_reducible refine (gatehouseref08_in.calls k1 _ _ z1 (rdOf ByteArray.empty l0 z0) false _ ?side1 ?side2 A4.out).mono ?_); (case side1 => exact cE (Kd.R_reads' z2.out).2.2); (case side2 => exact (Kd.R_reads' z2.out).2.1); rintro e w' ⟨rfl, ⟨nd, rfl⟩⟩; refine ⟨_, rfl, ?_⟩; have p810 : 0 ≤ (z0 : Int) := of_decide_eq_true (by first | (with_reducible assumption) | assumption); have q810 : z0 < (l0.length : Int) := of_decide_eq_true (by first | (with_reducible assumption) | assumption); obtain ⟨zc, e810, z7⟩ := Kd.at_string HR0.out z0 p810 q810; obtain rfl : z5 = zc := (by injection e810); replace z7 := hC HB z7; replace p810 := eq_true p810; replace q810 := eq_true q810) | ((with_reducible refine gate_builtin (b := .append) (xs := #[.tmp 20, .tmp 25]) rfl ?_); at_builtin; refine Kd.R_append Kd.string (w0 := w) w.heap.size rfl (.tmp 20) (.tmp 25) 25 9 (.string ⟨#[]⟩) 16 rfl Try.underlying25 info9 rfl (by decide) (by omega) (.slice z4 z1.length z6) z1 (rdOf ByteArray.empty l0 z0) [.string (rdOf ByteArray.empty l0 z0)] (fun _ => True) (fun _ => False) rfl rfl ?aP (fun _ hk => hk.elim) ?aF ?aO ?aB ?aS ?aL ?_; (case aP => exact rfl); (case aB => exact (hW HB)); (case aF => exact (fun _ _ => trivial)); (case aO => exact (rE z2.out)); (case aS => exact (below_size (hW HB))); (case aL => have := za.out; omega); intro v812 w9 ho hb hg hat; rw [← zb.out] at ho; replace HB := Aside0.mk (hb); have z9 := Aside0.mk (ho); clear z2; clear ho hb hg hat))
       go_roundg k1
       case measure => have := HK1.out; omega
       case rel => exact ⟨(y811), (wrap64 (z0 + 1)), (by first | rfl | (simp; done) | (simp [*]; done)), H', ⟨by have := HK1.out; omega⟩, ⟨rE z9.out⟩, ⟨hW HB⟩⟩
      ·rw [if_neg c7] at H
       exact absurd H (by simp)
    ·rw [if_neg c3] at H
     exact absurd H (by simp)
   ·rw [if_neg c2] at H
    have zd : decide (z0 < (l0.length : Int)) = false := decide_eq_false c2; clear c2
    obtain rfl := Option.some.inj H
    go_wp2
    go_ret
    exact ⟨_, by first | rfl | (simp [errW_none, errW_some] <;> rfl) | (simp [*, errW_none, errW_some] <;> rfl), by (with_reducible repeat (first | apply Kd.R_alloc | apply Kd.R_drewN | apply Kd.R_drew)); exact z2.out, by repeat (first | (with_reducible first | exact HB.out | apply below_alloc | apply pw_below_drewN | apply below_drew1) | exact HB.out)⟩

end Go.Proofs.Ytnkdcekddhmjnaa.F
