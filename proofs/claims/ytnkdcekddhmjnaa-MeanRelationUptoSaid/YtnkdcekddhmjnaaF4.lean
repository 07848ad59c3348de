import Derived.Test.YtnkdcekddhmjnaaF0
import Derived.Test.YtnkdcekddhmjnaaF3
-- Written by a program of this session (mk.py over the kit's print, turned for floats and for contracts given by hand). Not trusted: Lean checks it.
namespace Go.Proofs.Ytnkdcekddhmjnaa.F
open Go.RowKit Go.Proofs.YtnkdcekddhmjnaaW.PrintWords Go.Proofs.YtnkdcekddhmjnaaW.PrintLast Go.Proofs.YtnkdcekddhmjnaaW.PrintMore
attribute [local go_sem] max2_int min2_int max_two min_two max_three min_three max_four min_four   -- for this text's walks alone
attribute [local go_sem] flt_eql flt_neq flt_lss flt_leq flt_gtr flt_geq run_store_float
set_option linter.unusedVariables false
set_option linter.unusedSimpArgs false

attribute [local go_sem high] eqA86
/-! ### gatehouselaw08_longer: function 43 -/
def gatehouselaw08_longer.f (l0 : List ByteArray) : Option (List ByteArray) := if ([] : List ByteArray).length + l0.length < 8796093022208 then ((some (([] : List ByteArray) ++ l0 : List ByteArray)).bind fun y101 => (if y101.length < 8796093022208 then (some (y101 ++ [(⟨#[35]⟩ : ByteArray)])) else (none))) else (none)
set_option maxHeartbeats 8000000 in
set_option maxRecDepth 100000 in
theorem gatehouselaw08_longer.calls (A0 : Option Addr) (c0 : Nat) (l0 : List ByteArray) (r : List ByteArray) (w : World) (hr0 : Kd.C Kd.string w A0 l0.length l0) (hc0 : l0.length ≤ c0) (h : gatehouselaw08_longer.f l0 = some r) :
  Calls Try.prog 43 #[.slice A0 l0.length c0] w fun e w' => ∃ v0_ : Value, e = .returned (v0_) ∧ Kd.R Kd.string 9 w' w.heap.size (fun _ => True) v0_ r ∧ Below w.heap.size w w' := by
 have HR0 := Aside0.mk hr0; have HC0 := Aside0.mk hc0; clear hr0 hc0; have HB := Aside0.mk (Below.refl w.heap.size w); have H : (if ([] : List ByteArray).length + l0.length < 8796093022208 then ((some (([] : List ByteArray) ++ l0 : List ByteArray)).bind fun y101 => (if y101.length < 8796093022208 then (some (y101 ++ [(⟨#[35]⟩ : ByteArray)])) else (none))) else (none)) = some r := h; clear h
 by_cases c2 : ([] : List ByteArray).length + l0.length < 8796093022208
 ·rw [if_pos c2] at H
  have z2 := Aside0.mk c2; clear c2; obtain ⟨y101, hy101⟩ : ∃ y_ : List ByteArray, y_ = (([] : List ByteArray) ++ l0) := ⟨_, rfl⟩
  replace H : (if y101.length < 8796093022208 then (some (y101 ++ [(⟨#[35]⟩ : ByteArray)])) else (none)) = some r := by first | (rw [hy101]; with_reducible exact H) | (have H2_ := (Option.bind_some _ _).symm.trans H; rw [hy101]; with_reducible exact H2_) | (have H2_ := (Option.bind_some _ _).symm.trans H; with_reducible exact H2_) | with_reducible exact H | (rw [hy101]; exact H) | exact H
  have z4 := Aside0.mk hy101; clear hy101
  by_cases c3 : y101.length < 8796093022208
  ·rw [if_pos c3] at H
   have z3 := Aside0.mk c3; clear c3; obtain ⟨y104, hy104⟩ : ∃ y_ : List ByteArray, y_ = (y101 ++ [(⟨#[35]⟩ : ByteArray)]) := ⟨_, rfl⟩
   replace H : (some y104) = some r := by first | (rw [hy104]; with_reducible exact H) | (have H2_ := (Option.bind_some _ _).symm.trans H; rw [hy104]; with_reducible exact H2_) | (have H2_ := (Option.bind_some _ _).symm.trans H; with_reducible exact H2_) | with_reducible exact H | (rw [hy104]; exact H) | exact H
   have z5 := Aside0.mk hy104; clear hy104
   obtain rfl := Option.some.inj H
   go_enter Try.func43, Try.ntmps43
   go_wp2_with (first | ((with_reducible refine gate_builtin (b := .append) (xs := #[.tmp 4, .tmp 5]) rfl ?_); at_builtin; refine Kd.R_append_rows Kd.string (w0 := w) w.heap.size rfl (.tmp 4) (.tmp 5) 25 9 (.string ⟨#[]⟩) 16 rfl Try.underlying25 info9 rfl (by decide) (by omega) (.slice none 0 0) ([] : List ByteArray) l0 _ _ _ (fun _ => True) (fun _ => False) rfl rfl ?aO ?aR (fun _ _ h => h) (fun _ h => h.elim) ?aF ?aB ?aS ?aL ?_; (case aR => repeat (first | exact HR0.out | (with_reducible refine Kd.C_alloc ?_ _) | (with_reducible refine Kd.C_drewN ?_ _) | (with_reducible refine Kd.C_drew ?_))); (case aB => exact (hW HB)); (case aF => exact (fun _ _ => trivial)); (case aO => exact ((Kd.R_nil _ _ _ _ (fun _ => True)))); (case aS => exact (below_size (hW HB))); (case aL => have := z2.out; omega); intro v102 w4 ho hb hg hat; rw [← z4.out] at ho; replace HB := Aside0.mk (hb); have z0 := Aside0.mk (ho); clear ho hb hg hat) | ((with_reducible refine gate_builtin (b := .append) (xs := #[.tmp 7, .tmp 8]) rfl ?_); at_builtin; refine Kd.R_append Kd.string (w0 := w) w.heap.size rfl (.tmp 7) (.tmp 8) 25 9 (.string ⟨#[]⟩) 16 rfl Try.underlying25 info9 rfl (by decide) (by omega) v102 y101 (⟨#[35]⟩ : ByteArray) [.string (⟨#[35]⟩ : ByteArray)] (fun _ => True) (fun _ => False) rfl rfl ?aP (fun _ hk => hk.elim) ?aF ?aO ?aB ?aS ?aL ?_; (case aP => exact rfl); (case aB => exact (hW HB)); (case aF => exact (fun _ _ => trivial)); (case aO => exact (rE z0.out)); (case aS => exact (below_size (hW HB))); (case aL => have := z3.out; omega); intro v105 w5 ho hb hg hat; rw [← z5.out] at ho; replace HB := Aside0.mk (hb); have z1 := Aside0.mk (ho); clear z0; clear ho hb hg hat))
   go_ret
   exact ⟨_, by first | rfl | (simp [errW_none, errW_some] <;> rfl) | (simp [*, errW_none, errW_some] <;> rfl), by (with_reducible repeat (first | apply Kd.R_alloc | apply Kd.R_drewN | apply Kd.R_drew)); exact z1.out, by repeat (first | (with_reducible first | exact HB.out | apply below_alloc | apply pw_below_drewN | apply below_drew1) | exact HB.out)⟩
  ·rw [if_neg c3] at H
   exact absurd H (by simp)
 ·rw [if_neg c2] at H
  exact absurd H (by simp)

/-! ### gatehouselaw08_pairs: function 44 -/
def gatehouselaw08_pairs.f (l0 : List (S86)) : Option ((List (S86))) := if ([] : List (S86)).length + l0.length < 4398046511104 then ((some (([] : List (S86)) ++ l0 : List (S86))).bind fun y107 => (if y107.length < 4398046511104 then (some (y107 ++ [(⟨(⟨#[35]⟩ : ByteArray), (⟨#[]⟩ : ByteArray)⟩ : S86)])) else (none))) else (none)
set_option maxHeartbeats 8000000 in
set_option maxRecDepth 100000 in
theorem gatehouselaw08_pairs.calls (A0 : Option Addr) (c0 : Nat) (l0 : List (S86)) (r : List (S86)) (w : World) (hr0 : Kd.C k86 w A0 l0.length l0) (hc0 : l0.length ≤ c0) (h : gatehouselaw08_pairs.f l0 = some r) :
  Calls Try.prog 44 #[.slice A0 l0.length c0] w fun e w' => ∃ v0_ : Value, e = .returned (v0_) ∧ Kd.R k86 86 w' w.heap.size (fun _ => True) v0_ r ∧ Below w.heap.size w w' := by
 have hu86 := Try.underlying86; have HR0 := Aside0.mk hr0; have HC0 := Aside0.mk hc0; clear hr0 hc0; have HB := Aside0.mk (Below.refl w.heap.size w); have H : (if ([] : List (S86)).length + l0.length < 4398046511104 then ((some (([] : List (S86)) ++ l0 : List (S86))).bind fun y107 => (if y107.length < 4398046511104 then (some (y107 ++ [(⟨(⟨#[35]⟩ : ByteArray), (⟨#[]⟩ : ByteArray)⟩ : S86)])) else (none))) else (none)) = some r := h; clear h
 by_cases c2 : ([] : List (S86)).length + l0.length < 4398046511104
 ·rw [if_pos c2] at H
  have z2 := Aside0.mk c2; clear c2; obtain ⟨y107, hy107⟩ : ∃ y_ : List (S86), y_ = (([] : List (S86)) ++ l0) := ⟨_, rfl⟩
  replace H : (if y107.length < 4398046511104 then (some (y107 ++ [(⟨(⟨#[35]⟩ : ByteArray), (⟨#[]⟩ : ByteArray)⟩ : S86)])) else (none)) = some r := by first | (rw [hy107]; with_reducible exact H) | (have H2_ := (Option.bind_some _ _).symm.trans H; rw [hy107]; with_reducible exact H2_) | (have H2_ := (Option.bind_some _ _).symm.trans H; with_reducible exact H2_) | with_reducible exact H | (rw [hy107]; exact H) | exact H
  have z4 := Aside0.mk hy107; clear hy107
  by_cases c3 : y107.length < 4398046511104
  ·rw [if_pos c3] at H
   have z3 := Aside0.mk c3; clear c3; obtain ⟨y110, hy110⟩ : ∃ y_ : List (S86), y_ = (y107 ++ [(⟨(⟨#[35]⟩ : ByteArray), (⟨#[]⟩ : ByteArray)⟩ : S86)]) := ⟨_, rfl⟩
   replace H : (some y110) = some r := by first | (rw [hy110]; with_reducible exact H) | (have H2_ := (Option.bind_some _ _).symm.trans H; rw [hy110]; with_reducible exact H2_) | (have H2_ := (Option.bind_some _ _).symm.trans H; with_reducible exact H2_) | with_reducible exact H | (rw [hy110]; exact H) | exact H
   have z5 := Aside0.mk hy110; clear hy110
   obtain rfl := Option.some.inj H
   go_enter Try.func44, Try.ntmps44
   go_wp2_with (first | ((with_reducible refine gate_builtin (b := .append) (xs := #[.tmp 4, .tmp 5]) rfl ?_); at_builtin; refine Kd.R_append_rows k86 (w0 := w) w.heap.size rfl (.tmp 4) (.tmp 5) 30 86 (.agg #[(.string ⟨#[]⟩), (.string ⟨#[]⟩)]) 32 rfl Try.underlying30 info86 rfl (by decide) (by omega) (.slice none 0 0) ([] : List (S86)) l0 _ _ _ (fun _ => True) (fun _ => False) rfl rfl ?aO ?aR (fun _ _ h => h) (fun _ h => h.elim) ?aF ?aB ?aS ?aL ?_; (case aR => repeat (first | exact HR0.out | (with_reducible refine Kd.C_alloc ?_ _) | (with_reducible refine Kd.C_drewN ?_ _) | (with_reducible refine Kd.C_drew ?_))); (case aB => exact (hW HB)); (case aF => exact (fun _ _ => trivial)); (case aO => exact ((Kd.R_nil _ _ _ _ (fun _ => True)))); (case aS => exact (below_size (hW HB))); (case aL => have := z2.out; omega); intro v108 w4 ho hb hg hat; rw [← z4.out] at ho; replace HB := Aside0.mk (hb); have z0 := Aside0.mk (ho); clear ho hb hg hat) | ((with_reducible refine gate_builtin (b := .append) (xs := #[.tmp 7, .tmp 9]) rfl ?_); at_builtin; refine Kd.R_append k86 (w0 := w) w.heap.size rfl (.tmp 7) (.tmp 9) 30 86 (.agg #[(.string ⟨#[]⟩), (.string ⟨#[]⟩)]) 32 rfl Try.underlying30 info86 rfl (by decide) (by omega) v108 y107 (⟨(⟨#[35]⟩ : ByteArray), (⟨#[]⟩ : ByteArray)⟩ : S86) [.string (⟨#[35]⟩ : ByteArray), .string (⟨#[]⟩ : ByteArray)] (fun _ => True) (fun _ => False) rfl rfl ?aP (fun _ hk => hk.elim) ?aF ?aO ?aB ?aS ?aL ?_; (case aP => exact k86_mkM _ _ _ (⟨(⟨#[35]⟩ : ByteArray), (⟨#[]⟩ : ByteArray)⟩ : S86)); (case aB => exact (hW HB)); (case aF => exact (fun _ _ => trivial)); (case aO => exact (rE z0.out)); (case aS => exact (below_size (hW HB))); (case aL => have := z3.out; omega); intro v111 w5 ho hb hg hat; rw [← z5.out] at ho; replace HB := Aside0.mk (hb); have z1 := Aside0.mk (ho); clear z0; clear ho hb hg hat))
   go_ret
   exact ⟨_, by first | rfl | (simp [errW_none, errW_some] <;> rfl) | (simp [*, errW_none, errW_some] <;> rfl), by (with_reducible repeat (first | apply Kd.R_alloc | apply Kd.R_drewN | apply Kd.R_drew)); exact z1.out, by repeat (first | (with_reducible first | exact HB.out | apply below_alloc | apply pw_below_drewN | apply below_drew1) | exact HB.out)⟩
  ·rw [if_neg c3] at H
   exact absurd H (by simp)
 ·rw [if_neg c2] at H
  exact absurd H (by simp)

-- NOT PRINTED: function 18 (gatehouselaw08_roomy)

/-! ### gatehouselaw08_asLong: function 54 -/
mutual
def gatehouselaw08_asLong.j0 : Nat → List ByteArray → List ByteArray → Bool → Option (Bool)
 | 0, _, _, _ => none
 | k + 1, x0, x1, x19 => if x19 = true then (some false) else (gatehouselaw08_asLong.l0 k x0 x1 0)
def gatehouselaw08_asLong.l0 : Nat → List ByteArray → List ByteArray → Int → Option (Bool)
 | 0, _, _, _ => none
 | k + 1, x0, x1, x5 => if x5 < (x1.length : Int) then (if 0 ≤ x5 then (if x5 < (x0.length : Int) then (if (rdOf ByteArray.empty x0 x5).toList = (rdOf ByteArray.empty x1 x5).toList then (gatehouselaw08_asLong.l0 k x0 x1 (wrap64 (x5 + 1))) else (some false)) else (none)) else (none)) else (some true)
end
def gatehouselaw08_asLong.f (k : Nat) (l0 : List ByteArray) (l1 : List ByteArray) : Option (Bool) := if (l0.length : Int) = (wrap64 ((l1.length : Int) + 1)) then (if 0 ≤ (l1.length : Int) then (if (l1.length : Int) < (l0.length : Int) then (gatehouselaw08_asLong.j0 k l0 l1 ((rdOf ByteArray.empty l0 (l1.length : Int)).toList != ([35] : List UInt8))) else (none)) else (none)) else (gatehouselaw08_asLong.j0 k l0 l1 true)
set_option maxHeartbeats 8000000 in
set_option maxRecDepth 100000 in
theorem gatehouselaw08_asLong.calls (k : Nat) (A0 : Option Addr) (c0 : Nat) (l0 : List ByteArray) (A1 : Option Addr) (c1 : Nat) (l1 : List ByteArray) (r : Bool) (w : World) (hr0 : Kd.C Kd.string w A0 l0.length l0) (hc0 : l0.length ≤ c0) (hr1 : Kd.C Kd.string w A1 l1.length l1) (hc1 : l1.length ≤ c1) (h : gatehouselaw08_asLong.f k l0 l1 = some r) :
  Calls Try.prog 54 #[.slice A0 l0.length c0, .slice A1 l1.length c1] w fun e w' => e = .returned (.bool r) ∧ Drawn0 w w' := by
 have HR0 := Aside0.mk hr0; have HC0 := Aside0.mk hc0; clear hr0 hc0; have HR1 := Aside0.mk hr1; have HC1 := Aside0.mk hc1; clear hr1 hc1; have H : (if (l0.length : Int) = (wrap64 ((l1.length : Int) + 1)) then (if 0 ≤ (l1.length : Int) then (if (l1.length : Int) < (l0.length : Int) then (gatehouselaw08_asLong.j0 k l0 l1 ((rdOf ByteArray.empty l0 (l1.length : Int)).toList != ([35] : List UInt8))) else (none)) else (none)) else (gatehouselaw08_asLong.j0 k l0 l1 true)) = some r := h; clear h; have HC3 := Aside0.mk H; clear H
 go_enter Try.func54, Try.ntmps54
 go_upto_region 1 with (fail)
 repeat (go_quiet (fail); go_upto_region 1 with (fail))
 go_cut [19] (fun v19 wc => ∃ (kq : Nat) (z2 : Bool), v19 = .bool z2 ∧ Aside0 (gatehouselaw08_asLong.j0 kq l0 l1 z2 = some r) ∧ Aside0 (kq ≤ k) ∧ Drawn0 w wc)
 case first =>
  have H := HC3.out; clear HC3
  by_cases c4 : (l0.length : Int) = (wrap64 ((l1.length : Int) + 1))
  ·rw [if_pos c4] at H
   have z1 : ((l0.length : Int) == (wrap64 ((l1.length : Int) + 1))) = true := beq_iff_eq.mpr c4; have z3 : ((l0.length : Int) != (wrap64 ((l1.length : Int) + 1))) = false := bne_eq_false_iff_eq.mpr c4; clear c4
   (first | rw [z1] | (simp only [i64_w, i32_w]; rw [z1]) | skip)
   by_cases c5 : 0 ≤ (l1.length : Int)
   ·rw [if_pos c5] at H
    have z5 : decide (0 ≤ (l1.length : Int)) = true := decide_eq_true c5; have z6 : decide (0 ≤ l1.length) = true := decide_eq_true (by omega); clear c5
    by_cases c6 : (l1.length : Int) < (l0.length : Int)
    ·rw [if_pos c6] at H
     have z7 : decide ((l1.length : Int) < (l0.length : Int)) = true := decide_eq_true c6; have z8 : decide (l1.length < l0.length) = true := decide_eq_true (Int.ofNat_lt.mp c6); clear c6; have H' := Aside0.mk H; clear H; have p227 : 0 ≤ ((l1.length : Int) : Int) := of_decide_eq_true (by first | (with_reducible assumption) | assumption); have q227 : (l1.length : Int) < (l0.length : Int) := of_decide_eq_true (by first | (with_reducible assumption) | assumption); obtain ⟨zg, e227, z4⟩ := Kd.at_string HR0.out (l1.length : Int) p227 q227
     cases e227
     (try simp only [Go.IntWalk.toNatUp] at z4)
     replace p227 := eq_true p227; replace q227 := eq_true q227
     go_wp2
     repeat (go_quiet (fail); try go_wp2)
     go_meet
     case rel => exact ⟨_, (((rdOf ByteArray.empty l0 (l1.length : Int)).toList != ([35] : List UInt8))), (by first | rfl | (simp; done) | (simp [*]; done)), H', ⟨by first | omega | exact Nat.le_refl _⟩, by repeat (first | exact Drawn0.refl _ | apply Drawn0.step)⟩
    ·rw [if_neg c6] at H
     exact absurd H (by simp)
   ·rw [if_neg c5] at H
    exact absurd H (by simp)
  ·rw [if_neg c4] at H
   have z1 : ((l0.length : Int) == (wrap64 ((l1.length : Int) + 1))) = false := beq_eq_false_iff_ne.mpr c4; have z3 : ((l0.length : Int) != (wrap64 ((l1.length : Int) + 1))) = true := bne_iff_ne.mpr c4
   (first | rw [z1] | (simp only [i64_w, i32_w]; rw [z1]) | skip)
   have H' := Aside0.mk H; clear H
   go_wp2
   repeat (go_quiet (fail); try go_wp2)
   go_meet
   case rel => exact ⟨_, (true), (by first | rfl | (simp; done) | (simp [*]; done)), H', ⟨by first | omega | exact Nat.le_refl _⟩, by repeat (first | exact Drawn0.refl _ | apply Drawn0.step)⟩
 case rest =>
  clear HC3
  try clear c1
  try clear p2
  try clear q2
  try clear hx2
  try clear c4
  try clear z1
  try clear z3
  try clear c5
  try clear z5
  try clear z6
  try clear c6
  try clear z7
  try clear z8
  try clear p6
  try clear z4
  try clear p227
  try clear q227
  obtain ⟨kq, z2, rfl, HA, HJ2, ⟨mc2, rfl⟩⟩ := hcut
  cases kq with
  | zero => exact absurd HA.out (by simp [gatehouselaw08_asLong.j0])
  | succ kj2 =>
   have H := HA.out; clear HA
   simp only [gatehouselaw08_asLong.j0] at H
   by_cases c7 : z2 = true
   ·subst c7
    have H1 : (some false) = some r := by rw [if_pos rfl] at H; exact H
    clear H; have H := H1; clear H1
    obtain rfl := Option.some.inj H
    go_wp2
    repeat (go_quiet (fail); try go_wp2)
    go_ret
    exact ⟨by first | rfl | (simp; done) | (simp [*]; done), by repeat (first | exact Drawn0.refl _ | apply Drawn0.step)⟩
   ·replace c7 := Bool.eq_false_iff.mpr c7
    subst c7
    have H1 : (gatehouselaw08_asLong.l0 kj2 l0 l1 0) = some r := by rw [if_neg (show ¬ (false = true) by decide)] at H; exact H
    clear H; have H := H1; clear H1; have H' := Aside0.mk H; clear H
    go_wp2
    repeat (go_quiet (fail); try go_wp2)
    go_loopg [5] kj2 (fun kq v5 w' => ∃ (z0 : Int), v5 = .int .i64 z0 ∧ Aside0 (gatehouselaw08_asLong.l0 kq l0 l1 z0 = some r) ∧ Aside0 (kq ≤ kj2) ∧ Drawn0 w w')
    case atStart => exact ⟨(0), (by first | rfl | (simp; done) | (simp [*]; done)), H', ⟨Nat.le_refl _⟩, by repeat (first | exact Drawn0.refl _ | apply Drawn0.step)⟩
    case round =>
     clear H'
     try clear c1
     try clear c2
     try clear p2
     try clear q2
     try clear hx2
     try clear c4
     try clear z1
     try clear z3
     try clear c5
     try clear z5
     try clear z6
     try clear c6
     try clear z7
     try clear z8
     try clear p6
     try clear c7
     try clear z4
     try clear p2
     try clear p227
     try clear p6
     try clear q2
     try clear q227
     obtain ⟨z0, rfl, HA, HK2, ⟨m2, rfl⟩⟩ := hrel
     cases gk with
     | zero => exact absurd HA.out (by simp [gatehouselaw08_asLong.l0])
     | succ k2 =>
      have H := HA.out; clear HA
      simp only [gatehouselaw08_asLong.l0] at H
      by_cases c8 : z0 < (l1.length : Int)
      ·rw [if_pos c8] at H
       have zd : decide (z0 < (l1.length : Int)) = true := decide_eq_true c8; clear c8
       by_cases c9 : 0 ≤ z0
       ·rw [if_pos c9] at H
        have zi : decide (0 ≤ z0) = true := decide_eq_true c9; clear c9
        by_cases c10 : z0 < (l0.length : Int)
        ·rw [if_pos c10] at H
         have zh : decide (z0 < (l0.length : Int)) = true := decide_eq_true c10; clear c10
         by_cases c11 : (rdOf ByteArray.empty l0 z0).toList = (rdOf ByteArray.empty l1 z0).toList
         ·rw [if_pos c11] at H
          have zb : ((rdOf ByteArray.empty l0 z0).toList == (rdOf ByteArray.empty l1 z0).toList) = true := beq_iff_eq.mpr c11; have zc : ((rdOf ByteArray.empty l0 z0).toList != (rdOf ByteArray.empty l1 z0).toList) = false := bne_eq_false_iff_eq.mpr c11; clear c11; have H' := Aside0.mk H; clear H; have p228 : 0 ≤ (z0 : Int) := of_decide_eq_true (by first | (with_reducible assumption) | assumption); have q228 : z0 < (l0.length : Int) := of_decide_eq_true (by first | (with_reducible assumption) | assumption); obtain ⟨z9, e228, ze⟩ := Kd.at_string HR0.out z0 p228 q228
          cases e228
          replace p228 := eq_true p228; replace q228 := eq_true q228; have p229 : 0 ≤ (z0 : Int) := of_decide_eq_true (by first | (with_reducible assumption) | assumption); have q229 : z0 < (l1.length : Int) := of_decide_eq_true (by first | (with_reducible assumption) | assumption); obtain ⟨za, e229, zf⟩ := Kd.at_string HR1.out z0 p229 q229
          cases e229
          replace p229 := eq_true p229; replace q229 := eq_true q229
          go_wp2
          repeat (go_quiet (fail); try go_wp2)
          go_roundg k2
          case measure => have := HJ2.out; have := HK2.out; omega
          case rel => exact ⟨(wrap64 (z0 + 1)), (by first | rfl | (simp; done) | (simp [*]; done)), H', ⟨by have := HJ2.out; have := HK2.out; omega⟩, by repeat (first | exact Drawn0.refl _ | apply Drawn0.step)⟩
         ·rw [if_neg c11] at H
          have zb : ((rdOf ByteArray.empty l0 z0).toList == (rdOf ByteArray.empty l1 z0).toList) = false := beq_eq_false_iff_ne.mpr c11; have zc : ((rdOf ByteArray.empty l0 z0).toList != (rdOf ByteArray.empty l1 z0).toList) = true := bne_iff_ne.mpr c11
          obtain rfl := Option.some.inj H
          have p228 : 0 ≤ (z0 : Int) := of_decide_eq_true (by first | (with_reducible assumption) | assumption); have q228 : z0 < (l0.length : Int) := of_decide_eq_true (by first | (with_reducible assumption) | assumption); obtain ⟨z9, e228, ze⟩ := Kd.at_string HR0.out z0 p228 q228
          cases e228
          replace p228 := eq_true p228; replace q228 := eq_true q228; have p229 : 0 ≤ (z0 : Int) := of_decide_eq_true (by first | (with_reducible assumption) | assumption); have q229 : z0 < (l1.length : Int) := of_decide_eq_true (by first | (with_reducible assumption) | assumption); obtain ⟨za, e229, zf⟩ := Kd.at_string HR1.out z0 p229 q229
          cases e229
          replace p229 := eq_true p229; replace q229 := eq_true q229
          go_wp2
          repeat (go_quiet (fail); try go_wp2)
          go_ret
          exact ⟨by first | rfl | (simp; done) | (simp [*]; done), by repeat (first | exact Drawn0.refl _ | apply Drawn0.step)⟩
        ·rw [if_neg c10] at H
         exact absurd H (by simp)
       ·rw [if_neg c9] at H
        exact absurd H (by simp)
      ·rw [if_neg c8] at H
       have zd : decide (z0 < (l1.length : Int)) = false := decide_eq_false c8; clear c8
       obtain rfl := Option.some.inj H
       go_wp2
       repeat (go_quiet (fail); try go_wp2)
       go_ret
       exact ⟨by first | rfl | (simp; done) | (simp [*]; done), by repeat (first | exact Drawn0.refl _ | apply Drawn0.step)⟩

/-! ### gatehouselaw08_asPairs: function 55 -/
mutual
def gatehouselaw08_asPairs.j0 : Nat → List (S86) → List (S86) → Bool → Option (Bool)
 | 0, _, _, _ => none
 | k + 1, x0, x1, x20 => if x20 = true then (some false) else (gatehouselaw08_asPairs.l0 k x0 x1 0)
def gatehouselaw08_asPairs.l0 : Nat → List (S86) → List (S86) → Int → Option (Bool)
 | 0, _, _, _ => none
 | k + 1, x0, x1, x5 => if x5 < (x1.length : Int) then (if 0 ≤ x5 then (if x5 < (x0.length : Int) then (if (!((((rd_T86 x0 x5).f0).toList) == (((rd_T86 x1 x5).f0).toList)) || (!((((rd_T86 x0 x5).f1).toList) == (((rd_T86 x1 x5).f1).toList)))) = true then (some false) else (gatehouselaw08_asPairs.l0 k x0 x1 (wrap64 (x5 + 1)))) else (none)) else (none)) else (some true)
end
def gatehouselaw08_asPairs.f (k : Nat) (l0 : List (S86)) (l1 : List (S86)) : Option (Bool) := if (l0.length : Int) = (wrap64 ((l1.length : Int) + 1)) then (if 0 ≤ (l1.length : Int) then (if (l1.length : Int) < (l0.length : Int) then (gatehouselaw08_asPairs.j0 k l0 l1 (!((((rd_T86 l0 (l1.length : Int)).f0).toList) == ([35] : List UInt8)) || (!((((rd_T86 l0 (l1.length : Int)).f1).toList) == ([] : List UInt8))))) else (none)) else (none)) else (gatehouselaw08_asPairs.j0 k l0 l1 true)
set_option maxHeartbeats 8000000 in
set_option maxRecDepth 100000 in
theorem gatehouselaw08_asPairs.calls (k : Nat) (A0 : Option Addr) (c0 : Nat) (l0 : List (S86)) (A1 : Option Addr) (c1 : Nat) (l1 : List (S86)) (r : Bool) (w : World) (hr0 : Kd.C k86 w A0 l0.length l0) (hc0 : l0.length ≤ c0) (hr1 : Kd.C k86 w A1 l1.length l1) (hc1 : l1.length ≤ c1) (h : gatehouselaw08_asPairs.f k l0 l1 = some r) :
  Calls Try.prog 55 #[.slice A0 l0.length c0, .slice A1 l1.length c1] w fun e w' => e = .returned (.bool r) ∧ Drawn0 w w' := by
 have hu86 := Try.underlying86; have HR0 := Aside0.mk hr0; have HC0 := Aside0.mk hc0; clear hr0 hc0; have HR1 := Aside0.mk hr1; have HC1 := Aside0.mk hc1; clear hr1 hc1; have H : (if (l0.length : Int) = (wrap64 ((l1.length : Int) + 1)) then (if 0 ≤ (l1.length : Int) then (if (l1.length : Int) < (l0.length : Int) then (gatehouselaw08_asPairs.j0 k l0 l1 (!((((rd_T86 l0 (l1.length : Int)).f0).toList) == ([35] : List UInt8)) || (!((((rd_T86 l0 (l1.length : Int)).f1).toList) == ([] : List UInt8))))) else (none)) else (none)) else (gatehouselaw08_asPairs.j0 k l0 l1 true)) = some r := h; clear h; have HC3 := Aside0.mk H; clear H
 go_enter Try.func55, Try.ntmps55
 go_upto_region 1 with (fail)
 repeat (go_quiet (fail); go_upto_region 1 with (fail))
 go_cut [20] (fun v20 wc => ∃ (kq : Nat) (z2 : Bool), v20 = .bool z2 ∧ Aside0 (gatehouselaw08_asPairs.j0 kq l0 l1 z2 = some r) ∧ Aside0 (kq ≤ k) ∧ Drawn0 w wc)
 case first =>
  have H := HC3.out; clear HC3
  by_cases c4 : (l0.length : Int) = (wrap64 ((l1.length : Int) + 1))
  ·rw [if_pos c4] at H
   have z1 : ((l0.length : Int) == (wrap64 ((l1.length : Int) + 1))) = true := beq_iff_eq.mpr c4; have z3 : ((l0.length : Int) != (wrap64 ((l1.length : Int) + 1))) = false := bne_eq_false_iff_eq.mpr c4; clear c4
   (first | rw [z1] | (simp only [i64_w, i32_w]; rw [z1]) | skip)
   by_cases c5 : 0 ≤ (l1.length : Int)
   ·rw [if_pos c5] at H
    have z6 : decide (0 ≤ (l1.length : Int)) = true := decide_eq_true c5; have z7 : decide (0 ≤ l1.length) = true := decide_eq_true (by omega); clear c5
    by_cases c6 : (l1.length : Int) < (l0.length : Int)
    ·rw [if_pos c6] at H
     have z8 : decide ((l1.length : Int) < (l0.length : Int)) = true := decide_eq_true c6; have z9 : decide (l1.length < l0.length) = true := decide_eq_true (Int.ofNat_lt.mp c6); clear c6; have H' := Aside0.mk H; clear H; have p230 : 0 ≤ ((l1.length : Int) : Int) := of_decide_eq_true (by first | (with_reducible assumption) | assumption); have q230 : (l1.length : Int) < (l0.length : Int) := of_decide_eq_true (by first | (with_reducible assumption) | assumption); obtain ⟨zi, e230, z4, z5⟩ := at_T86 HR0.out (l1.length : Int) p230 q230
     cases e230
     (try simp only [Go.IntWalk.toNatUp] at z4)
     (try simp only [Go.IntWalk.toNatUp] at z5)
     replace p230 := eq_true p230; replace q230 := eq_true q230
     go_wp2
     repeat (go_quiet (fail); try go_wp2)
     go_meet
     case rel => exact ⟨_, ((!((((rd_T86 l0 (l1.length : Int)).f0).toList) == ([35] : List UInt8)) || (!((((rd_T86 l0 (l1.length : Int)).f1).toList) == ([] : List UInt8))))), (by first | rfl | (simp; done) | (simp [*]; done)), H', ⟨by first | omega | exact Nat.le_refl _⟩, by repeat (first | exact Drawn0.refl _ | apply Drawn0.step)⟩
    ·rw [if_neg c6] at H
     exact absurd H (by simp)
   ·rw [if_neg c5] at H
    exact absurd H (by simp)
  ·rw [if_neg c4] at H
   have z1 : ((l0.length : Int) == (wrap64 ((l1.length : Int) + 1))) = false := beq_eq_false_iff_ne.mpr c4; have z3 : ((l0.length : Int) != (wrap64 ((l1.length : Int) + 1))) = true := bne_iff_ne.mpr c4
   (first | rw [z1] | (simp only [i64_w, i32_w]; rw [z1]) | skip)
   have H' := Aside0.mk H; clear H
   go_wp2
   repeat (go_quiet (fail); try go_wp2)
   go_meet
   case rel => exact ⟨_, (true), (by first | rfl | (simp; done) | (simp [*]; done)), H', ⟨by first | omega | exact Nat.le_refl _⟩, by repeat (first | exact Drawn0.refl _ | apply Drawn0.step)⟩
 case rest =>
  clear HC3
  try clear c1
  try clear p2
  try clear q2
  try clear hx2
  try clear c4
  try clear z1
  try clear z3
  try clear c5
  try clear z6
  try clear z7
  try clear c6
  try clear z8
  try clear z9
  try clear p6
  try clear z4
  try clear z5
  try clear p230
  try clear q230
  obtain ⟨kq, z2, rfl, HA, HJ2, ⟨mc2, rfl⟩⟩ := hcut
  cases kq with
  | zero => exact absurd HA.out (by simp [gatehouselaw08_asPairs.j0])
  | succ kj2 =>
   have H := HA.out; clear HA
   simp only [gatehouselaw08_asPairs.j0] at H
   by_cases c7 : z2 = true
   ·subst c7
    have H1 : (some false) = some r := by rw [if_pos rfl] at H; exact H
    clear H; have H := H1; clear H1
    obtain rfl := Option.some.inj H
    go_wp2
    repeat (go_quiet (fail); try go_wp2)
    go_ret
    exact ⟨by first | rfl | (simp; done) | (simp [*]; done), by repeat (first | exact Drawn0.refl _ | apply Drawn0.step)⟩
   ·replace c7 := Bool.eq_false_iff.mpr c7
    subst c7
    have H1 : (gatehouselaw08_asPairs.l0 kj2 l0 l1 0) = some r := by rw [if_neg (show ¬ (false = true) by decide)] at H; exact H
    clear H; have H := H1; clear H1; have H' := Aside0.mk H; clear H
    go_wp2
    repeat (go_quiet (fail); try go_wp2)
    go_loopg [5] kj2 (fun kq v5 w' => ∃ (z0 : Int), v5 = .int .i64 z0 ∧ Aside0 (gatehouselaw08_asPairs.l0 kq l0 l1 z0 = some r) ∧ Aside0 (kq ≤ kj2) ∧ Drawn0 w w')
    case atStart => exact ⟨(0), (by first | rfl | (simp; done) | (simp [*]; done)), H', ⟨Nat.le_refl _⟩, by repeat (first | exact Drawn0.refl _ | apply Drawn0.step)⟩
    case round =>
     clear H'
     try clear c1
     try clear c2
     try clear p2
     try clear q2
     try clear hx2
     try clear c4
     try clear z1
     try clear z3
     try clear c5
     try clear z6
     try clear z7
     try clear c6
     try clear z8
     try clear z9
     try clear p6
     try clear c7
     try clear z4
     try clear z5
     try clear p2
     try clear p230
     try clear p6
     try clear q2
     try clear q230
     obtain ⟨z0, rfl, HA, HK2, ⟨m2, rfl⟩⟩ := hrel
     cases gk with
     | zero => exact absurd HA.out (by simp [gatehouselaw08_asPairs.l0])
     | succ k2 =>
      have H := HA.out; clear HA
      simp only [gatehouselaw08_asPairs.l0] at H
      by_cases c8 : z0 < (l1.length : Int)
      ·rw [if_pos c8] at H
       have zd : decide (z0 < (l1.length : Int)) = true := decide_eq_true c8; clear c8
       by_cases c9 : 0 ≤ z0
       ·rw [if_pos c9] at H
        have zk : decide (0 ≤ z0) = true := decide_eq_true c9; clear c9
        by_cases c10 : z0 < (l0.length : Int)
        ·rw [if_pos c10] at H
         have zj : decide (z0 < (l0.length : Int)) = true := decide_eq_true c10; clear c10
         by_cases c11 : (!((((rd_T86 l0 z0).f0).toList) == (((rd_T86 l1 z0).f0).toList)) || (!((((rd_T86 l0 z0).f1).toList) == (((rd_T86 l1 z0).f1).toList)))) = true
         ·rw [if_pos c11] at H
          have zc : (!((((rd_T86 l0 z0).f0).toList) == (((rd_T86 l1 z0).f0).toList)) || (!((((rd_T86 l0 z0).f1).toList) == (((rd_T86 l1 z0).f1).toList)))) = true := c11; clear c11
          obtain rfl := Option.some.inj H
          have p231 : 0 ≤ (z0 : Int) := of_decide_eq_true (by first | (with_reducible assumption) | assumption); have q231 : z0 < (l0.length : Int) := of_decide_eq_true (by first | (with_reducible assumption) | assumption); obtain ⟨za, e231, ze, zf⟩ := at_T86 HR0.out z0 p231 q231
          cases e231
          replace p231 := eq_true p231; replace q231 := eq_true q231; have p232 : 0 ≤ (z0 : Int) := of_decide_eq_true (by first | (with_reducible assumption) | assumption); have q232 : z0 < (l1.length : Int) := of_decide_eq_true (by first | (with_reducible assumption) | assumption); obtain ⟨zb, e232, zg, zh⟩ := at_T86 HR1.out z0 p232 q232
          cases e232
          replace p232 := eq_true p232; replace q232 := eq_true q232
          go_wp2
          repeat (go_quiet (fail); try go_wp2)
          go_ret
          exact ⟨by first | rfl | (simp; done) | (simp [*]; done), by repeat (first | exact Drawn0.refl _ | apply Drawn0.step)⟩
         ·rw [if_neg c11] at H
          have zc : (!((((rd_T86 l0 z0).f0).toList) == (((rd_T86 l1 z0).f0).toList)) || (!((((rd_T86 l0 z0).f1).toList) == (((rd_T86 l1 z0).f1).toList)))) = false := by simpa using c11
          clear c11; have H' := Aside0.mk H; clear H; have p231 : 0 ≤ (z0 : Int) := of_decide_eq_true (by first | (with_reducible assumption) | assumption); have q231 : z0 < (l0.length : Int) := of_decide_eq_true (by first | (with_reducible assumption) | assumption); obtain ⟨za, e231, ze, zf⟩ := at_T86 HR0.out z0 p231 q231
          cases e231
          replace p231 := eq_true p231; replace q231 := eq_true q231; have p232 : 0 ≤ (z0 : Int) := of_decide_eq_true (by first | (with_reducible assumption) | assumption); have q232 : z0 < (l1.length : Int) := of_decide_eq_true (by first | (with_reducible assumption) | assumption); obtain ⟨zb, e232, zg, zh⟩ := at_T86 HR1.out z0 p232 q232
          cases e232
          replace p232 := eq_true p232; replace q232 := eq_true q232
          go_wp2
          repeat (go_quiet (fail); try go_wp2)
          go_roundg k2
          case measure => have := HJ2.out; have := HK2.out; omega
          case rel => exact ⟨(wrap64 (z0 + 1)), (by first | rfl | (simp; done) | (simp [*]; done)), H', ⟨by have := HJ2.out; have := HK2.out; omega⟩, by repeat (first | exact Drawn0.refl _ | apply Drawn0.step)⟩
        ·rw [if_neg c10] at H
         exact absurd H (by simp)
       ·rw [if_neg c9] at H
        exact absurd H (by simp)
      ·rw [if_neg c8] at H
       have zd : decide (z0 < (l1.length : Int)) = false := decide_eq_false c8; clear c8
       obtain rfl := Option.some.inj H
       go_wp2
       repeat (go_quiet (fail); try go_wp2)
       go_ret
       exact ⟨by first | rfl | (simp; done) | (simp [*]; done), by repeat (first | exact Drawn0.refl _ | apply Drawn0.step)⟩

/-! ### gatehouselaw08_equals: function 56 -/
def gatehouselaw08_equals.f (a0 : Nat) (a1 : Nat) : Option (Bool) := if (feq a0 a1) = true then (some true) else (if ((feq a0 a0) = true) then (some false) else (some (!(feq a1 a1))))
set_option maxHeartbeats 8000000 in
set_option maxRecDepth 100000 in
theorem gatehouselaw08_equals.calls (a0 : Nat) (a1 : Nat) (r : Bool) (w : World) (h : gatehouselaw08_equals.f a0 a1 = some r) :
  Calls Try.prog 56 #[.float .f64 a0, .float .f64 a1] w fun e w' => e = .returned (.bool r) ∧ Drawn0 w w' := by
 have H : (if (feq a0 a1) = true then (some true) else (if ((feq a0 a0) = true) then (some false) else (some (!(feq a1 a1))))) = some r := h; clear h
 by_cases c3 : (feq a0 a1) = true
 ·rw [if_pos c3] at H
  have z0 : (feq a0 a1) = true := c3; clear c3
  obtain rfl := Option.some.inj H
  go_enter Try.func56, Try.ntmps56
  go_wp2
  go_ret
  exact ⟨by first | rfl | (simp; done) | (simp [*]; done), by repeat (first | exact Drawn0.refl _ | apply Drawn0.step)⟩
 ·rw [if_neg c3] at H
  have z0 : (feq a0 a1) = false := by simpa using c3
  clear c3
  by_cases c4 : ((feq a0 a0) = true)
  ·rw [if_pos c4] at H
   have z1 : (feq a0 a0) = true := c4; clear c4
   obtain rfl := Option.some.inj H
   go_enter Try.func56, Try.ntmps56
   go_wp2
   go_ret
   exact ⟨by first | rfl | (simp; done) | (simp [*]; done), by repeat (first | exact Drawn0.refl _ | apply Drawn0.step)⟩
  ·rw [if_neg c4] at H
   have z1 : (feq a0 a0) = false := by simpa using c4
   clear c4
   obtain rfl := Option.some.inj H
   go_enter Try.func56, Try.ntmps56
   go_wp2
   go_ret
   exact ⟨by first | rfl | (simp; done) | (simp [*]; done), by repeat (first | exact Drawn0.refl _ | apply Drawn0.step)⟩

end Go.Proofs.Ytnkdcekddhmjnaa.F
