import Derived.Test.YtnkdcekddhmjnaaRoA
/- roomy's last drawn region, walked: the lists cut to what they were, laid into a new policy. Conditions: the two policies lie in memory as told. -/
namespace Go.Proofs.Ytnkdcekddhmjnaa.M
open Go.RowKit Go.Proofs.YtnkdcekddhmjnaaW.PrintWords Go.Proofs.YtnkdcekddhmjnaaW.PrintLast Go.Proofs.YtnkdcekddhmjnaaW.PrintAll Go.Proofs.Ytnkdcekddhmjnaa.F
set_option linter.unusedVariables false
abbrev ro20.ns : List (Option Tmp) := [some 99, some 100, some 101, some 102, some 103, some 104, some 105, some 106, some 107, some 108, some 109, some 110, some 111, some 112, some 113, some 114, some 115, some 116, some 117, some 118, some 119, some 120, some 121, some 122, some 123, some 124, some 125, some 126, some 127, some 128, some 129, some 8, none]
def ro20.T : Bool × List (List Nat × List Nat) := (true, [([], []), ([0], [0]), ([], []), ([2], [2]), ([3], [3]), ([1, 4], [1, 4]), ([], []), ([6], [6]), ([], []), ([8], [8]), ([9], [9]), ([7, 10], [7, 10]), ([], []), ([12], [12]), ([], []), ([14], [14]), ([15], [15]), ([13, 16], [13, 16]), ([], []), ([18], [18]), ([], []), ([20], [20]), ([21], [21]), ([19, 22], [19, 22]), ([], []), ([24], [24]), ([], []), ([26], [26]), ([27], [27]), ([25, 28], [25, 28]), ([5, 11, 17, 23, 29], [5, 11, 17, 23, 29]), ([], []), ([31, 30, 0, 1, 2, 3, 4, 5, 6, 7, 8, 9, 10, 11, 12, 13, 14, 15, 16, 17, 18, 19, 20, 21, 22, 23, 24, 25, 26, 27, 28, 29, 30, 31], [30, 31])])
theorem ro20.tab : rtab .any (opsOf Try.f18 20) = ro20.T := by kernel_rfl
def ro20.V (p : Pol) (A0 : Option Addr) (c0 : Nat) (X0 : Option Addr) (y0 : Nat) (A1 : Option Addr) (c1 : Nat) (X1 : Option Addr) (y1 : Nat) (A2 : Option Addr) (c2 : Nat) (X2 : Option Addr) (y2 : Nat) (A3 : Option Addr) (c3 : Nat) (X3 : Option Addr) (y3 : Nat) (A4 : Option Addr) (c4 : Nat) (X4 : Option Addr) (y4 : Nat) (L0 : List ByteArray) (L1 : List Sub) (L2 L3 L4 : List ByteArray) (b1 b3 : Nat) : Nat → Value
  | 0 => .pointer (some ⟨b3, 0, none⟩)
  | 1 => .slice X0 L0.length y0
  | 2 => .pointer (some ⟨b1, 0, none⟩)
  | 3 => .slice A0 p.f0.length c0
  | 4 => .int .i64 (p.f0.length : Nat)
  | 5 => .slice X0 p.f0.length y0
  | 6 => .pointer (some ⟨b3, 1, none⟩)
  | 7 => .slice X1 L1.length y1
  | 8 => .pointer (some ⟨b1, 1, none⟩)
  | 9 => .slice A1 p.f1.length c1
  | 10 => .int .i64 (p.f1.length : Nat)
  | 11 => .slice X1 p.f1.length y1
  | 12 => .pointer (some ⟨b3, 2, none⟩)
  | 13 => .slice X2 L2.length y2
  | 14 => .pointer (some ⟨b1, 2, none⟩)
  | 15 => .slice A2 p.f2.length c2
  | 16 => .int .i64 (p.f2.length : Nat)
  | 17 => .slice X2 p.f2.length y2
  | 18 => .pointer (some ⟨b3, 3, none⟩)
  | 19 => .slice X3 L3.length y3
  | 20 => .pointer (some ⟨b1, 3, none⟩)
  | 21 => .slice A3 p.f3.length c3
  | 22 => .int .i64 (p.f3.length : Nat)
  | 23 => .slice X3 p.f3.length y3
  | 24 => .pointer (some ⟨b3, 4, none⟩)
  | 25 => .slice X4 L4.length y4
  | 26 => .pointer (some ⟨b1, 4, none⟩)
  | 27 => .slice A4 p.f4.length c4
  | 28 => .int .i64 (p.f4.length : Nat)
  | 29 => .slice X4 p.f4.length y4
  | 30 => .agg #[.slice X0 p.f0.length y0, .slice X1 p.f1.length y1, .slice X2 p.f2.length y2, .slice X3 p.f3.length y3, .slice X4 p.f4.length y4, .slice none 0 0, .slice none 0 0, .slice none 0 0, .slice none 0 0, .slice none 0 0, .slice none 0 0]
  | _ => undef
def ro20.F (V : Nat → Value) (w : World) (l : Nat → Bool) (xs : Nat → Value) (W : World) : Prop :=
  Below w.heap.size w W ∧ (∀ j, j < 31 → l j = true → xs j = V j) ∧ (l 31 = true → ∃ b, xs 31 = .pointer (some ⟨b, 0, none⟩) ∧ w.heap.size ≤ b ∧ ((l 32 = false ∧ W.heap[b]? = some (Obj.cells #[.slice none 0 0, .slice none 0 0, .slice none 0 0, .slice none 0 0, .slice none 0 0, .slice none 0 0, .slice none 0 0, .slice none 0 0, .slice none 0 0, .slice none 0 0, .slice none 0 0] 34 (0, 0))) ∨ (l 32 = true ∧ ∃ cs, V 30 = .agg cs ∧ W.heap[b]? = some (Obj.cells cs 34 (0, 0))))) ∧ (l 32 = true → l 30 = true ∧ l 31 = true)
theorem ro20.step {V : Nat → Value} {w W : World} {l : Nat → Bool} {xs : Nat → Value} {i : Nat} {v : Value} (h : ro20.F V w l xs W) (hi : i < 31) (hv : v = V i) (hl : l i = false) : ro20.F V w (upd l i true) (upd xs i v) W := by
  obtain ⟨h0, h1, h2, h3⟩ := h
  refine ⟨h0, fun j hj hlj => ?_, fun hlj => ?_, fun hlj => ?_⟩
  · by_cases e : j = i
    · subst e
      rw [upd_same]
      exact hv
    · rw [upd_other _ _ e] at hlj ⊢
      exact h1 j hj hlj
  · rw [upd_other _ _ (by omega)] at hlj
    obtain ⟨b, e, hle, hh⟩ := h2 hlj
    refine ⟨b, by rw [upd_other _ _ (by omega)]; exact e, hle, ?_⟩
    rw [upd_other _ _ (by omega)]
    exact hh
  · rw [upd_other _ _ (by omega)] at hlj
    obtain ⟨g1, g2⟩ := h3 hlj
    refine ⟨?_, by rw [upd_other _ _ (by omega)]; exact g2⟩
    by_cases e : i = 30
    · subst e; exact upd_same _ _ _
    · rw [upd_other _ _ (fun e2 => e e2.symm)]; exact g1
set_option maxRecDepth 100000 in
set_option maxHeartbeats 2000000 in
theorem ro20 {Q : Exit → Act → World → Prop} {id : Nat} {a : Act} {A0 : Option Addr} {c0 : Nat} {A1 : Option Addr} {c1 : Nat} {A2 : Option Addr} {c2 : Nat} {A3 : Option Addr} {c3 : Nat} {A4 : Option Addr} {c4 : Nat} {A5 : Option Addr} {c5 : Nat} {A6 : Option Addr} {c6 : Nat} {A7 : Option Addr} {c7 : Nat} {A8 : Option Addr} {c8 : Nat} {A9 : Option Addr} {c9 : Nat} {A10 : Option Addr} {c10 : Nat} {X0 : Option Addr} {y0 : Nat} {X1 : Option Addr} {y1 : Nat} {X2 : Option Addr} {y2 : Nat} {X3 : Option Addr} {y3 : Nat} {X4 : Option Addr} {y4 : Nat} {X5 : Option Addr} {y5 : Nat} {X6 : Option Addr} {y6 : Nat} {X7 : Option Addr} {y7 : Nat} {X8 : Option Addr} {y8 : Nat} {X9 : Option Addr} {y9 : Nat} {X10 : Option Addr} {y10 : Nat} {L0 : List ByteArray} {L1 : List Sub} {L2 L3 L4 : List ByteArray} {L5 L6 L7 L8 : List Pair} {L9 : List Rule} {L10 : List Tri} {b1 b3 : Nat} {w : World} {p : Pol} (hm : Try.prog.follows .mixedOrders = true) (hs : a.tmps.size = 176) (h1 : a.eval (.tmp 1) = .pointer (some ⟨b1, 0, none⟩)) (h3 : a.eval (.tmp 3) = .pointer (some ⟨b3, 0, none⟩))
    (hb1 : w.heap[b1]? = some (Obj.cells #[.slice A0 p.f0.length c0, .slice A1 p.f1.length c1, .slice A2 p.f2.length c2, .slice A3 p.f3.length c3, .slice A4 p.f4.length c4, .slice A5 p.f5.length c5, .slice A6 p.f6.length c6, .slice A7 p.f7.length c7, .slice A8 p.f8.length c8, .slice A9 p.f9.length c9, .slice A10 p.f10.length c10] 34 (0, 0))) (hb3 : w.heap[b3]? = some (Obj.cells #[.slice X0 L0.length y0, .slice X1 L1.length y1, .slice X2 L2.length y2, .slice X3 L3.length y3, .slice X4 L4.length y4, .slice X5 L5.length y5, .slice X6 L6.length y6, .slice X7 L7.length y7, .slice X8 L8.length y8, .slice X9 L9.length y9, .slice X10 L10.length y10] 34 (0, 0)))
    (K0 : p.f0.length ≤ L0.length) (Y0 : L0.length ≤ y0) (K1 : p.f1.length ≤ L1.length) (Y1 : L1.length ≤ y1) (K2 : p.f2.length ≤ L2.length) (Y2 : L2.length ≤ y2) (K3 : p.f3.length ≤ L3.length) (Y3 : L3.length ≤ y3) (K4 : p.f4.length ≤ L4.length) (Y4 : L4.length ≤ y4)
    (hdone : ∀ (xs : Nat → Value) (b : Nat) (W : World), Below w.heap.size w W → xs 31 = .pointer (some ⟨b, 0, none⟩) → w.heap.size ≤ b → W.heap[b]? = some (Obj.cells #[.slice X0 p.f0.length y0, .slice X1 p.f1.length y1, .slice X2 p.f2.length y2, .slice X3 p.f3.length y3, .slice X4 p.f4.length y4, .slice none 0 0, .slice none 0 0, .slice none 0 0, .slice none 0 0, .slice none 0 0, .slice none 0 0] 34 (0, 0)) → Q .normal (putZ a ro20.ns 0 xs) W) :
    (Code.region id (opsOf Try.f18 20) true).wp Try.prog Q a w := by
  refine region_inv (T := ro20.T) 33 hm (by kernel_rfl) ro20.tab (by kernel_rfl) (by kernel_rfl) (ro20.F (ro20.V p A0 c0 X0 y0 A1 c1 X1 y1 A2 c2 X2 y2 A3 c3 X3 y3 A4 c4 X4 y4 L0 L1 L2 L3 L4 b1 b3) w) ?h0 ?hF ?hsteps ?hd
  case h0 => exact fun xs => ⟨below_drew (Below.refl _ _), fun j hj h => absurd h Bool.false_ne_true, fun h => absurd h Bool.false_ne_true, fun h => absurd h Bool.false_ne_true⟩
  case hF =>
    rintro l l' xs W hl ⟨h0, h1, h2, h3⟩
    refine ⟨h0, fun j hj h => h1 j hj ((hl j (by omega)).trans h), fun h => ?_, fun h => ?_⟩
    · obtain ⟨b, e, hle, hh⟩ := h2 ((hl 31 (by decide)).trans h)
      refine ⟨b, e, hle, ?_⟩
      rw [← hl 32 (by decide)]
      exact hh
    · obtain ⟨g1, g2⟩ := h3 ((hl 32 (by decide)).trans h)
      exact ⟨(hl 30 (by decide)).symm.trans g1, (hl 31 (by decide)).symm.trans g2⟩
  case hd =>
    rintro xs W ⟨h0, h1, h2, h3⟩
    obtain ⟨b, e, hle, hh⟩ := h2 rfl
    rcases hh with hh | ⟨-, cs, hcs, hh⟩
    · cases hh.1
    · injection hcs with hcs
      subst hcs
      exact hdone xs b W h0 e hle hh
  case hsteps =>
    have hsz : ∀ t, t < 176 → t < a.tmps.size := fun t ht => by rw [hs]; exact ht
    refine ⟨?_, ?_, ?_, ?_, ?_, ?_, ?_, ?_, ?_, ?_, ?_, ?_, ?_, ?_, ?_, ?_, ?_, ?_, ?_, ?_, ?_, ?_, ?_, ?_, ?_, ?_, ?_, ?_, ?_, ?_, ?_, ?_, ?_, trivial⟩
    · refine step_op (Op.fieldAddr 34 (.tmp 3) 0) (some 99) [] ro20.ns (by kernel_rfl) rfl (by kernel_rfl) (fun o ho hd hw l xs W hF hl hn K hK => ?_)
      have e1 := eval_o (xs := xs) (ns := ro20.ns) h3
      exact value_ (v := .pointer (some ⟨b3, 0, none⟩)) (hw _) hd (w1 := W) (by simp only [execOp, ho, e1]; go_simp) (hK.out _ _ (ro20.step hF (by decide) rfl hl))
    · refine step_op (Op.load 25 (.tmp 99)) (some 100) [0] ro20.ns (by kernel_rfl) rfl (by kernel_rfl) (fun o ho hd hw l xs W hF hl hn K hK => ?_)
      have e1 : (putZ a ro20.ns 0 xs).eval (.tmp 99) = .pointer (some ⟨b3, 0, none⟩) := (eval_z 0 (hsz 99 (by decide))).trans (hF.2.1 0 (by decide) hn.1)
      have hc : W.cell? ⟨b3, 0, none⟩ = some (.slice X0 L0.length y0) := (blk_cell (blk_below hb3 hF.1) 0).trans rfl
      exact value_ (v := .slice X0 L0.length y0) (hw _) hd (w1 := W) (by simp only [execOp, ho, e1]; go_simp) (hK.out _ _ (ro20.step hF (by decide) rfl hl))
    · refine step_op (Op.fieldAddr 34 (.tmp 1) 0) (some 101) [] ro20.ns (by kernel_rfl) rfl (by kernel_rfl) (fun o ho hd hw l xs W hF hl hn K hK => ?_)
      have e1 := eval_o (xs := xs) (ns := ro20.ns) h1
      exact value_ (v := .pointer (some ⟨b1, 0, none⟩)) (hw _) hd (w1 := W) (by simp only [execOp, ho, e1]; go_simp) (hK.out _ _ (ro20.step hF (by decide) rfl hl))
    · refine step_op (Op.load 25 (.tmp 101)) (some 102) [2] ro20.ns (by kernel_rfl) rfl (by kernel_rfl) (fun o ho hd hw l xs W hF hl hn K hK => ?_)
      have e1 : (putZ a ro20.ns 0 xs).eval (.tmp 101) = .pointer (some ⟨b1, 0, none⟩) := (eval_z 2 (hsz 101 (by decide))).trans (hF.2.1 2 (by decide) hn.1)
      have hc : W.cell? ⟨b1, 0, none⟩ = some (.slice A0 p.f0.length c0) := (blk_cell (blk_below hb1 hF.1) 0).trans rfl
      exact value_ (v := .slice A0 p.f0.length c0) (hw _) hd (w1 := W) (by simp only [execOp, ho, e1]; go_simp) (hK.out _ _ (ro20.step hF (by decide) rfl hl))
    · refine step_op (Op.call { callee := .builtin .len, args := #[.tmp 102], argTypes := #[25] }) (some 103) [3] ro20.ns (by kernel_rfl) rfl (by kernel_rfl) (fun o ho hd hw l xs W hF hl hn K hK => ?_)
      have e1 : (putZ a ro20.ns 0 xs).eval (.tmp 102) = .slice A0 p.f0.length c0 := (eval_z 3 (hsz 102 (by decide))).trans (hF.2.1 3 (by decide) hn.1)
      exact value_ (v := .int .i64 (p.f0.length : Nat)) (hw _) hd (w1 := W) (by simp only [Act.eval, Array.getD_eq_getD_getElem?] at e1; simp only [execOp, ho]; go_simp) (hK.out _ _ (ro20.step hF (by decide) rfl hl))
    · refine step_op (Op.slice 25 (.tmp 100) none (some (.tmp 103)) none) (some 104) [1, 4] ro20.ns (by kernel_rfl) rfl (by kernel_rfl) (fun o ho hd hw l xs W hF hl hn K hK => ?_)
      have e1 : (putZ a ro20.ns 0 xs).eval (.tmp 100) = .slice X0 L0.length y0 := (eval_z 1 (hsz 100 (by decide))).trans (hF.2.1 1 (by decide) hn.1)
      have e2 : (putZ a ro20.ns 0 xs).eval (.tmp 103) = .int .i64 (p.f0.length : Nat) := (eval_z 4 (hsz 103 (by decide))).trans (hF.2.1 4 (by decide) hn.2.1)
      have hcut := cut_to (P := Try.prog) 25 9 .i64 Try.underlying25 (info_parts info9).choose_spec.1 X0 L0.length y0 (p.f0.length : Int) (by omega) (by omega) Y0
      rw [Int.toNat_natCast] at hcut
      exact value_ (v := .slice X0 p.f0.length y0) (hw _) hd (w1 := W) (by simp only [execOp, ho, e1, e2, Option.map]; go_simp) (hK.out _ _ (ro20.step hF (by decide) rfl hl))
    · refine step_op (Op.fieldAddr 34 (.tmp 3) 1) (some 105) [] ro20.ns (by kernel_rfl) rfl (by kernel_rfl) (fun o ho hd hw l xs W hF hl hn K hK => ?_)
      have e1 := eval_o (xs := xs) (ns := ro20.ns) h3
      exact value_ (v := .pointer (some ⟨b3, 1, none⟩)) (hw _) hd (w1 := W) (by simp only [execOp, ho, e1]; go_simp) (hK.out _ _ (ro20.step hF (by decide) rfl hl))
    · refine step_op (Op.load 29 (.tmp 105)) (some 106) [6] ro20.ns (by kernel_rfl) rfl (by kernel_rfl) (fun o ho hd hw l xs W hF hl hn K hK => ?_)
      have e1 : (putZ a ro20.ns 0 xs).eval (.tmp 105) = .pointer (some ⟨b3, 1, none⟩) := (eval_z 6 (hsz 105 (by decide))).trans (hF.2.1 6 (by decide) hn.1)
      have hc : W.cell? ⟨b3, 1, none⟩ = some (.slice X1 L1.length y1) := (blk_cell (blk_below hb3 hF.1) 1).trans rfl
      exact value_ (v := .slice X1 L1.length y1) (hw _) hd (w1 := W) (by simp only [execOp, ho, e1]; go_simp) (hK.out _ _ (ro20.step hF (by decide) rfl hl))
    · refine step_op (Op.fieldAddr 34 (.tmp 1) 1) (some 107) [] ro20.ns (by kernel_rfl) rfl (by kernel_rfl) (fun o ho hd hw l xs W hF hl hn K hK => ?_)
      have e1 := eval_o (xs := xs) (ns := ro20.ns) h1
      exact value_ (v := .pointer (some ⟨b1, 1, none⟩)) (hw _) hd (w1 := W) (by simp only [execOp, ho, e1]; go_simp) (hK.out _ _ (ro20.step hF (by decide) rfl hl))
    · refine step_op (Op.load 29 (.tmp 107)) (some 108) [8] ro20.ns (by kernel_rfl) rfl (by kernel_rfl) (fun o ho hd hw l xs W hF hl hn K hK => ?_)
      have e1 : (putZ a ro20.ns 0 xs).eval (.tmp 107) = .pointer (some ⟨b1, 1, none⟩) := (eval_z 8 (hsz 107 (by decide))).trans (hF.2.1 8 (by decide) hn.1)
      have hc : W.cell? ⟨b1, 1, none⟩ = some (.slice A1 p.f1.length c1) := (blk_cell (blk_below hb1 hF.1) 1).trans rfl
      exact value_ (v := .slice A1 p.f1.length c1) (hw _) hd (w1 := W) (by simp only [execOp, ho, e1]; go_simp) (hK.out _ _ (ro20.step hF (by decide) rfl hl))
    · refine step_op (Op.call { callee := .builtin .len, args := #[.tmp 108], argTypes := #[29] }) (some 109) [9] ro20.ns (by kernel_rfl) rfl (by kernel_rfl) (fun o ho hd hw l xs W hF hl hn K hK => ?_)
      have e1 : (putZ a ro20.ns 0 xs).eval (.tmp 108) = .slice A1 p.f1.length c1 := (eval_z 9 (hsz 108 (by decide))).trans (hF.2.1 9 (by decide) hn.1)
      exact value_ (v := .int .i64 (p.f1.length : Nat)) (hw _) hd (w1 := W) (by simp only [Act.eval, Array.getD_eq_getD_getElem?] at e1; simp only [execOp, ho]; go_simp) (hK.out _ _ (ro20.step hF (by decide) rfl hl))
    · refine step_op (Op.slice 29 (.tmp 106) none (some (.tmp 109)) none) (some 110) [7, 10] ro20.ns (by kernel_rfl) rfl (by kernel_rfl) (fun o ho hd hw l xs W hF hl hn K hK => ?_)
      have e1 : (putZ a ro20.ns 0 xs).eval (.tmp 106) = .slice X1 L1.length y1 := (eval_z 7 (hsz 106 (by decide))).trans (hF.2.1 7 (by decide) hn.1)
      have e2 : (putZ a ro20.ns 0 xs).eval (.tmp 109) = .int .i64 (p.f1.length : Nat) := (eval_z 10 (hsz 109 (by decide))).trans (hF.2.1 10 (by decide) hn.2.1)
      have hcut := cut_to (P := Try.prog) 29 57 .i64 Try.underlying29 (info_parts info57).choose_spec.1 X1 L1.length y1 (p.f1.length : Int) (by omega) (by omega) Y1
      rw [Int.toNat_natCast] at hcut
      exact value_ (v := .slice X1 p.f1.length y1) (hw _) hd (w1 := W) (by simp only [execOp, ho, e1, e2, Option.map]; go_simp) (hK.out _ _ (ro20.step hF (by decide) rfl hl))
    · refine step_op (Op.fieldAddr 34 (.tmp 3) 2) (some 111) [] ro20.ns (by kernel_rfl) rfl (by kernel_rfl) (fun o ho hd hw l xs W hF hl hn K hK => ?_)
      have e1 := eval_o (xs := xs) (ns := ro20.ns) h3
      exact value_ (v := .pointer (some ⟨b3, 2, none⟩)) (hw _) hd (w1 := W) (by simp only [execOp, ho, e1]; go_simp) (hK.out _ _ (ro20.step hF (by decide) rfl hl))
    · refine step_op (Op.load 25 (.tmp 111)) (some 112) [12] ro20.ns (by kernel_rfl) rfl (by kernel_rfl) (fun o ho hd hw l xs W hF hl hn K hK => ?_)
      have e1 : (putZ a ro20.ns 0 xs).eval (.tmp 111) = .pointer (some ⟨b3, 2, none⟩) := (eval_z 12 (hsz 111 (by decide))).trans (hF.2.1 12 (by decide) hn.1)
      have hc : W.cell? ⟨b3, 2, none⟩ = some (.slice X2 L2.length y2) := (blk_cell (blk_below hb3 hF.1) 2).trans rfl
      exact value_ (v := .slice X2 L2.length y2) (hw _) hd (w1 := W) (by simp only [execOp, ho, e1]; go_simp) (hK.out _ _ (ro20.step hF (by decide) rfl hl))
    · refine step_op (Op.fieldAddr 34 (.tmp 1) 2) (some 113) [] ro20.ns (by kernel_rfl) rfl (by kernel_rfl) (fun o ho hd hw l xs W hF hl hn K hK => ?_)
      have e1 := eval_o (xs := xs) (ns := ro20.ns) h1
      exact value_ (v := .pointer (some ⟨b1, 2, none⟩)) (hw _) hd (w1 := W) (by simp only [execOp, ho, e1]; go_simp) (hK.out _ _ (ro20.step hF (by decide) rfl hl))
    · refine step_op (Op.load 25 (.tmp 113)) (some 114) [14] ro20.ns (by kernel_rfl) rfl (by kernel_rfl) (fun o ho hd hw l xs W hF hl hn K hK => ?_)
      have e1 : (putZ a ro20.ns 0 xs).eval (.tmp 113) = .pointer (some ⟨b1, 2, none⟩) := (eval_z 14 (hsz 113 (by decide))).trans (hF.2.1 14 (by decide) hn.1)
      have hc : W.cell? ⟨b1, 2, none⟩ = some (.slice A2 p.f2.length c2) := (blk_cell (blk_below hb1 hF.1) 2).trans rfl
      exact value_ (v := .slice A2 p.f2.length c2) (hw _) hd (w1 := W) (by simp only [execOp, ho, e1]; go_simp) (hK.out _ _ (ro20.step hF (by decide) rfl hl))
    · refine step_op (Op.call { callee := .builtin .len, args := #[.tmp 114], argTypes := #[25] }) (some 115) [15] ro20.ns (by kernel_rfl) rfl (by kernel_rfl) (fun o ho hd hw l xs W hF hl hn K hK => ?_)
      have e1 : (putZ a ro20.ns 0 xs).eval (.tmp 114) = .slice A2 p.f2.length c2 := (eval_z 15 (hsz 114 (by decide))).trans (hF.2.1 15 (by decide) hn.1)
      exact value_ (v := .int .i64 (p.f2.length : Nat)) (hw _) hd (w1 := W) (by simp only [Act.eval, Array.getD_eq_getD_getElem?] at e1; simp only [execOp, ho]; go_simp) (hK.out _ _ (ro20.step hF (by decide) rfl hl))
    · refine step_op (Op.slice 25 (.tmp 112) none (some (.tmp 115)) none) (some 116) [13, 16] ro20.ns (by kernel_rfl) rfl (by kernel_rfl) (fun o ho hd hw l xs W hF hl hn K hK => ?_)
      have e1 : (putZ a ro20.ns 0 xs).eval (.tmp 112) = .slice X2 L2.length y2 := (eval_z 13 (hsz 112 (by decide))).trans (hF.2.1 13 (by decide) hn.1)
      have e2 : (putZ a ro20.ns 0 xs).eval (.tmp 115) = .int .i64 (p.f2.length : Nat) := (eval_z 16 (hsz 115 (by decide))).trans (hF.2.1 16 (by decide) hn.2.1)
      have hcut := cut_to (P := Try.prog) 25 9 .i64 Try.underlying25 (info_parts info9).choose_spec.1 X2 L2.length y2 (p.f2.length : Int) (by omega) (by omega) Y2
      rw [Int.toNat_natCast] at hcut
      exact value_ (v := .slice X2 p.f2.length y2) (hw _) hd (w1 := W) (by simp only [execOp, ho, e1, e2, Option.map]; go_simp) (hK.out _ _ (ro20.step hF (by decide) rfl hl))
    · refine step_op (Op.fieldAddr 34 (.tmp 3) 3) (some 117) [] ro20.ns (by kernel_rfl) rfl (by kernel_rfl) (fun o ho hd hw l xs W hF hl hn K hK => ?_)
      have e1 := eval_o (xs := xs) (ns := ro20.ns) h3
      exact value_ (v := .pointer (some ⟨b3, 3, none⟩)) (hw _) hd (w1 := W) (by simp only [execOp, ho, e1]; go_simp) (hK.out _ _ (ro20.step hF (by decide) rfl hl))
    · refine step_op (Op.load 25 (.tmp 117)) (some 118) [18] ro20.ns (by kernel_rfl) rfl (by kernel_rfl) (fun o ho hd hw l xs W hF hl hn K hK => ?_)
      have e1 : (putZ a ro20.ns 0 xs).eval (.tmp 117) = .pointer (some ⟨b3, 3, none⟩) := (eval_z 18 (hsz 117 (by decide))).trans (hF.2.1 18 (by decide) hn.1)
      have hc : W.cell? ⟨b3, 3, none⟩ = some (.slice X3 L3.length y3) := (blk_cell (blk_below hb3 hF.1) 3).trans rfl
      exact value_ (v := .slice X3 L3.length y3) (hw _) hd (w1 := W) (by simp only [execOp, ho, e1]; go_simp) (hK.out _ _ (ro20.step hF (by decide) rfl hl))
    · refine step_op (Op.fieldAddr 34 (.tmp 1) 3) (some 119) [] ro20.ns (by kernel_rfl) rfl (by kernel_rfl) (fun o ho hd hw l xs W hF hl hn K hK => ?_)
      have e1 := eval_o (xs := xs) (ns := ro20.ns) h1
      exact value_ (v := .pointer (some ⟨b1, 3, none⟩)) (hw _) hd (w1 := W) (by simp only [execOp, ho, e1]; go_simp) (hK.out _ _ (ro20.step hF (by decide) rfl hl))
    · refine step_op (Op.load 25 (.tmp 119)) (some 120) [20] ro20.ns (by kernel_rfl) rfl (by kernel_rfl) (fun o ho hd hw l xs W hF hl hn K hK => ?_)
      have e1 : (putZ a ro20.ns 0 xs).eval (.tmp 119) = .pointer (some ⟨b1, 3, none⟩) := (eval_z 20 (hsz 119 (by decide))).trans (hF.2.1 20 (by decide) hn.1)
      have hc : W.cell? ⟨b1, 3, none⟩ = some (.slice A3 p.f3.length c3) := (blk_cell (blk_below hb1 hF.1) 3).trans rfl
      exact value_ (v := .slice A3 p.f3.length c3) (hw _) hd (w1 := W) (by simp only [execOp, ho, e1]; go_simp) (hK.out _ _ (ro20.step hF (by decide) rfl hl))
    · refine step_op (Op.call { callee := .builtin .len, args := #[.tmp 120], argTypes := #[25] }) (some 121) [21] ro20.ns (by kernel_rfl) rfl (by kernel_rfl) (fun o ho hd hw l xs W hF hl hn K hK => ?_)
      have e1 : (putZ a ro20.ns 0 xs).eval (.tmp 120) = .slice A3 p.f3.length c3 := (eval_z 21 (hsz 120 (by decide))).trans (hF.2.1 21 (by decide) hn.1)
      exact value_ (v := .int .i64 (p.f3.length : Nat)) (hw _) hd (w1 := W) (by simp only [Act.eval, Array.getD_eq_getD_getElem?] at e1; simp only [execOp, ho]; go_simp) (hK.out _ _ (ro20.step hF (by decide) rfl hl))
    · refine step_op (Op.slice 25 (.tmp 118) none (some (.tmp 121)) none) (some 122) [19, 22] ro20.ns (by kernel_rfl) rfl (by kernel_rfl) (fun o ho hd hw l xs W hF hl hn K hK => ?_)
      have e1 : (putZ a ro20.ns 0 xs).eval (.tmp 118) = .slice X3 L3.length y3 := (eval_z 19 (hsz 118 (by decide))).trans (hF.2.1 19 (by decide) hn.1)
      have e2 : (putZ a ro20.ns 0 xs).eval (.tmp 121) = .int .i64 (p.f3.length : Nat) := (eval_z 22 (hsz 121 (by decide))).trans (hF.2.1 22 (by decide) hn.2.1)
      have hcut := cut_to (P := Try.prog) 25 9 .i64 Try.underlying25 (info_parts info9).choose_spec.1 X3 L3.length y3 (p.f3.length : Int) (by omega) (by omega) Y3
      rw [Int.toNat_natCast] at hcut
      exact value_ (v := .slice X3 p.f3.length y3) (hw _) hd (w1 := W) (by simp only [execOp, ho, e1, e2, Option.map]; go_simp) (hK.out _ _ (ro20.step hF (by decide) rfl hl))
    · refine step_op (Op.fieldAddr 34 (.tmp 3) 4) (some 123) [] ro20.ns (by kernel_rfl) rfl (by kernel_rfl) (fun o ho hd hw l xs W hF hl hn K hK => ?_)
      have e1 := eval_o (xs := xs) (ns := ro20.ns) h3
      exact value_ (v := .pointer (some ⟨b3, 4, none⟩)) (hw _) hd (w1 := W) (by simp only [execOp, ho, e1]; go_simp) (hK.out _ _ (ro20.step hF (by decide) rfl hl))
    · refine step_op (Op.load 25 (.tmp 123)) (some 124) [24] ro20.ns (by kernel_rfl) rfl (by kernel_rfl) (fun o ho hd hw l xs W hF hl hn K hK => ?_)
      have e1 : (putZ a ro20.ns 0 xs).eval (.tmp 123) = .pointer (some ⟨b3, 4, none⟩) := (eval_z 24 (hsz 123 (by decide))).trans (hF.2.1 24 (by decide) hn.1)
      have hc : W.cell? ⟨b3, 4, none⟩ = some (.slice X4 L4.length y4) := (blk_cell (blk_below hb3 hF.1) 4).trans rfl
      exact value_ (v := .slice X4 L4.length y4) (hw _) hd (w1 := W) (by simp only [execOp, ho, e1]; go_simp) (hK.out _ _ (ro20.step hF (by decide) rfl hl))
    · refine step_op (Op.fieldAddr 34 (.tmp 1) 4) (some 125) [] ro20.ns (by kernel_rfl) rfl (by kernel_rfl) (fun o ho hd hw l xs W hF hl hn K hK => ?_)
      have e1 := eval_o (xs := xs) (ns := ro20.ns) h1
      exact value_ (v := .pointer (some ⟨b1, 4, none⟩)) (hw _) hd (w1 := W) (by simp only [execOp, ho, e1]; go_simp) (hK.out _ _ (ro20.step hF (by decide) rfl hl))
    · refine step_op (Op.load 25 (.tmp 125)) (some 126) [26] ro20.ns (by kernel_rfl) rfl (by kernel_rfl) (fun o ho hd hw l xs W hF hl hn K hK => ?_)
      have e1 : (putZ a ro20.ns 0 xs).eval (.tmp 125) = .pointer (some ⟨b1, 4, none⟩) := (eval_z 26 (hsz 125 (by decide))).trans (hF.2.1 26 (by decide) hn.1)
      have hc : W.cell? ⟨b1, 4, none⟩ = some (.slice A4 p.f4.length c4) := (blk_cell (blk_below hb1 hF.1) 4).trans rfl
      exact value_ (v := .slice A4 p.f4.length c4) (hw _) hd (w1 := W) (by simp only [execOp, ho, e1]; go_simp) (hK.out _ _ (ro20.step hF (by decide) rfl hl))
    · refine step_op (Op.call { callee := .builtin .len, args := #[.tmp 126], argTypes := #[25] }) (some 127) [27] ro20.ns (by kernel_rfl) rfl (by kernel_rfl) (fun o ho hd hw l xs W hF hl hn K hK => ?_)
      have e1 : (putZ a ro20.ns 0 xs).eval (.tmp 126) = .slice A4 p.f4.length c4 := (eval_z 27 (hsz 126 (by decide))).trans (hF.2.1 27 (by decide) hn.1)
      exact value_ (v := .int .i64 (p.f4.length : Nat)) (hw _) hd (w1 := W) (by simp only [Act.eval, Array.getD_eq_getD_getElem?] at e1; simp only [execOp, ho]; go_simp) (hK.out _ _ (ro20.step hF (by decide) rfl hl))
    · refine step_op (Op.slice 25 (.tmp 124) none (some (.tmp 127)) none) (some 128) [25, 28] ro20.ns (by kernel_rfl) rfl (by kernel_rfl) (fun o ho hd hw l xs W hF hl hn K hK => ?_)
      have e1 : (putZ a ro20.ns 0 xs).eval (.tmp 124) = .slice X4 L4.length y4 := (eval_z 25 (hsz 124 (by decide))).trans (hF.2.1 25 (by decide) hn.1)
      have e2 : (putZ a ro20.ns 0 xs).eval (.tmp 127) = .int .i64 (p.f4.length : Nat) := (eval_z 28 (hsz 127 (by decide))).trans (hF.2.1 28 (by decide) hn.2.1)
      have hcut := cut_to (P := Try.prog) 25 9 .i64 Try.underlying25 (info_parts info9).choose_spec.1 X4 L4.length y4 (p.f4.length : Int) (by omega) (by omega) Y4
      rw [Int.toNat_natCast] at hcut
      exact value_ (v := .slice X4 p.f4.length y4) (hw _) hd (w1 := W) (by simp only [execOp, ho, e1, e2, Option.map]; go_simp) (hK.out _ _ (ro20.step hF (by decide) rfl hl))
    · refine step_op (Op.build 34 #[(0, .tmp 104), (1, .tmp 110), (2, .tmp 116), (3, .tmp 122), (4, .tmp 128)]) (some 129) [5, 11, 17, 23, 29] ro20.ns (by kernel_rfl) rfl (by kernel_rfl) (fun o ho hd hw l xs W hF hl hn K hK => ?_)
      have e0 : (putZ a ro20.ns 0 xs).eval (.tmp 104) = .slice X0 p.f0.length y0 := (eval_z 5 (hsz 104 (by decide))).trans (hF.2.1 5 (by decide) hn.1)
      have e1 : (putZ a ro20.ns 0 xs).eval (.tmp 110) = .slice X1 p.f1.length y1 := (eval_z 11 (hsz 110 (by decide))).trans (hF.2.1 11 (by decide) hn.2.1)
      have e2 : (putZ a ro20.ns 0 xs).eval (.tmp 116) = .slice X2 p.f2.length y2 := (eval_z 17 (hsz 116 (by decide))).trans (hF.2.1 17 (by decide) hn.2.2.1)
      have e3 : (putZ a ro20.ns 0 xs).eval (.tmp 122) = .slice X3 p.f3.length y3 := (eval_z 23 (hsz 122 (by decide))).trans (hF.2.1 23 (by decide) hn.2.2.2.1)
      have e4 : (putZ a ro20.ns 0 xs).eval (.tmp 128) = .slice X4 p.f4.length y4 := (eval_z 29 (hsz 128 (by decide))).trans (hF.2.1 29 (by decide) hn.2.2.2.2.1)
      exact value_ (v := .agg #[.slice X0 p.f0.length y0, .slice X1 p.f1.length y1, .slice X2 p.f2.length y2, .slice X3 p.f3.length y3, .slice X4 p.f4.length y4, .slice none 0 0, .slice none 0 0, .slice none 0 0, .slice none 0 0, .slice none 0 0, .slice none 0 0]) (hw _) hd (w1 := W) (by simp only [Act.eval, Array.getD_eq_getD_getElem?] at e0 e1 e2 e3 e4; simp only [execOp, ho]; go_simp) (hK.out _ _ (ro20.step hF (by decide) rfl hl))
    · refine step_op (Op.alloc 34) (some 8) [] ro20.ns (by kernel_rfl) rfl (by kernel_rfl) (fun o ho hd hw l xs W hF hl hn K hK => ?_)
      obtain ⟨h0, h1, h2, h3⟩ := hF
      have hns : l 32 = false := by
        cases hq : l 32 with
        | false => rfl
        | true => exact absurd (h3 hq).2 (by rw [hl]; decide)
      rw [show (some 8 : Option Tmp) = o.dst from hd.symm] at hK ⊢
      refine box_step (hw _) hd (cs := #[.slice none 0 0, .slice none 0 0, .slice none 0 0, .slice none 0 0, .slice none 0 0, .slice none 0 0, .slice none 0 0, .slice none 0 0, .slice none 0 0, .slice none 0 0, .slice none 0 0]) (t := 34) (by simp only [execOp, ho]; go_simp) (fun g hg W' hbox hb => hK.out _ _ ?_)
      refine ⟨h0.trans (hb.mono h0.size), fun j hj hlj => ?_, fun _ => ⟨g, upd_same _ _ _, by rw [hg]; exact h0.size, .inl ⟨by rw [upd_other _ _ (by decide)]; exact hns, hbox⟩⟩, fun hlj => ?_⟩
      · rw [upd_other _ _ (Nat.ne_of_lt hj)] at hlj ⊢
        exact h1 j hj hlj
      · rw [upd_other _ _ (by decide), hns] at hlj
        cases hlj
    · refine step_op (Op.store 34 (.tmp 8) (.tmp 129)) (none) [31, 30, 0, 1, 2, 3, 4, 5, 6, 7, 8, 9, 10, 11, 12, 13, 14, 15, 16, 17, 18, 19, 20, 21, 22, 23, 24, 25, 26, 27, 28, 29, 30, 31] ro20.ns (by kernel_rfl) rfl (by kernel_rfl) (fun o ho hd hw l xs W hF hl hn K hK => ?_)
      have e1 := (eval_z (a := a) (xs := xs) (ns := ro20.ns) 31 (hsz 8 (by decide)) : _ = xs 31)
      have e2 : (putZ a ro20.ns 0 xs).eval (.tmp 129) = .agg #[.slice X0 p.f0.length y0, .slice X1 p.f1.length y1, .slice X2 p.f2.length y2, .slice X3 p.f3.length y3, .slice X4 p.f4.length y4, .slice none 0 0, .slice none 0 0, .slice none 0 0, .slice none 0 0, .slice none 0 0, .slice none 0 0] := (eval_z 30 (hsz 129 (by decide))).trans (hF.2.1 30 (by decide) hn.2.1)
      obtain ⟨h0, h1, h2, h3⟩ := hF
      obtain ⟨b, e, hle, hh⟩ := h2 hn.1
      have hh := hh.resolve_right (fun h => absurd h.1 (by rw [hl]; decide))
      rw [e] at e1
      have hK2 : ∀ w2, ro20.F (ro20.V p A0 c0 X0 y0 A1 c1 X1 y1 A2 c2 X2 y2 A3 c3 X3 y3 A4 c4 X4 y4 L0 L1 L2 L3 L4 b1 b3) w (upd l _ true) (upd xs _ undef) w2 → K (putZ a ro20.ns 0 xs) w2 := fun w2 h => by
        have h2 := hK.out undef w2 h
        rw [put_none] at h2
        exact h2
      clear hK
      rw [show (none : Option Tmp) = o.dst from hd.symm]
      refine bstore_step (hw _) ho hd b _ #[.slice X0 p.f0.length y0, .slice X1 p.f1.length y1, .slice X2 p.f2.length y2, .slice X3 p.f3.length y3, .slice X4 p.f4.length y4, .slice none 0 0, .slice none 0 0, .slice none 0 0, .slice none 0 0, .slice none 0 0, .slice none 0 0] _ e1 e2 rfl hh.2 (by kernel_rfl) (by simp) (by intro q hq; simp only [List.mem_cons, List.not_mem_nil, or_false] at hq; rcases hq with rfl | rfl | rfl | rfl | rfl | rfl | rfl | rfl | rfl | rfl | rfl <;> rfl) (fun w1 hw1 hoth hsw hbel => hK2 w1 ?_)
      refine ⟨h0.trans (hbel _ hle), fun j hj hlj => ?_, fun _ => ⟨b, by rw [upd_other _ _ (by decide)]; exact e, hle, .inr ⟨upd_same _ _ _, _, rfl, hw1⟩⟩, fun _ => ⟨?_, ?_⟩⟩
      · rw [upd_other _ _ (by omega)] at hlj ⊢
        exact h1 j hj hlj
      · rw [upd_other _ _ (by decide)]; exact hn.2.1
      · rw [upd_other _ _ (by decide)]; exact hn.1
end Go.Proofs.Ytnkdcekddhmjnaa.M
