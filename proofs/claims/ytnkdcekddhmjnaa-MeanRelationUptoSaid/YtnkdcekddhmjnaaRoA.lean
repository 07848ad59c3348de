import Derived.Test.YtnkdcekddhmjnaaWAll
import Derived.Test.YtnkdcekddhmjnaaF4
import Derived.Test.YtnkdcekddhmjnaaPS
import Derived.Deep.RegionHeld3
/- roomy's first region, walked: four lists, each with a mark behind it, laid into a new policy. Conditions: the lists read as they must. -/
namespace Go.Proofs.Ytnkdcekddhmjnaa.M
open Go.RowKit Go.Proofs.YtnkdcekddhmjnaaW.PrintWords Go.Proofs.YtnkdcekddhmjnaaW.PrintLast Go.Proofs.YtnkdcekddhmjnaaW.PrintAll Go.Proofs.Ytnkdcekddhmjnaa.F
set_option linter.unusedVariables false
abbrev ro1.ns : List (Option Tmp) := ([some 9, some 10, some 11, some 12, some 13, some 14, some 15, some 16, some 17, some 18, some 19, some 20, some 21, some 3, none] : List (Option Tmp))
def ro1.T : Bool × List (List Nat × List Nat) := (true, [([], []), ([0], [0]), ([1], [1]), ([], []), ([3], [3]), ([4, 2], [4]), ([], []), ([6], [6]), ([7, 5], [7]), ([], []), ([9], [9]), ([10, 8], [10]), ([2, 5, 8, 11], [2, 5, 8, 11]), ([], []), ([13, 12, 11, 0, 1, 2, 3, 4, 5, 6, 7, 8, 9, 10, 11, 12, 13], [12, 13])])
theorem ro1.tab : rtab .any (opsOf Try.f18 1) = ro1.T := by kernel_rfl
def ro1.F (p : Pol) (A0 : Option Addr) (c0 : Nat) (A2 : Option Addr) (c2 : Nat) (A3 : Option Addr) (c3 : Nat) (A4 : Option Addr) (c4 : Nat) (b1 : Nat) (w : World) (l : Nat → Bool) (xs : Nat → Value) (W : World) : Prop :=
  Below w.heap.size w W ∧ (l 0 = true → xs 0 = .pointer (some ⟨b1, 0, none⟩)) ∧ (l 1 = true → xs 1 = .slice A0 p.f0.length c0) ∧ (l 2 = true → Kd.R Kd.string 9 W w.heap.size (fun _ => True) (xs 2) (p.f0 ++ [mark])) ∧ (l 3 = true → xs 3 = .pointer (some ⟨b1, 2, none⟩)) ∧ (l 4 = true → xs 4 = .slice A2 p.f2.length c2) ∧ (l 5 = true → Kd.R Kd.string 9 W w.heap.size (fun _ => True) (xs 5) (p.f2 ++ [mark])) ∧ (l 6 = true → xs 6 = .pointer (some ⟨b1, 3, none⟩)) ∧ (l 7 = true → xs 7 = .slice A3 p.f3.length c3) ∧ (l 8 = true → Kd.R Kd.string 9 W w.heap.size (fun _ => True) (xs 8) (p.f3 ++ [mark])) ∧ (l 9 = true → xs 9 = .pointer (some ⟨b1, 4, none⟩)) ∧ (l 10 = true → xs 10 = .slice A4 p.f4.length c4) ∧ (l 11 = true → Kd.R Kd.string 9 W w.heap.size (fun _ => True) (xs 11) (p.f4 ++ [mark])) ∧ (l 12 = true → (l 2 = true ∧ l 5 = true ∧ l 8 = true ∧ l 11 = true) ∧ xs 12 = .agg #[xs 2, .slice none 0 0, xs 5, xs 8, xs 11, .slice none 0 0, .slice none 0 0, .slice none 0 0, .slice none 0 0, .slice none 0 0, .slice none 0 0]) ∧ (l 13 = true → ∃ b, xs 13 = .pointer (some ⟨b, 0, none⟩) ∧ w.heap.size ≤ b ∧ ((l 14 = false ∧ W.heap[b]? = some (Obj.cells #[.slice none 0 0, .slice none 0 0, .slice none 0 0, .slice none 0 0, .slice none 0 0, .slice none 0 0, .slice none 0 0, .slice none 0 0, .slice none 0 0, .slice none 0 0, .slice none 0 0] 34 (0, 0))) ∨ (l 14 = true ∧ W.heap[b]? = some (Obj.cells #[xs 2, .slice none 0 0, xs 5, xs 8, xs 11, .slice none 0 0, .slice none 0 0, .slice none 0 0, .slice none 0 0, .slice none 0 0, .slice none 0 0] 34 (0, 0))))) ∧ (l 14 = true → l 12 = true ∧ l 13 = true)
theorem ro1.below {p : Pol} {A0 : Option Addr} {c0 : Nat} {A2 : Option Addr} {c2 : Nat} {A3 : Option Addr} {c3 : Nat} {A4 : Option Addr} {c4 : Nat} {b1 : Nat} {w W W' : World} {l : Nat → Bool} {xs : Nat → Value} (h : ro1.F p A0 c0 A2 c2 A3 c3 A4 c4 b1 w l xs W) (hb : Below W.heap.size W W') : ro1.F p A0 c0 A2 c2 A3 c3 A4 c4 b1 w l xs W' := by
  obtain ⟨h0, q0, q1, q2, q3, q4, q5, q6, q7, q8, q9, q10, q11, q12, q13, q14⟩ := h
  exact ⟨h0.trans (hb.mono h0.size), q0, q1, fun h => Kd.R_below (q2 h) hb, q3, q4, fun h => Kd.R_below (q5 h) hb, q6, q7, fun h => Kd.R_below (q8 h) hb, q9, q10, fun h => Kd.R_below (q11 h) hb, q12, fun h => by
    obtain ⟨b, e, hle, hh⟩ := q13 h
    refine ⟨b, e, hle, hh.imp (fun h2 => ⟨h2.1, ?_⟩) (fun h2 => ⟨h2.1, ?_⟩)⟩
    · exact blk_below h2.2 hb
    · exact blk_below h2.2 hb, q14⟩
set_option maxRecDepth 100000 in
set_option maxHeartbeats 2000000 in
theorem ro1 {Q : Exit → Act → World → Prop} {id : Nat} {a : Act} {w : World} {b1 : Nat} (p : Pol) {A0 : Option Addr} {c0 : Nat} {A1 : Option Addr} {c1 : Nat} {A2 : Option Addr} {c2 : Nat} {A3 : Option Addr} {c3 : Nat} {A4 : Option Addr} {c4 : Nat} {A5 : Option Addr} {c5 : Nat} {A6 : Option Addr} {c6 : Nat} {A7 : Option Addr} {c7 : Nat} {A8 : Option Addr} {c8 : Nat} {A9 : Option Addr} {c9 : Nat} {A10 : Option Addr} {c10 : Nat} (hm : Try.prog.follows .mixedOrders = true) (hs : a.tmps.size = 176) (h1 : a.eval (.tmp 1) = .pointer (some ⟨b1, 0, none⟩)) (hb1 : w.heap[b1]? = some (Obj.cells #[.slice A0 p.f0.length c0, .slice A1 p.f1.length c1, .slice A2 p.f2.length c2, .slice A3 p.f3.length c3, .slice A4 p.f4.length c4, .slice A5 p.f5.length c5, .slice A6 p.f6.length c6, .slice A7 p.f7.length c7, .slice A8 p.f8.length c8, .slice A9 p.f9.length c9, .slice A10 p.f10.length c10] 34 (0, 0)))
    (H0 : Kd.C Kd.string w A0 p.f0.length p.f0) (L0 : p.f0.length ≤ c0) (E0 : gatehouselaw08_longer.f p.f0 = some (p.f0 ++ [mark])) (H2 : Kd.C Kd.string w A2 p.f2.length p.f2) (L2 : p.f2.length ≤ c2) (E2 : gatehouselaw08_longer.f p.f2 = some (p.f2 ++ [mark])) (H3 : Kd.C Kd.string w A3 p.f3.length p.f3) (L3 : p.f3.length ≤ c3) (E3 : gatehouselaw08_longer.f p.f3 = some (p.f3 ++ [mark])) (H4 : Kd.C Kd.string w A4 p.f4.length p.f4) (L4 : p.f4.length ≤ c4) (E4 : gatehouselaw08_longer.f p.f4 = some (p.f4 ++ [mark]))
    (hdone : ∀ (xs : Nat → Value) (b : Nat) (W : World), Below w.heap.size w W → xs 13 = .pointer (some ⟨b, 0, none⟩) → w.heap.size ≤ b → W.heap[b]? = some (Obj.cells #[xs 2, .slice none 0 0, xs 5, xs 8, xs 11, .slice none 0 0, .slice none 0 0, .slice none 0 0, .slice none 0 0, .slice none 0 0, .slice none 0 0] 34 (0, 0)) → Kd.R Kd.string 9 W w.heap.size (fun _ => True) (xs 2) (p.f0 ++ [mark]) → Kd.R Kd.string 9 W w.heap.size (fun _ => True) (xs 5) (p.f2 ++ [mark]) → Kd.R Kd.string 9 W w.heap.size (fun _ => True) (xs 8) (p.f3 ++ [mark]) → Kd.R Kd.string 9 W w.heap.size (fun _ => True) (xs 11) (p.f4 ++ [mark]) → Q .normal (putZ a ro1.ns 0 xs) W) :
    (Code.region id (opsOf Try.f18 1) true).wp Try.prog Q a w := by
  refine region_inv (T := ro1.T) 15 hm (by kernel_rfl) ro1.tab (by kernel_rfl) (by kernel_rfl) (ro1.F p A0 c0 A2 c2 A3 c3 A4 c4 b1 w) ?h0 ?hF ?hsteps ?hd
  case h0 => exact fun xs => ⟨below_drew (Below.refl _ _), fun h => absurd h (by decide), fun h => absurd h (by decide), fun h => absurd h (by decide), fun h => absurd h (by decide), fun h => absurd h (by decide), fun h => absurd h (by decide), fun h => absurd h (by decide), fun h => absurd h (by decide), fun h => absurd h (by decide), fun h => absurd h (by decide), fun h => absurd h (by decide), fun h => absurd h (by decide), fun h => absurd h (by decide), fun h => absurd h (by decide), fun h => absurd h (by decide)⟩
  case hF =>
    rintro l l' xs W hl ⟨h0, q0, q1, q2, q3, q4, q5, q6, q7, q8, q9, q10, q11, q12, q13, q14⟩
    exact ⟨h0, fun h => q0 ((hl 0 (by decide)).trans h), fun h => q1 ((hl 1 (by decide)).trans h), fun h => q2 ((hl 2 (by decide)).trans h), fun h => q3 ((hl 3 (by decide)).trans h), fun h => q4 ((hl 4 (by decide)).trans h), fun h => q5 ((hl 5 (by decide)).trans h), fun h => q6 ((hl 6 (by decide)).trans h), fun h => q7 ((hl 7 (by decide)).trans h), fun h => q8 ((hl 8 (by decide)).trans h), fun h => q9 ((hl 9 (by decide)).trans h), fun h => q10 ((hl 10 (by decide)).trans h), fun h => q11 ((hl 11 (by decide)).trans h), fun h => by
      obtain ⟨g1, g2⟩ := q12 ((hl 12 (by decide)).trans h)
      exact ⟨⟨(hl 2 (by decide)).symm.trans g1.1, (hl 5 (by decide)).symm.trans g1.2.1, (hl 8 (by decide)).symm.trans g1.2.2.1, (hl 11 (by decide)).symm.trans g1.2.2.2⟩, g2⟩, fun h => by
      obtain ⟨b, e, hle, hh⟩ := q13 ((hl 13 (by decide)).trans h)
      refine ⟨b, e, hle, ?_⟩
      rw [← hl 14 (by decide)]
      exact hh, fun h => by
      obtain ⟨g1, g2⟩ := q14 ((hl 14 (by decide)).trans h)
      exact ⟨(hl 12 (by decide)).symm.trans g1, (hl 13 (by decide)).symm.trans g2⟩⟩
  case hd =>
    rintro xs W ⟨h0, q0, q1, q2, q3, q4, q5, q6, q7, q8, q9, q10, q11, q12, q13, q14⟩
    obtain ⟨b, e, hle, hh⟩ := q13 rfl
    rcases hh with hh | hh
    · cases hh.1
    · exact hdone xs b W h0 e hle hh.2 (q2 rfl) (q5 rfl) (q8 rfl) (q11 rfl)
  case hsteps =>
    have hsz : ∀ t, t < 176 → t < a.tmps.size := fun t ht => by rw [hs]; exact ht
    refine ⟨?_, ?_, ?_, ?_, ?_, ?_, ?_, ?_, ?_, ?_, ?_, ?_, ?_, ?_, ?_, trivial⟩
    · refine step_op (Op.fieldAddr 34 (.tmp 1) 0) (some 9) [] ro1.ns (by kernel_rfl) rfl (by kernel_rfl) (fun o ho hd hw l xs W hF hl hn K hK => ?_)
      have e1 := eval_o (xs := xs) (ns := ro1.ns) h1
      refine value_ (v := .pointer (some ⟨b1, 0, none⟩)) (hw _) hd (w1 := W) (by simp only [execOp, ho, e1]; go_simp) (hK.out _ _ ?_)
      obtain ⟨h0, q0, q1, q2, q3, q4, q5, q6, q7, q8, q9, q10, q11, q12, q13, q14⟩ := hF
      exact ⟨h0, fun _ => rfl, q1, q2, q3, q4, q5, q6, q7, q8, q9, q10, q11, q12, q13, q14⟩
    · refine step_op (Op.load 25 (.tmp 9)) (some 10) [0] ro1.ns (by kernel_rfl) rfl (by kernel_rfl) (fun o ho hd hw l xs W hF hl hn K hK => ?_)
      have e1 := (eval_z (a := a) (xs := xs) (ns := ro1.ns) 0 (hsz 9 (by decide)) : _ = xs 0)
      obtain ⟨h0, q0, q1, q2, q3, q4, q5, q6, q7, q8, q9, q10, q11, q12, q13, q14⟩ := hF
      rw [q0 hn.1] at e1
      have hc : W.cell? ⟨b1, 0, none⟩ = some (.slice A0 p.f0.length c0) := (blk_cell (blk_below hb1 h0) 0).trans rfl
      refine value_ (v := .slice A0 p.f0.length c0) (hw _) hd (w1 := W) (by simp only [execOp, ho, e1]; go_simp) (hK.out _ _ ?_)
      exact ⟨h0, q0, fun _ => rfl, q2, q3, q4, q5, q6, q7, q8, q9, q10, q11, q12, q13, q14⟩
    · refine step_op (Op.call { callee := .value (.func 43), args := #[.tmp 10], argTypes := #[25] }) (some 11) [1] ro1.ns (by kernel_rfl) rfl (by kernel_rfl) (fun o ho hd hw l xs W hF hl hn K hK => ?_)
      have e1 := (eval_z (a := a) (xs := xs) (ns := ro1.ns) 1 (hsz 10 (by decide)) : _ = xs 1)
      have hF2 := hF
      obtain ⟨h0, q0, q1, q2, q3, q4, q5, q6, q7, q8, q9, q10, q11, q12, q13, q14⟩ := hF
      rw [q1 hn.1] at e1
      refine goes_ Try.func43 (by kernel_rfl) rfl #[.slice A0 p.f0.length c0] (hw _) hd ho (by simp only [List.map_toArray, List.map_cons, List.map_nil, e1]) ?_
      refine (gatehouselaw08_longer.calls A0 c0 p.f0 _ _ (Kd.C_below H0 h0) L0 E0).mono ?_
      rintro e W' ⟨v, rfl, hR, hb⟩
      refine ⟨v, rfl, hK.out v _ ?_⟩
      have hR2 := R_all (Kd.R_lower hR h0.size)
      obtain ⟨h0, q0, q1, q2, q3, q4, q5, q6, q7, q8, q9, q10, q11, q12, q13, q14⟩ := ro1.below hF2 hb
      exact ⟨h0, q0, q1, fun _ => hR2, q3, q4, q5, q6, q7, q8, q9, q10, q11, fun h => absurd (q12 h).1.1 (by rw [hl]; decide), fun h => by
        obtain ⟨b, e, hle, hh⟩ := q13 h
        refine ⟨b, e, hle, ?_⟩
        rcases hh with hh | hh
        · exact .inl hh
        · exact absurd (q12 (q14 hh.1).1).1.1 (by rw [hl]; decide), q14⟩
    · refine step_op (Op.fieldAddr 34 (.tmp 1) 2) (some 12) [] ro1.ns (by kernel_rfl) rfl (by kernel_rfl) (fun o ho hd hw l xs W hF hl hn K hK => ?_)
      have e1 := eval_o (xs := xs) (ns := ro1.ns) h1
      refine value_ (v := .pointer (some ⟨b1, 2, none⟩)) (hw _) hd (w1 := W) (by simp only [execOp, ho, e1]; go_simp) (hK.out _ _ ?_)
      obtain ⟨h0, q0, q1, q2, q3, q4, q5, q6, q7, q8, q9, q10, q11, q12, q13, q14⟩ := hF
      exact ⟨h0, q0, q1, q2, fun _ => rfl, q4, q5, q6, q7, q8, q9, q10, q11, q12, q13, q14⟩
    · refine step_op (Op.load 25 (.tmp 12)) (some 13) [3] ro1.ns (by kernel_rfl) rfl (by kernel_rfl) (fun o ho hd hw l xs W hF hl hn K hK => ?_)
      have e1 := (eval_z (a := a) (xs := xs) (ns := ro1.ns) 3 (hsz 12 (by decide)) : _ = xs 3)
      obtain ⟨h0, q0, q1, q2, q3, q4, q5, q6, q7, q8, q9, q10, q11, q12, q13, q14⟩ := hF
      rw [q3 hn.1] at e1
      have hc : W.cell? ⟨b1, 2, none⟩ = some (.slice A2 p.f2.length c2) := (blk_cell (blk_below hb1 h0) 2).trans rfl
      refine value_ (v := .slice A2 p.f2.length c2) (hw _) hd (w1 := W) (by simp only [execOp, ho, e1]; go_simp) (hK.out _ _ ?_)
      exact ⟨h0, q0, q1, q2, q3, fun _ => rfl, q5, q6, q7, q8, q9, q10, q11, q12, q13, q14⟩
    · refine step_op (Op.call { callee := .value (.func 43), args := #[.tmp 13], argTypes := #[25] }) (some 14) [4, 2] ro1.ns (by kernel_rfl) rfl (by kernel_rfl) (fun o ho hd hw l xs W hF hl hn K hK => ?_)
      have e1 := (eval_z (a := a) (xs := xs) (ns := ro1.ns) 4 (hsz 13 (by decide)) : _ = xs 4)
      have hF2 := hF
      obtain ⟨h0, q0, q1, q2, q3, q4, q5, q6, q7, q8, q9, q10, q11, q12, q13, q14⟩ := hF
      rw [q4 hn.1] at e1
      refine goes_ Try.func43 (by kernel_rfl) rfl #[.slice A2 p.f2.length c2] (hw _) hd ho (by simp only [List.map_toArray, List.map_cons, List.map_nil, e1]) ?_
      refine (gatehouselaw08_longer.calls A2 c2 p.f2 _ _ (Kd.C_below H2 h0) L2 E2).mono ?_
      rintro e W' ⟨v, rfl, hR, hb⟩
      refine ⟨v, rfl, hK.out v _ ?_⟩
      have hR2 := R_all (Kd.R_lower hR h0.size)
      obtain ⟨h0, q0, q1, q2, q3, q4, q5, q6, q7, q8, q9, q10, q11, q12, q13, q14⟩ := ro1.below hF2 hb
      exact ⟨h0, q0, q1, q2, q3, q4, fun _ => hR2, q6, q7, q8, q9, q10, q11, fun h => absurd (q12 h).1.2.1 (by rw [hl]; decide), fun h => by
        obtain ⟨b, e, hle, hh⟩ := q13 h
        refine ⟨b, e, hle, ?_⟩
        rcases hh with hh | hh
        · exact .inl hh
        · exact absurd (q12 (q14 hh.1).1).1.2.1 (by rw [hl]; decide), q14⟩
    · refine step_op (Op.fieldAddr 34 (.tmp 1) 3) (some 15) [] ro1.ns (by kernel_rfl) rfl (by kernel_rfl) (fun o ho hd hw l xs W hF hl hn K hK => ?_)
      have e1 := eval_o (xs := xs) (ns := ro1.ns) h1
      refine value_ (v := .pointer (some ⟨b1, 3, none⟩)) (hw _) hd (w1 := W) (by simp only [execOp, ho, e1]; go_simp) (hK.out _ _ ?_)
      obtain ⟨h0, q0, q1, q2, q3, q4, q5, q6, q7, q8, q9, q10, q11, q12, q13, q14⟩ := hF
      exact ⟨h0, q0, q1, q2, q3, q4, q5, fun _ => rfl, q7, q8, q9, q10, q11, q12, q13, q14⟩
    · refine step_op (Op.load 25 (.tmp 15)) (some 16) [6] ro1.ns (by kernel_rfl) rfl (by kernel_rfl) (fun o ho hd hw l xs W hF hl hn K hK => ?_)
      have e1 := (eval_z (a := a) (xs := xs) (ns := ro1.ns) 6 (hsz 15 (by decide)) : _ = xs 6)
      obtain ⟨h0, q0, q1, q2, q3, q4, q5, q6, q7, q8, q9, q10, q11, q12, q13, q14⟩ := hF
      rw [q6 hn.1] at e1
      have hc : W.cell? ⟨b1, 3, none⟩ = some (.slice A3 p.f3.length c3) := (blk_cell (blk_below hb1 h0) 3).trans rfl
      refine value_ (v := .slice A3 p.f3.length c3) (hw _) hd (w1 := W) (by simp only [execOp, ho, e1]; go_simp) (hK.out _ _ ?_)
      exact ⟨h0, q0, q1, q2, q3, q4, q5, q6, fun _ => rfl, q8, q9, q10, q11, q12, q13, q14⟩
    · refine step_op (Op.call { callee := .value (.func 43), args := #[.tmp 16], argTypes := #[25] }) (some 17) [7, 5] ro1.ns (by kernel_rfl) rfl (by kernel_rfl) (fun o ho hd hw l xs W hF hl hn K hK => ?_)
      have e1 := (eval_z (a := a) (xs := xs) (ns := ro1.ns) 7 (hsz 16 (by decide)) : _ = xs 7)
      have hF2 := hF
      obtain ⟨h0, q0, q1, q2, q3, q4, q5, q6, q7, q8, q9, q10, q11, q12, q13, q14⟩ := hF
      rw [q7 hn.1] at e1
      refine goes_ Try.func43 (by kernel_rfl) rfl #[.slice A3 p.f3.length c3] (hw _) hd ho (by simp only [List.map_toArray, List.map_cons, List.map_nil, e1]) ?_
      refine (gatehouselaw08_longer.calls A3 c3 p.f3 _ _ (Kd.C_below H3 h0) L3 E3).mono ?_
      rintro e W' ⟨v, rfl, hR, hb⟩
      refine ⟨v, rfl, hK.out v _ ?_⟩
      have hR2 := R_all (Kd.R_lower hR h0.size)
      obtain ⟨h0, q0, q1, q2, q3, q4, q5, q6, q7, q8, q9, q10, q11, q12, q13, q14⟩ := ro1.below hF2 hb
      exact ⟨h0, q0, q1, q2, q3, q4, q5, q6, q7, fun _ => hR2, q9, q10, q11, fun h => absurd (q12 h).1.2.2.1 (by rw [hl]; decide), fun h => by
        obtain ⟨b, e, hle, hh⟩ := q13 h
        refine ⟨b, e, hle, ?_⟩
        rcases hh with hh | hh
        · exact .inl hh
        · exact absurd (q12 (q14 hh.1).1).1.2.2.1 (by rw [hl]; decide), q14⟩
    · refine step_op (Op.fieldAddr 34 (.tmp 1) 4) (some 18) [] ro1.ns (by kernel_rfl) rfl (by kernel_rfl) (fun o ho hd hw l xs W hF hl hn K hK => ?_)
      have e1 := eval_o (xs := xs) (ns := ro1.ns) h1
      refine value_ (v := .pointer (some ⟨b1, 4, none⟩)) (hw _) hd (w1 := W) (by simp only [execOp, ho, e1]; go_simp) (hK.out _ _ ?_)
      obtain ⟨h0, q0, q1, q2, q3, q4, q5, q6, q7, q8, q9, q10, q11, q12, q13, q14⟩ := hF
      exact ⟨h0, q0, q1, q2, q3, q4, q5, q6, q7, q8, fun _ => rfl, q10, q11, q12, q13, q14⟩
    · refine step_op (Op.load 25 (.tmp 18)) (some 19) [9] ro1.ns (by kernel_rfl) rfl (by kernel_rfl) (fun o ho hd hw l xs W hF hl hn K hK => ?_)
      have e1 := (eval_z (a := a) (xs := xs) (ns := ro1.ns) 9 (hsz 18 (by decide)) : _ = xs 9)
      obtain ⟨h0, q0, q1, q2, q3, q4, q5, q6, q7, q8, q9, q10, q11, q12, q13, q14⟩ := hF
      rw [q9 hn.1] at e1
      have hc : W.cell? ⟨b1, 4, none⟩ = some (.slice A4 p.f4.length c4) := (blk_cell (blk_below hb1 h0) 4).trans rfl
      refine value_ (v := .slice A4 p.f4.length c4) (hw _) hd (w1 := W) (by simp only [execOp, ho, e1]; go_simp) (hK.out _ _ ?_)
      exact ⟨h0, q0, q1, q2, q3, q4, q5, q6, q7, q8, q9, fun _ => rfl, q11, q12, q13, q14⟩
    · refine step_op (Op.call { callee := .value (.func 43), args := #[.tmp 19], argTypes := #[25] }) (some 20) [10, 8] ro1.ns (by kernel_rfl) rfl (by kernel_rfl) (fun o ho hd hw l xs W hF hl hn K hK => ?_)
      have e1 := (eval_z (a := a) (xs := xs) (ns := ro1.ns) 10 (hsz 19 (by decide)) : _ = xs 10)
      have hF2 := hF
      obtain ⟨h0, q0, q1, q2, q3, q4, q5, q6, q7, q8, q9, q10, q11, q12, q13, q14⟩ := hF
      rw [q10 hn.1] at e1
      refine goes_ Try.func43 (by kernel_rfl) rfl #[.slice A4 p.f4.length c4] (hw _) hd ho (by simp only [List.map_toArray, List.map_cons, List.map_nil, e1]) ?_
      refine (gatehouselaw08_longer.calls A4 c4 p.f4 _ _ (Kd.C_below H4 h0) L4 E4).mono ?_
      rintro e W' ⟨v, rfl, hR, hb⟩
      refine ⟨v, rfl, hK.out v _ ?_⟩
      have hR2 := R_all (Kd.R_lower hR h0.size)
      obtain ⟨h0, q0, q1, q2, q3, q4, q5, q6, q7, q8, q9, q10, q11, q12, q13, q14⟩ := ro1.below hF2 hb
      exact ⟨h0, q0, q1, q2, q3, q4, q5, q6, q7, q8, q9, q10, fun _ => hR2, fun h => absurd (q12 h).1.2.2.2 (by rw [hl]; decide), fun h => by
        obtain ⟨b, e, hle, hh⟩ := q13 h
        refine ⟨b, e, hle, ?_⟩
        rcases hh with hh | hh
        · exact .inl hh
        · exact absurd (q12 (q14 hh.1).1).1.2.2.2 (by rw [hl]; decide), q14⟩
    · refine step_op (Op.build 34 #[(0, .tmp 11), (2, .tmp 14), (3, .tmp 17), (4, .tmp 20)]) (some 21) [2, 5, 8, 11] ro1.ns (by kernel_rfl) rfl (by kernel_rfl) (fun o ho hd hw l xs W hF hl hn K hK => ?_)
      have e2 := (eval_z (a := a) (xs := xs) (ns := ro1.ns) 2 (hsz 11 (by decide)) : _ = xs 2)
      have e5 := (eval_z (a := a) (xs := xs) (ns := ro1.ns) 5 (hsz 14 (by decide)) : _ = xs 5)
      have e8 := (eval_z (a := a) (xs := xs) (ns := ro1.ns) 8 (hsz 17 (by decide)) : _ = xs 8)
      have e11 := (eval_z (a := a) (xs := xs) (ns := ro1.ns) 11 (hsz 20 (by decide)) : _ = xs 11)
      obtain ⟨h0, q0, q1, q2, q3, q4, q5, q6, q7, q8, q9, q10, q11, q12, q13, q14⟩ := hF
      obtain ⟨A0_, c0_, z0, -, -⟩ := Kd.R_reads (q2 (hn.1))
      obtain ⟨A2_, c2_, z2, -, -⟩ := Kd.R_reads (q5 (hn.2.1))
      obtain ⟨A3_, c3_, z3, -, -⟩ := Kd.R_reads (q8 (hn.2.2.1))
      obtain ⟨A4_, c4_, z4, -, -⟩ := Kd.R_reads (q11 (hn.2.2.2.1))
      refine value_ (v := .agg #[xs 2, .slice none 0 0, xs 5, xs 8, xs 11, .slice none 0 0, .slice none 0 0, .slice none 0 0, .slice none 0 0, .slice none 0 0, .slice none 0 0]) (hw _) hd (w1 := W) ?_ (hK.out _ _ ?_)
      · rw [z0, z2, z3, z4]
        rw [z0] at e2
        rw [z2] at e5
        rw [z3] at e8
        rw [z4] at e11
        simp only [Act.eval, Array.getD_eq_getD_getElem?] at e2 e5 e8 e11
        simp only [execOp, ho]
        go_simp
      exact ⟨h0, q0, q1, q2, q3, q4, q5, q6, q7, q8, q9, q10, q11, fun _ => ⟨⟨hn.1, hn.2.1, hn.2.2.1, hn.2.2.2.1⟩, rfl⟩, q13, fun h => absurd (q14 h).1 (by rw [hl]; decide)⟩
    · refine step_op (Op.alloc 34) (some 3) [] ro1.ns (by kernel_rfl) rfl (by kernel_rfl) (fun o ho hd hw l xs W hF hl hn K hK => ?_)
      have hF2 := hF
      obtain ⟨h0, q0, q1, q2, q3, q4, q5, q6, q7, q8, q9, q10, q11, q12, q13, q14⟩ := hF
      have hns : l 14 = false := by
        cases hq : l 14 with
        | false => rfl
        | true => exact absurd (q14 hq).2 (by rw [hl]; decide)
      have hle := h0.size
      rw [show (some 3 : Option Tmp) = o.dst from hd.symm] at hK ⊢
      refine box_step (hw _) hd (cs := #[.slice none 0 0, .slice none 0 0, .slice none 0 0, .slice none 0 0, .slice none 0 0, .slice none 0 0, .slice none 0 0, .slice none 0 0, .slice none 0 0, .slice none 0 0, .slice none 0 0]) (t := 34) (by simp only [execOp, ho]; go_simp) (fun g hg W' hbox hb => hK.out _ _ ?_)
      obtain ⟨h0, q0, q1, q2, q3, q4, q5, q6, q7, q8, q9, q10, q11, q12, q13, q14⟩ := ro1.below hF2 hb
      exact ⟨h0, q0, q1, q2, q3, q4, q5, q6, q7, q8, q9, q10, q11, q12, fun _ => ⟨g, rfl, by rw [hg]; exact hle, .inl ⟨hns, hbox⟩⟩, fun h => absurd (q14 h).2 (by rw [hl]; decide)⟩
    · refine step_op (Op.store 34 (.tmp 3) (.tmp 21)) (none) [13, 12, 11, 0, 1, 2, 3, 4, 5, 6, 7, 8, 9, 10, 11, 12, 13] ro1.ns (by kernel_rfl) rfl (by kernel_rfl) (fun o ho hd hw l xs W hF hl hn K hK => ?_)
      have hF2 := hF
      obtain ⟨h0, q0, q1, q2, q3, q4, q5, q6, q7, q8, q9, q10, q11, q12, q13, q14⟩ := hF
      have e1 := (eval_z (a := a) (xs := xs) (ns := ro1.ns) 13 (hsz 3 (by decide)) : _ = xs 13)
      have e2 := (eval_z (a := a) (xs := xs) (ns := ro1.ns) 12 (hsz 21 (by decide)) : _ = xs 12)
      obtain ⟨b, e, hle, hh⟩ := q13 (hn.1)
      have hh := hh.resolve_right (fun h => absurd h.1 (by rw [hl]; decide))
      obtain ⟨hall, hag⟩ := q12 (hn.2.1)
      rw [e] at e1
      rw [hag] at e2
      obtain ⟨A0_, c0_, z0, -, -⟩ := Kd.R_reads (q2 hall.1)
      obtain ⟨A2_, c2_, z2, -, -⟩ := Kd.R_reads (q5 hall.2.1)
      obtain ⟨A3_, c3_, z3, -, -⟩ := Kd.R_reads (q8 hall.2.2.1)
      obtain ⟨A4_, c4_, z4, -, -⟩ := Kd.R_reads (q11 hall.2.2.2)
      have hK2 : ∀ w2, ro1.F p A0 c0 A2 c2 A3 c3 A4 c4 b1 w (upd l _ true) (upd xs _ undef) w2 → K (putZ a ro1.ns 0 xs) w2 := fun w2 h => by
        have h2 := hK.out undef w2 h
        rw [put_none] at h2
        exact h2
      clear hK
      rw [show (none : Option Tmp) = o.dst from hd.symm]
      refine bstore_step (hw _) ho hd b _ #[xs 2, .slice none 0 0, xs 5, xs 8, xs 11, .slice none 0 0, .slice none 0 0, .slice none 0 0, .slice none 0 0, .slice none 0 0, .slice none 0 0] _ e1 e2 ?_ hh.2 (by kernel_rfl) (by simp) ?_ (fun w1 hw1 hoth hsw hbel => hK2 w1 ?_)
      · rw [z0, z2, z3, z4]
        rfl
      · rw [z0, z2, z3, z4]
        intro q hq
        simp only [List.mem_cons, List.not_mem_nil, or_false] at hq
        rcases hq with rfl | rfl | rfl | rfl | rfl | rfl | rfl | rfl | rfl | rfl | rfl <;> rfl
      have hts : ∀ (t : Nat), t ≠ 34 → TS [t] W w1 := fun t ht => TS.but hh.2 (by intro q hq; rw [List.mem_singleton.1 hq]; exact ht) hoth
      exact ⟨h0.trans (hbel _ hle), q0, q1, fun h => R_ts (q2 h) (hts 9 (by decide)) (by decide), q3, q4, fun h => R_ts (q5 h) (hts 9 (by decide)) (by decide), q6, q7, fun h => R_ts (q8 h) (hts 9 (by decide)) (by decide), q9, q10, fun h => R_ts (q11 h) (hts 9 (by decide)) (by decide), fun _ => ⟨hall, hag⟩, fun _ => ⟨b, e, hle, .inr ⟨rfl, hw1⟩⟩, fun _ => ⟨hn.2.1, hn.1⟩⟩
end Go.Proofs.Ytnkdcekddhmjnaa.M
