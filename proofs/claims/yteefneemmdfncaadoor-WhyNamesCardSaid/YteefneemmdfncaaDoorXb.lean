import Derived.Test.YteefneemmdfncaaDoorXa
/- why.Holds, walked, verdict by verdict. Conditions: the policy and the reason read as they must; lists are bounded. -/
namespace Go.Proofs.YteefneemmdfncaaDoor.M
open Go.RowKit Go.Proofs.YteefneemmdfncaaDoorW.Raw Go.Proofs.YteefneemmdfncaaDoorW.PrintWords Go.Proofs.YteefneemmdfncaaDoor.F
set_option linter.unusedVariables false
set_option linter.unusedSimpArgs false
attribute [local go_sem high] eqA30
attribute [local go_sem] run_store_float
theorem bare_cases (m2 m3 : Nat) : (((m2 : Int) == 0) = false ∧ (m2 == 0) = false ∧ ¬ m2 = 0 ∧ ¬ (m2 : Int) = 0) ∨ (m2 = 0 ∧ ((m3 : Int) == 0) = false ∧ (m3 == 0) = false ∧ ¬ m3 = 0 ∧ ¬ (m3 : Int) = 0) ∨ (m2 = 0 ∧ m3 = 0) := by
  by_cases h2 : m2 = 0
  · by_cases h3 : m3 = 0
    · exact .inr (.inr ⟨h2, h3⟩)
    · exact .inr (.inl ⟨h2, beq_eq_false_iff_ne.2 (by omega), beq_eq_false_iff_ne.2 h3, h3, by omega⟩)
  · exact .inl ⟨beq_eq_false_iff_ne.2 (by omega), beq_eq_false_iff_ne.2 h2, h2, by omega⟩
theorem bare_no2 {a n : Int} {ws wt : List ByteArray} {m : Nat} (h : m = ws.length) (hm : ¬ m = 0) : bareB (⟨a, n, ws, wt⟩ : Rsn) = false := by
  unfold bareB
  cases ws with
  | nil => exact absurd h hm
  | cons x l => rfl
theorem bare_no3 {a n : Int} {ws wt : List ByteArray} {m : Nat} (h : m = wt.length) (hm : ¬ m = 0) : bareB (⟨a, n, ws, wt⟩ : Rsn) = false := by
  unfold bareB
  cases wt with
  | nil => exact absurd h hm
  | cons x l => exact Bool.and_false _
theorem bare_yes {a n : Int} {ws wt : List ByteArray} (h2 : 0 = ws.length) (h3 : 0 = wt.length) : bareB (⟨a, n, ws, wt⟩ : Rsn) = true := by
  unfold bareB
  rw [List.eq_nil_of_length_eq_zero h2.symm, List.eq_nil_of_length_eq_zero h3.symm]
  rfl
section
variable {p : Pol} {t : Tri} {n : Int} {ws wt : List ByteArray}
theorem holds_1 : holdsL p t ⟨1, n, ws, wt⟩ = (bareB ⟨1, n, ws, wt⟩ && (decide (n = 0) && !knownB p t)) := by unfold holdsL; dsimp only; rw [if_pos rfl]
theorem holds_2 : holdsL p t ⟨2, n, ws, wt⟩ = (bareB ⟨2, n, ws, wt⟩ && (knownB p t && (decide (1 ≤ n) && (decide (n ≤ p.f10.length) && (p.f10[(n - 1).toNat]?).elim false (fun x => eqT x t))))) := by unfold holdsL; dsimp only; rw [if_neg (by decide), if_pos rfl]
theorem holds_3 : holdsL p t ⟨3, n, ws, wt⟩ = (decide (1 ≤ n) && (decide (n ≤ p.f9.length) && (p.f9[(n - 1).toNat]?).elim false (ruleB p t ⟨3, n, ws, wt⟩))) := by unfold holdsL; dsimp only; rw [if_neg (by decide), if_neg (by decide), if_pos (by decide)]
theorem holds_4 : holdsL p t ⟨4, n, ws, wt⟩ = (decide (1 ≤ n) && (decide (n ≤ p.f9.length) && (p.f9[(n - 1).toNat]?).elim false (ruleB p t ⟨4, n, ws, wt⟩))) := by unfold holdsL; dsimp only; rw [if_neg (by decide), if_neg (by decide), if_pos (by decide)]
theorem holds_5 : holdsL p t ⟨5, n, ws, wt⟩ = (bareB ⟨5, n, ws, wt⟩ && (decide (n = 0) && (knownB p t && !(p.f9.any fun u => matchB p u t)))) := by unfold holdsL; dsimp only; rw [if_neg (by decide), if_neg (by decide), if_neg (by decide), if_pos rfl]
theorem holds_0 {v : Int} (h : ¬ v = 1 ∧ ¬ v = 2 ∧ ¬ v = 3 ∧ ¬ v = 4 ∧ ¬ v = 5) : holdsL p t ⟨v, n, ws, wt⟩ = false := by unfold holdsL; dsimp only; rw [if_neg h.1, if_neg h.2.1, if_neg (fun e => e.elim h.2.2.1 h.2.2.2.1), if_neg h.2.2.2.2]
theorem in_range {α : Type} {l : List α} {n : Int} (h1 : 1 ≤ n) (h2 : n ≤ l.length) : ∃ (i : Nat) (x : α), n - 1 = (i : Int) ∧ (n - 1).toNat = i ∧ l[i]? = some x ∧ i < l.length := by
  have hl : (n - 1).toNat < l.length := by omega
  exact ⟨(n - 1).toNat, l[(n - 1).toNat], by omega, rfl, List.getElem?_eq_getElem hl, hl⟩
end

set_option maxRecDepth 100000 in
set_option maxHeartbeats 16000000 in
theorem holds_v1 (p : Pol) (C : Array Value) (t : Tri) (n : Int) (ws wt : List ByteArray) (A2 A3 : Option Addr) (c2 c3 : Nat) (w : World) (hk : k28.K w p C.toList) (l2 : ws.length ≤ c2) (g2 : Kd.C Kd.string w A2 ws.length ws) (l3 : wt.length ≤ c3) (g3 : Kd.C Kd.string w A3 wt.length wt) (hz : Sz p):
    Calls Tryd.prog 22 #[.agg C, .agg #[.string t.f0, .string t.f1, .string t.f2], .agg #[.int .i8 1, .int .i64 n, .slice A2 ws.length c2, .slice A3 wt.length c3]] w fun e w' => e = .returned (.bool (holdsL p t ⟨1, n, ws, wt⟩)) ∧ Below w.heap.size w w' := by
  have HK := Lib.hid hk
  have HSP := Lib.hid (pol_size hk)
  have OKP := Lib.hid (okB_iff.1 hz.ok)
  have HZ := Lib.hid hz
  have G2 := Lib.hid g2
  have G3 := Lib.hid g3
  have L2 := Lib.hid l2
  have L3 := Lib.hid l3
  have hl9 := hz.l9
  have hl10 := hz.l10
  have hk' := hk
  obtain ⟨C', hC'⟩ : ∃ C' : Array Value, C' = C := ⟨_, rfl⟩
  rw [← hC'] at hk'
  obtain ⟨A0, c0, A1, c1, A12, c12, A13, c13, A4, c4, A5, c5, A6, c6, A7, c7, A8, c8, A9, c9, A10, c10, e_, l0', g0', l1', g1', l2', g2', l3', g3', l4', g4', l5', g5', l6', g6', l7', g7', l8', g8', l9', g9', l10', g10'⟩ := k28_open hk'
  obtain rfl : C' = #[.slice A0 p.f0.length c0, .slice A1 p.f1.length c1, .slice A12 p.f2.length c12, .slice A13 p.f3.length c13, .slice A4 p.f4.length c4, .slice A5 p.f5.length c5, .slice A6 p.f6.length c6, .slice A7 p.f7.length c7, .slice A8 p.f8.length c8, .slice A9 p.f9.length c9, .slice A10 p.f10.length c10] := Array.toList_inj.1 e_
  clear e_
  have HC9 := Lib.hid (show C[9]? = some (.slice A9 p.f9.length c9) by rw [← hC']; rfl)
  have HC10 := Lib.hid (show C[10]? = some (.slice A10 p.f10.length c10) by rw [← hC']; rfl)
  have H9 := Lib.hid g9'
  have H10 := Lib.hid g10'
  clear hC'
  obtain ⟨m2, hm2⟩ : ∃ m, m = ws.length := ⟨_, rfl⟩
  obtain ⟨m3, hm3⟩ : ∃ m, m = wt.length := ⟨_, rfl⟩
  rw [← hm2, ← hm3]
  have HM2 := Lib.hid hm2
  have HM3 := Lib.hid hm3
  have U1 : True := trivial
  have U2 : True := trivial
  have U3 : True := trivial
  have U4 : True := trivial
  clear hk hk' hz g2 g3 l2 l3 hm2 hm3 l0' g0' l1' g1' l2' g2' l3' g3' l4' g4' l5' g5' l6' g6' l7' g7' l8' g8' l9' g9' l10' g10'
  rcases bare_cases m2 m3 with ⟨x1, x2, x3, x4⟩ | ⟨rfl, x1, x2, x3, x4⟩ | ⟨rfl, rfl⟩
  · rw [holds_1, bare_no2 HM2.out x3, Bool.false_and]
    go_enter Tryd.func22, Tryd.ntmps22
    go_wp2_with (first
      | ((with_reducible refine gate_dst (N := 3) rfl ?_); refine box_event ?hg (N := 3) ?hd (cs := C) (t := 28) ?hr ?_; (case hd => rfl); (case hg => rfl); (case hr => first | (go_simp; done) | (go_simp; rfl)); intro b3 hg_ w1 hbx hBx; have BW1 := Lib.hid hBx; have K3 := Lib.hid hbx; clear hg_ hbx hBx)
      | ((with_reducible refine gate_dst (N := 4) rfl ?_); refine box_event ?hg (N := 4) ?hd (cs := #[.string t.f0, .string t.f1, .string t.f2]) (t := 30) ?hr ?_; (case hd => rfl); (case hg => rfl); (case hr => first | (go_simp; done) | (go_simp; rfl)); intro b4 hg_ w2 hbx hBx; have K32 := Lib.hid (blk_below K3.out hBx); have BW2 := Lib.hid (BW1.out.trans (hBx.mono BW1.out.size)); have K4 := Lib.hid hbx; clear hg_ hbx hBx)
      | ((with_reducible refine gate_dst (N := 5) rfl ?_); refine box_event ?hg (N := 5) ?hd (cs := #[.int .i8 1, .int .i64 n, .slice A2 m2 c2, .slice A3 m3 c3]) (t := 33) ?hr ?_; (case hd => rfl); (case hg => rfl); (case hr => first | (go_simp; done) | (go_simp; rfl)); intro b5 hg_ w3 hbx hBx; have KP := Lib.hid (blk_below K32.out hBx); have KT := Lib.hid (blk_below K4.out hBx); have BW3 := Lib.hid (BW2.out.trans (hBx.mono BW2.out.size)); have KR := Lib.hid hbx; have r2 := (blk_cell hbx 2).trans (Eq.refl (some (Value.slice A2 m2 c2))); have r3 := (blk_cell hbx 3).trans (Eq.refl (some (Value.slice A3 m3 c3))); clear hg_ hbx hBx)
      | ((with_reducible refine gate_ (.load 28 (.tmp 3)) rfl ?_); clear U1; go_must (refine wpList_load_row rfl 28 (.tmp 3) rfl b3 rfl _ _ _ _ KP.out Tryd.underlying28 rfl HSP.out ?_))
      | ((with_reducible refine gate_ (.load 30 (.tmp 4)) rfl ?_); clear U2; go_must (refine wpList_load_row rfl 30 (.tmp 4) rfl b4 rfl _ _ _ _ KT.out Tryd.underlying30 rfl (by kernel_rfl) ?_))
      | (go_at_call 50; go_must (refine (known_calls p C t _ (k28.K_below BW3.out HK.out)).mono ?_);  rintro e w4 ⟨rfl, hb⟩; have KP4 := Lib.hid (blk_below KP.out hb); have KT4 := Lib.hid (blk_below KT.out hb); have k5 := blk_below KR.out hb; have KR4 := Lib.hid k5; have BW4 := Lib.hid (BW3.out.trans (hb.mono BW3.out.size)); clear r2 r3; have s0 := (blk_cell k5 0).trans (Eq.refl (some (Value.int .i8 1))); have s1 := (blk_cell k5 1).trans (Eq.refl (some (Value.int .i64 n)));  clear k5 hb))
    go_ret
    exact ⟨rfl, BW4.out⟩
  · rw [holds_1, bare_no3 HM3.out x3, Bool.false_and]
    go_enter Tryd.func22, Tryd.ntmps22
    go_wp2_with (first
      | ((with_reducible refine gate_dst (N := 3) rfl ?_); refine box_event ?hg (N := 3) ?hd (cs := C) (t := 28) ?hr ?_; (case hd => rfl); (case hg => rfl); (case hr => first | (go_simp; done) | (go_simp; rfl)); intro b3 hg_ w1 hbx hBx; have BW1 := Lib.hid hBx; have K3 := Lib.hid hbx; clear hg_ hbx hBx)
      | ((with_reducible refine gate_dst (N := 4) rfl ?_); refine box_event ?hg (N := 4) ?hd (cs := #[.string t.f0, .string t.f1, .string t.f2]) (t := 30) ?hr ?_; (case hd => rfl); (case hg => rfl); (case hr => first | (go_simp; done) | (go_simp; rfl)); intro b4 hg_ w2 hbx hBx; have K32 := Lib.hid (blk_below K3.out hBx); have BW2 := Lib.hid (BW1.out.trans (hBx.mono BW1.out.size)); have K4 := Lib.hid hbx; clear hg_ hbx hBx)
      | ((with_reducible refine gate_dst (N := 5) rfl ?_); refine box_event ?hg (N := 5) ?hd (cs := #[.int .i8 1, .int .i64 n, .slice A2 0 c2, .slice A3 m3 c3]) (t := 33) ?hr ?_; (case hd => rfl); (case hg => rfl); (case hr => first | (go_simp; done) | (go_simp; rfl)); intro b5 hg_ w3 hbx hBx; have KP := Lib.hid (blk_below K32.out hBx); have KT := Lib.hid (blk_below K4.out hBx); have BW3 := Lib.hid (BW2.out.trans (hBx.mono BW2.out.size)); have KR := Lib.hid hbx; have r2 := (blk_cell hbx 2).trans (Eq.refl (some (Value.slice A2 0 c2))); have r3 := (blk_cell hbx 3).trans (Eq.refl (some (Value.slice A3 m3 c3))); clear hg_ hbx hBx)
      | ((with_reducible refine gate_ (.load 28 (.tmp 3)) rfl ?_); clear U1; go_must (refine wpList_load_row rfl 28 (.tmp 3) rfl b3 rfl _ _ _ _ KP.out Tryd.underlying28 rfl HSP.out ?_))
      | ((with_reducible refine gate_ (.load 30 (.tmp 4)) rfl ?_); clear U2; go_must (refine wpList_load_row rfl 30 (.tmp 4) rfl b4 rfl _ _ _ _ KT.out Tryd.underlying30 rfl (by kernel_rfl) ?_))
      | (go_at_call 50; go_must (refine (known_calls p C t _ (k28.K_below BW3.out HK.out)).mono ?_);  rintro e w4 ⟨rfl, hb⟩; have KP4 := Lib.hid (blk_below KP.out hb); have KT4 := Lib.hid (blk_below KT.out hb); have k5 := blk_below KR.out hb; have KR4 := Lib.hid k5; have BW4 := Lib.hid (BW3.out.trans (hb.mono BW3.out.size)); clear r2 r3; have s0 := (blk_cell k5 0).trans (Eq.refl (some (Value.int .i8 1))); have s1 := (blk_cell k5 1).trans (Eq.refl (some (Value.int .i64 n)));  clear k5 hb))
    go_ret
    exact ⟨rfl, BW4.out⟩
  · by_cases hn : n = 0
    · subst hn
      rw [holds_1, bare_yes HM2.out HM3.out, Bool.true_and, decide_eq_true rfl, Bool.true_and]
      go_enter Tryd.func22, Tryd.ntmps22
      go_wp2_with (first
        | ((with_reducible refine gate_dst (N := 3) rfl ?_); refine box_event ?hg (N := 3) ?hd (cs := C) (t := 28) ?hr ?_; (case hd => rfl); (case hg => rfl); (case hr => first | (go_simp; done) | (go_simp; rfl)); intro b3 hg_ w1 hbx hBx; have BW1 := Lib.hid hBx; have K3 := Lib.hid hbx; clear hg_ hbx hBx)
        | ((with_reducible refine gate_dst (N := 4) rfl ?_); refine box_event ?hg (N := 4) ?hd (cs := #[.string t.f0, .string t.f1, .string t.f2]) (t := 30) ?hr ?_; (case hd => rfl); (case hg => rfl); (case hr => first | (go_simp; done) | (go_simp; rfl)); intro b4 hg_ w2 hbx hBx; have K32 := Lib.hid (blk_below K3.out hBx); have BW2 := Lib.hid (BW1.out.trans (hBx.mono BW1.out.size)); have K4 := Lib.hid hbx; clear hg_ hbx hBx)
        | ((with_reducible refine gate_dst (N := 5) rfl ?_); refine box_event ?hg (N := 5) ?hd (cs := #[.int .i8 1, .int .i64 0, .slice A2 0 c2, .slice A3 0 c3]) (t := 33) ?hr ?_; (case hd => rfl); (case hg => rfl); (case hr => first | (go_simp; done) | (go_simp; rfl)); intro b5 hg_ w3 hbx hBx; have KP := Lib.hid (blk_below K32.out hBx); have KT := Lib.hid (blk_below K4.out hBx); have BW3 := Lib.hid (BW2.out.trans (hBx.mono BW2.out.size)); have KR := Lib.hid hbx; have r2 := (blk_cell hbx 2).trans (Eq.refl (some (Value.slice A2 0 c2))); have r3 := (blk_cell hbx 3).trans (Eq.refl (some (Value.slice A3 0 c3))); clear hg_ hbx hBx)
        | ((with_reducible refine gate_ (.load 28 (.tmp 3)) rfl ?_); clear U1; go_must (refine wpList_load_row rfl 28 (.tmp 3) rfl b3 rfl _ _ _ _ KP.out Tryd.underlying28 rfl HSP.out ?_))
        | ((with_reducible refine gate_ (.load 30 (.tmp 4)) rfl ?_); clear U2; go_must (refine wpList_load_row rfl 30 (.tmp 4) rfl b4 rfl _ _ _ _ KT.out Tryd.underlying30 rfl (by kernel_rfl) ?_))
        | (go_at_call 50; go_must (refine (known_calls p C t _ (k28.K_below BW3.out HK.out)).mono ?_);  rintro e w4 ⟨rfl, hb⟩; have KP4 := Lib.hid (blk_below KP.out hb); have KT4 := Lib.hid (blk_below KT.out hb); have k5 := blk_below KR.out hb; have KR4 := Lib.hid k5; have BW4 := Lib.hid (BW3.out.trans (hb.mono BW3.out.size)); clear r2 r3; have s0 := (blk_cell k5 0).trans (Eq.refl (some (Value.int .i8 1))); have s1 := (blk_cell k5 1).trans (Eq.refl (some (Value.int .i64 0)));  clear k5 hb))
      go_ret
      exact ⟨rfl, BW4.out⟩
    · have y1 : (n == 0) = false := beq_eq_false_iff_ne.2 hn
      rw [holds_1, decide_eq_false hn, Bool.false_and, Bool.and_false]
      go_enter Tryd.func22, Tryd.ntmps22
      go_wp2_with (first
        | ((with_reducible refine gate_dst (N := 3) rfl ?_); refine box_event ?hg (N := 3) ?hd (cs := C) (t := 28) ?hr ?_; (case hd => rfl); (case hg => rfl); (case hr => first | (go_simp; done) | (go_simp; rfl)); intro b3 hg_ w1 hbx hBx; have BW1 := Lib.hid hBx; have K3 := Lib.hid hbx; clear hg_ hbx hBx)
        | ((with_reducible refine gate_dst (N := 4) rfl ?_); refine box_event ?hg (N := 4) ?hd (cs := #[.string t.f0, .string t.f1, .string t.f2]) (t := 30) ?hr ?_; (case hd => rfl); (case hg => rfl); (case hr => first | (go_simp; done) | (go_simp; rfl)); intro b4 hg_ w2 hbx hBx; have K32 := Lib.hid (blk_below K3.out hBx); have BW2 := Lib.hid (BW1.out.trans (hBx.mono BW1.out.size)); have K4 := Lib.hid hbx; clear hg_ hbx hBx)
        | ((with_reducible refine gate_dst (N := 5) rfl ?_); refine box_event ?hg (N := 5) ?hd (cs := #[.int .i8 1, .int .i64 n, .slice A2 0 c2, .slice A3 0 c3]) (t := 33) ?hr ?_; (case hd => rfl); (case hg => rfl); (case hr => first | (go_simp; done) | (go_simp; rfl)); intro b5 hg_ w3 hbx hBx; have KP := Lib.hid (blk_below K32.out hBx); have KT := Lib.hid (blk_below K4.out hBx); have BW3 := Lib.hid (BW2.out.trans (hBx.mono BW2.out.size)); have KR := Lib.hid hbx; have r2 := (blk_cell hbx 2).trans (Eq.refl (some (Value.slice A2 0 c2))); have r3 := (blk_cell hbx 3).trans (Eq.refl (some (Value.slice A3 0 c3))); clear hg_ hbx hBx)
        | ((with_reducible refine gate_ (.load 28 (.tmp 3)) rfl ?_); clear U1; go_must (refine wpList_load_row rfl 28 (.tmp 3) rfl b3 rfl _ _ _ _ KP.out Tryd.underlying28 rfl HSP.out ?_))
        | ((with_reducible refine gate_ (.load 30 (.tmp 4)) rfl ?_); clear U2; go_must (refine wpList_load_row rfl 30 (.tmp 4) rfl b4 rfl _ _ _ _ KT.out Tryd.underlying30 rfl (by kernel_rfl) ?_))
        | (go_at_call 50; go_must (refine (known_calls p C t _ (k28.K_below BW3.out HK.out)).mono ?_);  rintro e w4 ⟨rfl, hb⟩; have KP4 := Lib.hid (blk_below KP.out hb); have KT4 := Lib.hid (blk_below KT.out hb); have k5 := blk_below KR.out hb; have KR4 := Lib.hid k5; have BW4 := Lib.hid (BW3.out.trans (hb.mono BW3.out.size)); clear r2 r3; have s0 := (blk_cell k5 0).trans (Eq.refl (some (Value.int .i8 1))); have s1 := (blk_cell k5 1).trans (Eq.refl (some (Value.int .i64 n)));  clear k5 hb))
      go_ret
      exact ⟨rfl, BW4.out⟩

set_option maxRecDepth 100000 in
set_option maxHeartbeats 16000000 in
theorem holds_v0 (p : Pol) (C : Array Value) (t : Tri) (n : Int) (ws wt : List ByteArray) (A2 A3 : Option Addr) (c2 c3 : Nat) (w : World) (hk : k28.K w p C.toList) (l2 : ws.length ≤ c2) (g2 : Kd.C Kd.string w A2 ws.length ws) (l3 : wt.length ≤ c3) (g3 : Kd.C Kd.string w A3 wt.length wt) (hz : Sz p) (v : Int) (hv : ¬ v = 1 ∧ ¬ v = 2 ∧ ¬ v = 3 ∧ ¬ v = 4 ∧ ¬ v = 5) :
    Calls Tryd.prog 22 #[.agg C, .agg #[.string t.f0, .string t.f1, .string t.f2], .agg #[.int .i8 v, .int .i64 n, .slice A2 ws.length c2, .slice A3 wt.length c3]] w fun e w' => e = .returned (.bool (holdsL p t ⟨v, n, ws, wt⟩)) ∧ Below w.heap.size w w' := by
  have HK := Lib.hid hk
  have HSP := Lib.hid (pol_size hk)
  have OKP := Lib.hid (okB_iff.1 hz.ok)
  have HZ := Lib.hid hz
  have G2 := Lib.hid g2
  have G3 := Lib.hid g3
  have L2 := Lib.hid l2
  have L3 := Lib.hid l3
  have hl9 := hz.l9
  have hl10 := hz.l10
  have hk' := hk
  obtain ⟨C', hC'⟩ : ∃ C' : Array Value, C' = C := ⟨_, rfl⟩
  rw [← hC'] at hk'
  obtain ⟨A0, c0, A1, c1, A12, c12, A13, c13, A4, c4, A5, c5, A6, c6, A7, c7, A8, c8, A9, c9, A10, c10, e_, l0', g0', l1', g1', l2', g2', l3', g3', l4', g4', l5', g5', l6', g6', l7', g7', l8', g8', l9', g9', l10', g10'⟩ := k28_open hk'
  obtain rfl : C' = #[.slice A0 p.f0.length c0, .slice A1 p.f1.length c1, .slice A12 p.f2.length c12, .slice A13 p.f3.length c13, .slice A4 p.f4.length c4, .slice A5 p.f5.length c5, .slice A6 p.f6.length c6, .slice A7 p.f7.length c7, .slice A8 p.f8.length c8, .slice A9 p.f9.length c9, .slice A10 p.f10.length c10] := Array.toList_inj.1 e_
  clear e_
  have HC9 := Lib.hid (show C[9]? = some (.slice A9 p.f9.length c9) by rw [← hC']; rfl)
  have HC10 := Lib.hid (show C[10]? = some (.slice A10 p.f10.length c10) by rw [← hC']; rfl)
  have H9 := Lib.hid g9'
  have H10 := Lib.hid g10'
  clear hC'
  obtain ⟨m2, hm2⟩ : ∃ m, m = ws.length := ⟨_, rfl⟩
  obtain ⟨m3, hm3⟩ : ∃ m, m = wt.length := ⟨_, rfl⟩
  rw [← hm2, ← hm3]
  have HM2 := Lib.hid hm2
  have HM3 := Lib.hid hm3
  have U1 : True := trivial
  have U2 : True := trivial
  have U3 : True := trivial
  have U4 : True := trivial
  clear hk hk' hz g2 g3 l2 l3 hm2 hm3 l0' g0' l1' g1' l2' g2' l3' g3' l4' g4' l5' g5' l6' g6' l7' g7' l8' g8' l9' g9' l10' g10'
  rw [holds_0 hv]
  obtain ⟨v1, v2, v3, v4, v5⟩ := hv
  have z1 : (v == 1) = false := beq_eq_false_iff_ne.2 v1
  have z2 : (v == 2) = false := beq_eq_false_iff_ne.2 v2
  have z3 : (v == 3) = false := beq_eq_false_iff_ne.2 v3
  have z4 : (v == 4) = false := beq_eq_false_iff_ne.2 v4
  have z5 : (v == 5) = false := beq_eq_false_iff_ne.2 v5
  rcases bare_cases m2 m3 with ⟨x1, x2, x3, x4⟩ | ⟨rfl, x1, x2, x3, x4⟩ | ⟨rfl, rfl⟩
  · have x0 := x4
    go_enter Tryd.func22, Tryd.ntmps22
    go_wp2_with (first
      | ((with_reducible refine gate_dst (N := 3) rfl ?_); refine box_event ?hg (N := 3) ?hd (cs := C) (t := 28) ?hr ?_; (case hd => rfl); (case hg => rfl); (case hr => first | (go_simp; done) | (go_simp; rfl)); intro b3 hg_ w1 hbx hBx; have BW1 := Lib.hid hBx; have K3 := Lib.hid hbx; clear hg_ hbx hBx)
      | ((with_reducible refine gate_dst (N := 4) rfl ?_); refine box_event ?hg (N := 4) ?hd (cs := #[.string t.f0, .string t.f1, .string t.f2]) (t := 30) ?hr ?_; (case hd => rfl); (case hg => rfl); (case hr => first | (go_simp; done) | (go_simp; rfl)); intro b4 hg_ w2 hbx hBx; have K32 := Lib.hid (blk_below K3.out hBx); have BW2 := Lib.hid (BW1.out.trans (hBx.mono BW1.out.size)); have K4 := Lib.hid hbx; clear hg_ hbx hBx)
      | ((with_reducible refine gate_dst (N := 5) rfl ?_); refine box_event ?hg (N := 5) ?hd (cs := #[.int .i8 v, .int .i64 n, .slice A2 m2 c2, .slice A3 m3 c3]) (t := 33) ?hr ?_; (case hd => rfl); (case hg => rfl); (case hr => first | (go_simp; done) | (go_simp; rfl)); intro b5 hg_ w3 hbx hBx; have KP := Lib.hid (blk_below K32.out hBx); have KT := Lib.hid (blk_below K4.out hBx); have BW3 := Lib.hid (BW2.out.trans (hBx.mono BW2.out.size)); have KR := Lib.hid hbx; have r2 := (blk_cell hbx 2).trans (Eq.refl (some (Value.slice A2 m2 c2))); have r3 := (blk_cell hbx 3).trans (Eq.refl (some (Value.slice A3 m3 c3))); clear hg_ hbx hBx)
      | ((with_reducible refine gate_ (.load 28 (.tmp 3)) rfl ?_); clear U1; go_must (refine wpList_load_row rfl 28 (.tmp 3) rfl b3 rfl _ _ _ _ KP.out Tryd.underlying28 rfl HSP.out ?_))
      | ((with_reducible refine gate_ (.load 30 (.tmp 4)) rfl ?_); clear U2; go_must (refine wpList_load_row rfl 30 (.tmp 4) rfl b4 rfl _ _ _ _ KT.out Tryd.underlying30 rfl (by kernel_rfl) ?_))
      | (go_at_call 50; go_must (refine (known_calls p C t _ (k28.K_below BW3.out HK.out)).mono ?_);  rintro e w4 ⟨rfl, hb⟩; have KP4 := Lib.hid (blk_below KP.out hb); have KT4 := Lib.hid (blk_below KT.out hb); have k5 := blk_below KR.out hb; have KR4 := Lib.hid k5; have BW4 := Lib.hid (BW3.out.trans (hb.mono BW3.out.size)); clear r2 r3; have s0 := (blk_cell k5 0).trans (Eq.refl (some (Value.int .i8 v))); have s1 := (blk_cell k5 1).trans (Eq.refl (some (Value.int .i64 n)));  clear k5 hb))
    go_ret
    exact ⟨rfl, BW4.out⟩
  · have x0 := x4
    go_enter Tryd.func22, Tryd.ntmps22
    go_wp2_with (first
      | ((with_reducible refine gate_dst (N := 3) rfl ?_); refine box_event ?hg (N := 3) ?hd (cs := C) (t := 28) ?hr ?_; (case hd => rfl); (case hg => rfl); (case hr => first | (go_simp; done) | (go_simp; rfl)); intro b3 hg_ w1 hbx hBx; have BW1 := Lib.hid hBx; have K3 := Lib.hid hbx; clear hg_ hbx hBx)
      | ((with_reducible refine gate_dst (N := 4) rfl ?_); refine box_event ?hg (N := 4) ?hd (cs := #[.string t.f0, .string t.f1, .string t.f2]) (t := 30) ?hr ?_; (case hd => rfl); (case hg => rfl); (case hr => first | (go_simp; done) | (go_simp; rfl)); intro b4 hg_ w2 hbx hBx; have K32 := Lib.hid (blk_below K3.out hBx); have BW2 := Lib.hid (BW1.out.trans (hBx.mono BW1.out.size)); have K4 := Lib.hid hbx; clear hg_ hbx hBx)
      | ((with_reducible refine gate_dst (N := 5) rfl ?_); refine box_event ?hg (N := 5) ?hd (cs := #[.int .i8 v, .int .i64 n, .slice A2 0 c2, .slice A3 m3 c3]) (t := 33) ?hr ?_; (case hd => rfl); (case hg => rfl); (case hr => first | (go_simp; done) | (go_simp; rfl)); intro b5 hg_ w3 hbx hBx; have KP := Lib.hid (blk_below K32.out hBx); have KT := Lib.hid (blk_below K4.out hBx); have BW3 := Lib.hid (BW2.out.trans (hBx.mono BW2.out.size)); have KR := Lib.hid hbx; have r2 := (blk_cell hbx 2).trans (Eq.refl (some (Value.slice A2 0 c2))); have r3 := (blk_cell hbx 3).trans (Eq.refl (some (Value.slice A3 m3 c3))); clear hg_ hbx hBx)
      | ((with_reducible refine gate_ (.load 28 (.tmp 3)) rfl ?_); clear U1; go_must (refine wpList_load_row rfl 28 (.tmp 3) rfl b3 rfl _ _ _ _ KP.out Tryd.underlying28 rfl HSP.out ?_))
      | ((with_reducible refine gate_ (.load 30 (.tmp 4)) rfl ?_); clear U2; go_must (refine wpList_load_row rfl 30 (.tmp 4) rfl b4 rfl _ _ _ _ KT.out Tryd.underlying30 rfl (by kernel_rfl) ?_))
      | (go_at_call 50; go_must (refine (known_calls p C t _ (k28.K_below BW3.out HK.out)).mono ?_);  rintro e w4 ⟨rfl, hb⟩; have KP4 := Lib.hid (blk_below KP.out hb); have KT4 := Lib.hid (blk_below KT.out hb); have k5 := blk_below KR.out hb; have KR4 := Lib.hid k5; have BW4 := Lib.hid (BW3.out.trans (hb.mono BW3.out.size)); clear r2 r3; have s0 := (blk_cell k5 0).trans (Eq.refl (some (Value.int .i8 v))); have s1 := (blk_cell k5 1).trans (Eq.refl (some (Value.int .i64 n)));  clear k5 hb))
    go_ret
    exact ⟨rfl, BW4.out⟩
  · have x0 := v1
    go_enter Tryd.func22, Tryd.ntmps22
    go_wp2_with (first
      | ((with_reducible refine gate_dst (N := 3) rfl ?_); refine box_event ?hg (N := 3) ?hd (cs := C) (t := 28) ?hr ?_; (case hd => rfl); (case hg => rfl); (case hr => first | (go_simp; done) | (go_simp; rfl)); intro b3 hg_ w1 hbx hBx; have BW1 := Lib.hid hBx; have K3 := Lib.hid hbx; clear hg_ hbx hBx)
      | ((with_reducible refine gate_dst (N := 4) rfl ?_); refine box_event ?hg (N := 4) ?hd (cs := #[.string t.f0, .string t.f1, .string t.f2]) (t := 30) ?hr ?_; (case hd => rfl); (case hg => rfl); (case hr => first | (go_simp; done) | (go_simp; rfl)); intro b4 hg_ w2 hbx hBx; have K32 := Lib.hid (blk_below K3.out hBx); have BW2 := Lib.hid (BW1.out.trans (hBx.mono BW1.out.size)); have K4 := Lib.hid hbx; clear hg_ hbx hBx)
      | ((with_reducible refine gate_dst (N := 5) rfl ?_); refine box_event ?hg (N := 5) ?hd (cs := #[.int .i8 v, .int .i64 n, .slice A2 0 c2, .slice A3 0 c3]) (t := 33) ?hr ?_; (case hd => rfl); (case hg => rfl); (case hr => first | (go_simp; done) | (go_simp; rfl)); intro b5 hg_ w3 hbx hBx; have KP := Lib.hid (blk_below K32.out hBx); have KT := Lib.hid (blk_below K4.out hBx); have BW3 := Lib.hid (BW2.out.trans (hBx.mono BW2.out.size)); have KR := Lib.hid hbx; have r2 := (blk_cell hbx 2).trans (Eq.refl (some (Value.slice A2 0 c2))); have r3 := (blk_cell hbx 3).trans (Eq.refl (some (Value.slice A3 0 c3))); clear hg_ hbx hBx)
      | ((with_reducible refine gate_ (.load 28 (.tmp 3)) rfl ?_); clear U1; go_must (refine wpList_load_row rfl 28 (.tmp 3) rfl b3 rfl _ _ _ _ KP.out Tryd.underlying28 rfl HSP.out ?_))
      | ((with_reducible refine gate_ (.load 30 (.tmp 4)) rfl ?_); clear U2; go_must (refine wpList_load_row rfl 30 (.tmp 4) rfl b4 rfl _ _ _ _ KT.out Tryd.underlying30 rfl (by kernel_rfl) ?_))
      | (go_at_call 50; go_must (refine (known_calls p C t _ (k28.K_below BW3.out HK.out)).mono ?_);  rintro e w4 ⟨rfl, hb⟩; have KP4 := Lib.hid (blk_below KP.out hb); have KT4 := Lib.hid (blk_below KT.out hb); have k5 := blk_below KR.out hb; have KR4 := Lib.hid k5; have BW4 := Lib.hid (BW3.out.trans (hb.mono BW3.out.size)); clear r2 r3; have s0 := (blk_cell k5 0).trans (Eq.refl (some (Value.int .i8 v))); have s1 := (blk_cell k5 1).trans (Eq.refl (some (Value.int .i64 n)));  clear k5 hb))
    go_ret
    exact ⟨rfl, BW4.out⟩

set_option maxRecDepth 100000 in
set_option maxHeartbeats 16000000 in
theorem holds_v5 (p : Pol) (C : Array Value) (t : Tri) (n : Int) (ws wt : List ByteArray) (A2 A3 : Option Addr) (c2 c3 : Nat) (w : World) (hk : k28.K w p C.toList) (l2 : ws.length ≤ c2) (g2 : Kd.C Kd.string w A2 ws.length ws) (l3 : wt.length ≤ c3) (g3 : Kd.C Kd.string w A3 wt.length wt) (hz : Sz p):
    Calls Tryd.prog 22 #[.agg C, .agg #[.string t.f0, .string t.f1, .string t.f2], .agg #[.int .i8 5, .int .i64 n, .slice A2 ws.length c2, .slice A3 wt.length c3]] w fun e w' => e = .returned (.bool (holdsL p t ⟨5, n, ws, wt⟩)) ∧ Below w.heap.size w w' := by
  have HK := Lib.hid hk
  have HSP := Lib.hid (pol_size hk)
  have OKP := Lib.hid (okB_iff.1 hz.ok)
  have HZ := Lib.hid hz
  have G2 := Lib.hid g2
  have G3 := Lib.hid g3
  have L2 := Lib.hid l2
  have L3 := Lib.hid l3
  have hl9 := hz.l9
  have hl10 := hz.l10
  have hk' := hk
  obtain ⟨C', hC'⟩ : ∃ C' : Array Value, C' = C := ⟨_, rfl⟩
  rw [← hC'] at hk'
  obtain ⟨A0, c0, A1, c1, A12, c12, A13, c13, A4, c4, A5, c5, A6, c6, A7, c7, A8, c8, A9, c9, A10, c10, e_, l0', g0', l1', g1', l2', g2', l3', g3', l4', g4', l5', g5', l6', g6', l7', g7', l8', g8', l9', g9', l10', g10'⟩ := k28_open hk'
  obtain rfl : C' = #[.slice A0 p.f0.length c0, .slice A1 p.f1.length c1, .slice A12 p.f2.length c12, .slice A13 p.f3.length c13, .slice A4 p.f4.length c4, .slice A5 p.f5.length c5, .slice A6 p.f6.length c6, .slice A7 p.f7.length c7, .slice A8 p.f8.length c8, .slice A9 p.f9.length c9, .slice A10 p.f10.length c10] := Array.toList_inj.1 e_
  clear e_
  have HC9 := Lib.hid (show C[9]? = some (.slice A9 p.f9.length c9) by rw [← hC']; rfl)
  have HC10 := Lib.hid (show C[10]? = some (.slice A10 p.f10.length c10) by rw [← hC']; rfl)
  have H9 := Lib.hid g9'
  have H10 := Lib.hid g10'
  clear hC'
  obtain ⟨m2, hm2⟩ : ∃ m, m = ws.length := ⟨_, rfl⟩
  obtain ⟨m3, hm3⟩ : ∃ m, m = wt.length := ⟨_, rfl⟩
  rw [← hm2, ← hm3]
  have HM2 := Lib.hid hm2
  have HM3 := Lib.hid hm3
  have U1 : True := trivial
  have U2 : True := trivial
  have U3 : True := trivial
  have U4 : True := trivial
  clear hk hk' hz g2 g3 l2 l3 hm2 hm3 l0' g0' l1' g1' l2' g2' l3' g3' l4' g4' l5' g5' l6' g6' l7' g7' l8' g8' l9' g9' l10' g10'
  rcases bare_cases m2 m3 with ⟨x1, x2, x3, x4⟩ | ⟨rfl, x1, x2, x3, x4⟩ | ⟨rfl, rfl⟩
  · rw [holds_5, bare_no2 HM2.out x3, Bool.false_and]
    go_enter Tryd.func22, Tryd.ntmps22
    go_wp2_with (first
      | ((with_reducible refine gate_dst (N := 3) rfl ?_); refine box_event ?hg (N := 3) ?hd (cs := C) (t := 28) ?hr ?_; (case hd => rfl); (case hg => rfl); (case hr => first | (go_simp; done) | (go_simp; rfl)); intro b3 hg_ w1 hbx hBx; have BW1 := Lib.hid hBx; have K3 := Lib.hid hbx; clear hg_ hbx hBx)
      | ((with_reducible refine gate_dst (N := 4) rfl ?_); refine box_event ?hg (N := 4) ?hd (cs := #[.string t.f0, .string t.f1, .string t.f2]) (t := 30) ?hr ?_; (case hd => rfl); (case hg => rfl); (case hr => first | (go_simp; done) | (go_simp; rfl)); intro b4 hg_ w2 hbx hBx; have K32 := Lib.hid (blk_below K3.out hBx); have BW2 := Lib.hid (BW1.out.trans (hBx.mono BW1.out.size)); have K4 := Lib.hid hbx; clear hg_ hbx hBx)
      | ((with_reducible refine gate_dst (N := 5) rfl ?_); refine box_event ?hg (N := 5) ?hd (cs := #[.int .i8 5, .int .i64 n, .slice A2 m2 c2, .slice A3 m3 c3]) (t := 33) ?hr ?_; (case hd => rfl); (case hg => rfl); (case hr => first | (go_simp; done) | (go_simp; rfl)); intro b5 hg_ w3 hbx hBx; have KP := Lib.hid (blk_below K32.out hBx); have KT := Lib.hid (blk_below K4.out hBx); have BW3 := Lib.hid (BW2.out.trans (hBx.mono BW2.out.size)); have KR := Lib.hid hbx; have r2 := (blk_cell hbx 2).trans (Eq.refl (some (Value.slice A2 m2 c2))); have r3 := (blk_cell hbx 3).trans (Eq.refl (some (Value.slice A3 m3 c3))); clear hg_ hbx hBx)
      | ((with_reducible refine gate_ (.load 28 (.tmp 3)) rfl ?_); clear U1; go_must (refine wpList_load_row rfl 28 (.tmp 3) rfl b3 rfl _ _ _ _ KP.out Tryd.underlying28 rfl HSP.out ?_))
      | ((with_reducible refine gate_ (.load 30 (.tmp 4)) rfl ?_); clear U2; go_must (refine wpList_load_row rfl 30 (.tmp 4) rfl b4 rfl _ _ _ _ KT.out Tryd.underlying30 rfl (by kernel_rfl) ?_))
      | (go_at_call 50; go_must (refine (known_calls p C t _ (k28.K_below BW3.out HK.out)).mono ?_);  rintro e w4 ⟨rfl, hb⟩; have KP4 := Lib.hid (blk_below KP.out hb); have KT4 := Lib.hid (blk_below KT.out hb); have k5 := blk_below KR.out hb; have KR4 := Lib.hid k5; have BW4 := Lib.hid (BW3.out.trans (hb.mono BW3.out.size)); clear r2 r3; have s0 := (blk_cell k5 0).trans (Eq.refl (some (Value.int .i8 5))); have s1 := (blk_cell k5 1).trans (Eq.refl (some (Value.int .i64 n)));  clear k5 hb))
    go_ret
    exact ⟨rfl, BW4.out⟩
  · rw [holds_5, bare_no3 HM3.out x3, Bool.false_and]
    go_enter Tryd.func22, Tryd.ntmps22
    go_wp2_with (first
      | ((with_reducible refine gate_dst (N := 3) rfl ?_); refine box_event ?hg (N := 3) ?hd (cs := C) (t := 28) ?hr ?_; (case hd => rfl); (case hg => rfl); (case hr => first | (go_simp; done) | (go_simp; rfl)); intro b3 hg_ w1 hbx hBx; have BW1 := Lib.hid hBx; have K3 := Lib.hid hbx; clear hg_ hbx hBx)
      | ((with_reducible refine gate_dst (N := 4) rfl ?_); refine box_event ?hg (N := 4) ?hd (cs := #[.string t.f0, .string t.f1, .string t.f2]) (t := 30) ?hr ?_; (case hd => rfl); (case hg => rfl); (case hr => first | (go_simp; done) | (go_simp; rfl)); intro b4 hg_ w2 hbx hBx; have K32 := Lib.hid (blk_below K3.out hBx); have BW2 := Lib.hid (BW1.out.trans (hBx.mono BW1.out.size)); have K4 := Lib.hid hbx; clear hg_ hbx hBx)
      | ((with_reducible refine gate_dst (N := 5) rfl ?_); refine box_event ?hg (N := 5) ?hd (cs := #[.int .i8 5, .int .i64 n, .slice A2 0 c2, .slice A3 m3 c3]) (t := 33) ?hr ?_; (case hd => rfl); (case hg => rfl); (case hr => first | (go_simp; done) | (go_simp; rfl)); intro b5 hg_ w3 hbx hBx; have KP := Lib.hid (blk_below K32.out hBx); have KT := Lib.hid (blk_below K4.out hBx); have BW3 := Lib.hid (BW2.out.trans (hBx.mono BW2.out.size)); have KR := Lib.hid hbx; have r2 := (blk_cell hbx 2).trans (Eq.refl (some (Value.slice A2 0 c2))); have r3 := (blk_cell hbx 3).trans (Eq.refl (some (Value.slice A3 m3 c3))); clear hg_ hbx hBx)
      | ((with_reducible refine gate_ (.load 28 (.tmp 3)) rfl ?_); clear U1; go_must (refine wpList_load_row rfl 28 (.tmp 3) rfl b3 rfl _ _ _ _ KP.out Tryd.underlying28 rfl HSP.out ?_))
      | ((with_reducible refine gate_ (.load 30 (.tmp 4)) rfl ?_); clear U2; go_must (refine wpList_load_row rfl 30 (.tmp 4) rfl b4 rfl _ _ _ _ KT.out Tryd.underlying30 rfl (by kernel_rfl) ?_))
      | (go_at_call 50; go_must (refine (known_calls p C t _ (k28.K_below BW3.out HK.out)).mono ?_);  rintro e w4 ⟨rfl, hb⟩; have KP4 := Lib.hid (blk_below KP.out hb); have KT4 := Lib.hid (blk_below KT.out hb); have k5 := blk_below KR.out hb; have KR4 := Lib.hid k5; have BW4 := Lib.hid (BW3.out.trans (hb.mono BW3.out.size)); clear r2 r3; have s0 := (blk_cell k5 0).trans (Eq.refl (some (Value.int .i8 5))); have s1 := (blk_cell k5 1).trans (Eq.refl (some (Value.int .i64 n)));  clear k5 hb))
    go_ret
    exact ⟨rfl, BW4.out⟩
  · by_cases hn : n = 0
    · subst hn
      cases hq : knownB p t with
      | false =>
        have HQ := Lib.hid hq
        rw [holds_5, hq, Bool.false_and, Bool.and_false, Bool.and_false]
        clear hq
        go_enter Tryd.func22, Tryd.ntmps22
        go_wp2_with (first
          | ((with_reducible refine gate_dst (N := 3) rfl ?_); refine box_event ?hg (N := 3) ?hd (cs := C) (t := 28) ?hr ?_; (case hd => rfl); (case hg => rfl); (case hr => first | (go_simp; done) | (go_simp; rfl)); intro b3 hg_ w1 hbx hBx; have BW1 := Lib.hid hBx; have K3 := Lib.hid hbx; clear hg_ hbx hBx)
          | ((with_reducible refine gate_dst (N := 4) rfl ?_); refine box_event ?hg (N := 4) ?hd (cs := #[.string t.f0, .string t.f1, .string t.f2]) (t := 30) ?hr ?_; (case hd => rfl); (case hg => rfl); (case hr => first | (go_simp; done) | (go_simp; rfl)); intro b4 hg_ w2 hbx hBx; have K32 := Lib.hid (blk_below K3.out hBx); have BW2 := Lib.hid (BW1.out.trans (hBx.mono BW1.out.size)); have K4 := Lib.hid hbx; clear hg_ hbx hBx)
          | ((with_reducible refine gate_dst (N := 5) rfl ?_); refine box_event ?hg (N := 5) ?hd (cs := #[.int .i8 5, .int .i64 0, .slice A2 0 c2, .slice A3 0 c3]) (t := 33) ?hr ?_; (case hd => rfl); (case hg => rfl); (case hr => first | (go_simp; done) | (go_simp; rfl)); intro b5 hg_ w3 hbx hBx; have KP := Lib.hid (blk_below K32.out hBx); have KT := Lib.hid (blk_below K4.out hBx); have BW3 := Lib.hid (BW2.out.trans (hBx.mono BW2.out.size)); have KR := Lib.hid hbx; have r2 := (blk_cell hbx 2).trans (Eq.refl (some (Value.slice A2 0 c2))); have r3 := (blk_cell hbx 3).trans (Eq.refl (some (Value.slice A3 0 c3))); clear hg_ hbx hBx)
          | ((with_reducible refine gate_ (.load 28 (.tmp 3)) rfl ?_); clear U1; go_must (refine wpList_load_row rfl 28 (.tmp 3) rfl b3 rfl _ _ _ _ KP.out Tryd.underlying28 rfl HSP.out ?_))
          | ((with_reducible refine gate_ (.load 30 (.tmp 4)) rfl ?_); clear U2; go_must (refine wpList_load_row rfl 30 (.tmp 4) rfl b4 rfl _ _ _ _ KT.out Tryd.underlying30 rfl (by kernel_rfl) ?_))
          | (go_at_call 50; go_must (refine (known_calls p C t _ (k28.K_below BW3.out HK.out)).mono ?_); rw [HQ.out]; rintro e w4 ⟨rfl, hb⟩; have KP4 := Lib.hid (blk_below KP.out hb); have KT4 := Lib.hid (blk_below KT.out hb); have k5 := blk_below KR.out hb; have KR4 := Lib.hid k5; have BW4 := Lib.hid (BW3.out.trans (hb.mono BW3.out.size)); clear r2 r3; have s0 := (blk_cell k5 0).trans (Eq.refl (some (Value.int .i8 5))); have s1 := (blk_cell k5 1).trans (Eq.refl (some (Value.int .i64 0)));  clear k5 hb))
        go_ret
        exact ⟨rfl, BW4.out⟩
      | true =>
        have HQ := Lib.hid hq
        rw [holds_5, hq, bare_yes HM2.out HM3.out, Bool.true_and, decide_eq_true rfl, Bool.true_and, Bool.true_and]
        clear hq
        go_enter Tryd.func22, Tryd.ntmps22
        go_wp2_with (first
          | ((with_reducible refine gate_dst (N := 3) rfl ?_); refine box_event ?hg (N := 3) ?hd (cs := C) (t := 28) ?hr ?_; (case hd => rfl); (case hg => rfl); (case hr => first | (go_simp; done) | (go_simp; rfl)); intro b3 hg_ w1 hbx hBx; have BW1 := Lib.hid hBx; have K3 := Lib.hid hbx; clear hg_ hbx hBx)
          | ((with_reducible refine gate_dst (N := 4) rfl ?_); refine box_event ?hg (N := 4) ?hd (cs := #[.string t.f0, .string t.f1, .string t.f2]) (t := 30) ?hr ?_; (case hd => rfl); (case hg => rfl); (case hr => first | (go_simp; done) | (go_simp; rfl)); intro b4 hg_ w2 hbx hBx; have K32 := Lib.hid (blk_below K3.out hBx); have BW2 := Lib.hid (BW1.out.trans (hBx.mono BW1.out.size)); have K4 := Lib.hid hbx; clear hg_ hbx hBx)
          | ((with_reducible refine gate_dst (N := 5) rfl ?_); refine box_event ?hg (N := 5) ?hd (cs := #[.int .i8 5, .int .i64 0, .slice A2 0 c2, .slice A3 0 c3]) (t := 33) ?hr ?_; (case hd => rfl); (case hg => rfl); (case hr => first | (go_simp; done) | (go_simp; rfl)); intro b5 hg_ w3 hbx hBx; have KP := Lib.hid (blk_below K32.out hBx); have KT := Lib.hid (blk_below K4.out hBx); have BW3 := Lib.hid (BW2.out.trans (hBx.mono BW2.out.size)); have KR := Lib.hid hbx; have r2 := (blk_cell hbx 2).trans (Eq.refl (some (Value.slice A2 0 c2))); have r3 := (blk_cell hbx 3).trans (Eq.refl (some (Value.slice A3 0 c3))); clear hg_ hbx hBx)
          | ((with_reducible refine gate_ (.load 28 (.tmp 3)) rfl ?_); clear U1; go_must (refine wpList_load_row rfl 28 (.tmp 3) rfl b3 rfl _ _ _ _ KP.out Tryd.underlying28 rfl HSP.out ?_))
          | ((with_reducible refine gate_ (.load 30 (.tmp 4)) rfl ?_); clear U2; go_must (refine wpList_load_row rfl 30 (.tmp 4) rfl b4 rfl _ _ _ _ KT.out Tryd.underlying30 rfl (by kernel_rfl) ?_))
          | (go_at_call 50; go_must (refine (known_calls p C t _ (k28.K_below BW3.out HK.out)).mono ?_); rw [HQ.out]; rintro e w4 ⟨rfl, hb⟩; have KP4 := Lib.hid (blk_below KP.out hb); have KT4 := Lib.hid (blk_below KT.out hb); have k5 := blk_below KR.out hb; have KR4 := Lib.hid k5; have BW4 := Lib.hid (BW3.out.trans (hb.mono BW3.out.size)); clear r2 r3; have s0 := (blk_cell k5 0).trans (Eq.refl (some (Value.int .i8 5))); have s1 := (blk_cell k5 1).trans (Eq.refl (some (Value.int .i64 0))); have s9 := (blk_cell (blk_below KP.out hb) 9).trans HC9.out; clear k5 hb)
          | (go_at_call 56; go_must (refine (anyCf_calls p C t A9 c9 b3 b4 _ KP4.out KT4.out (k28.K_below BW4.out HK.out) (Kd.C_below H9.out BW4.out) OKP.out).mono ?_); rintro e w5 ⟨rfl, hb⟩; have BW5 := Lib.hid (BW4.out.trans (hb.mono BW4.out.size)); clear hb))
        go_ret
        exact ⟨rfl, BW5.out⟩
    · have y1 : (n == 0) = false := beq_eq_false_iff_ne.2 hn
      rw [holds_5, decide_eq_false hn, Bool.false_and, Bool.and_false]
      go_enter Tryd.func22, Tryd.ntmps22
      go_wp2_with (first
        | ((with_reducible refine gate_dst (N := 3) rfl ?_); refine box_event ?hg (N := 3) ?hd (cs := C) (t := 28) ?hr ?_; (case hd => rfl); (case hg => rfl); (case hr => first | (go_simp; done) | (go_simp; rfl)); intro b3 hg_ w1 hbx hBx; have BW1 := Lib.hid hBx; have K3 := Lib.hid hbx; clear hg_ hbx hBx)
        | ((with_reducible refine gate_dst (N := 4) rfl ?_); refine box_event ?hg (N := 4) ?hd (cs := #[.string t.f0, .string t.f1, .string t.f2]) (t := 30) ?hr ?_; (case hd => rfl); (case hg => rfl); (case hr => first | (go_simp; done) | (go_simp; rfl)); intro b4 hg_ w2 hbx hBx; have K32 := Lib.hid (blk_below K3.out hBx); have BW2 := Lib.hid (BW1.out.trans (hBx.mono BW1.out.size)); have K4 := Lib.hid hbx; clear hg_ hbx hBx)
        | ((with_reducible refine gate_dst (N := 5) rfl ?_); refine box_event ?hg (N := 5) ?hd (cs := #[.int .i8 5, .int .i64 n, .slice A2 0 c2, .slice A3 0 c3]) (t := 33) ?hr ?_; (case hd => rfl); (case hg => rfl); (case hr => first | (go_simp; done) | (go_simp; rfl)); intro b5 hg_ w3 hbx hBx; have KP := Lib.hid (blk_below K32.out hBx); have KT := Lib.hid (blk_below K4.out hBx); have BW3 := Lib.hid (BW2.out.trans (hBx.mono BW2.out.size)); have KR := Lib.hid hbx; have r2 := (blk_cell hbx 2).trans (Eq.refl (some (Value.slice A2 0 c2))); have r3 := (blk_cell hbx 3).trans (Eq.refl (some (Value.slice A3 0 c3))); clear hg_ hbx hBx)
        | ((with_reducible refine gate_ (.load 28 (.tmp 3)) rfl ?_); clear U1; go_must (refine wpList_load_row rfl 28 (.tmp 3) rfl b3 rfl _ _ _ _ KP.out Tryd.underlying28 rfl HSP.out ?_))
        | ((with_reducible refine gate_ (.load 30 (.tmp 4)) rfl ?_); clear U2; go_must (refine wpList_load_row rfl 30 (.tmp 4) rfl b4 rfl _ _ _ _ KT.out Tryd.underlying30 rfl (by kernel_rfl) ?_))
        | (go_at_call 50; go_must (refine (known_calls p C t _ (k28.K_below BW3.out HK.out)).mono ?_);  rintro e w4 ⟨rfl, hb⟩; have KP4 := Lib.hid (blk_below KP.out hb); have KT4 := Lib.hid (blk_below KT.out hb); have k5 := blk_below KR.out hb; have KR4 := Lib.hid k5; have BW4 := Lib.hid (BW3.out.trans (hb.mono BW3.out.size)); clear r2 r3; have s0 := (blk_cell k5 0).trans (Eq.refl (some (Value.int .i8 5))); have s1 := (blk_cell k5 1).trans (Eq.refl (some (Value.int .i64 n)));  clear k5 hb))
      go_ret
      exact ⟨rfl, BW4.out⟩
end Go.Proofs.YteefneemmdfncaaDoor.M
