import Derived.Test.YteefneemmdfncaaBt
/- diff.Between's two regions that draw their order. Conditions: each theorem's own. -/
namespace Go.Proofs.Yteefneemmdfncaa.M
open Go.RowKit Go.Proofs.YteefneemmdfncaaW.Raw Go.Proofs.YteefneemmdfncaaW.PrintWords Go.Proofs.YteefneemmdfncaaW.PrintLast Go.Proofs.YteefneemmdfncaaW.PrintAll Go.Proofs.Yteefneemmdfncaa.F
set_option linter.unusedVariables false
theorem BtB.other2 {w W W' : World} {T : Nat} {z : Value} {P : Value → World → Prop} {j i k q : Nat} {l : Nat → Bool} {xs : Nat → Value} {v : Value} {g : Nat} {cs : Array Value} (hP : BtP T P) (hj : q ≠ j) (hi : q ≠ i) (hk : q ≠ k) (h : BtB w T z P j i k l xs W) (hh : W.heap[g]? = some (Obj.cells cs T (0, 0))) (hne : l i = true → xs i ≠ .pointer (some ⟨g, 0, none⟩)) (ho : ∀ x, x ≠ g → W'.heap[x]? = W.heap[x]?) : BtB w T z P j i k (upd l q true) (upd xs q v) W' := by
  refine BtB.far hj hi hk ⟨fun h2 => hP.box (h.p h2) hh ho, h.o, fun h2 => ?_⟩
  obtain ⟨g', e, hg, h3⟩ := h.b h2
  have hn : g' ≠ g := fun e2 => hne h2 (by rw [e, e2])
  exact ⟨g', e, hg, h3.imp (fun h => ⟨h.1, (ho g' hn).trans h.2⟩) (fun h => ⟨h.1, (ho g' hn).trans h.2⟩)⟩
abbrev bt1.ns : List (Option Tmp) := [some 9, some 10, some 11, some 12, some 5, some 6, none, none]
def bt1.T : Bool × List (List Nat × List Nat) := (true, [([], []), ([0], [0]), ([], []), ([2, 1], [2]), ([], []), ([], []), ([4, 1, 3, 0, 1, 4, 5], [1, 4]), ([5, 3, 6, 0, 1, 2, 3, 4, 5, 6], [3, 5])])
theorem bt1.tab : rtab .any (opsOf Try.f31 1) = bt1.T := by kernel_rfl
def bt1.V (vA vB : Value) : Nat → Value → World → Prop
  | 0 => fun v _ => v = vA
  | 1 => fun _ _ => True
  | 2 => fun v _ => v = vB
  | 3 => fun _ _ => True
  | 4 => fun _ _ => True
  | 5 => fun _ _ => True
  | 6 => fun _ _ => True
  | 7 => fun _ _ => True
  | _ => fun _ _ => False
set_option maxRecDepth 100000 in
set_option maxHeartbeats 2000000 in
theorem bt1 {Q : Exit → Act → World → Prop} {id : Nat} {a : Act} {w : World} {Pa Pb : Value → World → Prop} {b1 b2 : Nat} {q1 q2 : Array Value} {vA vB : Value} (hm : Try.prog.follows .mixedOrders = true) (hs : a.tmps.size = 18) (h1 : a.eval (.tmp 2) = .pointer (some ⟨b1, 0, none⟩)) (h2 : a.eval (.tmp 3) = .pointer (some ⟨b2, 0, none⟩)) (hb1 : w.heap[b1]? = some (Obj.cells q1 28 (0, 0))) (hb2 : w.heap[b2]? = some (Obj.cells q2 28 (0, 0))) (hPa : BtP 26 Pa) (hPb : BtP 26 Pb) (hoa : ∀ v W, Pa v W → v.cells.toList = [v] ∧ v.oneCell' = true) (hob : ∀ v W, Pb v W → v.cells.toList = [v] ∧ v.oneCell' = true) (hca : ∀ W, Below w.heap.size w W → Calls Try.prog 43 #[vA] W fun e W' => ∃ v, e = .returned v ∧ Pa v W' ∧ Below W.heap.size W W') (hcb : ∀ W, Below w.heap.size w W → Calls Try.prog 43 #[vB] W fun e W' => ∃ v, e = .returned v ∧ Pb v W' ∧ Below W.heap.size W W') (hva : vA = .agg q1) (hvb : vB = .agg q2) (hsz1 : (Try.prog.info? 28).map (·.size) = some q1.size) (hsz2 : (Try.prog.info? 28).map (·.size) = some q2.size)
    (hdone : ∀ (xs : Nat → Value) (W : World), Below w.heap.size w W → (∃ g, xs 4 = .pointer (some ⟨g, 0, none⟩) ∧ w.heap.size ≤ g ∧ W.heap[g]? = some (Obj.cells #[xs 1] 26 (0, 0)) ∧ Pa (xs 1) W) → (∃ g, xs 5 = .pointer (some ⟨g, 0, none⟩) ∧ w.heap.size ≤ g ∧ W.heap[g]? = some (Obj.cells #[xs 3] 26 (0, 0)) ∧ Pb (xs 3) W) → xs 4 ≠ xs 5 → Q .normal (putZ a bt1.ns 0 xs) W) :
    (Code.region id (opsOf Try.f31 1) true).wp Try.prog Q a w := by
  refine region_predx (T := bt1.T) 8 (fun l xs W => Below w.heap.size w W ∧ BtB w 26 (.slice none 0 0) Pa 1 4 6 l xs W ∧ BtB w 26 (.slice none 0 0) Pb 3 5 7 l xs W ∧ (l 4 = true → l 5 = true → xs 4 ≠ xs 5)) (bt1.V vA vB) hm (by kernel_rfl) bt1.tab (by kernel_rfl) (by kernel_rfl) ?h0 ?hI ?hsteps ?hd
  case h0 => exact fun _ _ => ⟨below_drew (Below.refl _ _), BtB.start (fun _ => rfl), BtB.start (fun _ => rfl), fun h => absurd h Bool.false_ne_true⟩
  case hI => exact fun hl h => ⟨h.1, h.2.1.same 8 (by decide) (by decide) (by decide) hl, h.2.2.1.same 8 (by decide) (by decide) (by decide) hl, by rw [← hl 4 (by decide), ← hl 5 (by decide)]; exact h.2.2.2⟩
  case hd =>
    intro xs W hI hV
    obtain ⟨h0, h1, h2, h3⟩ := hI
    obtain ⟨g, e, hg, hh⟩ := h1.b rfl
    obtain ⟨g', e', hg', hh'⟩ := h2.b rfl
    exact hdone xs W h0 ⟨g, e, hg, (hh.resolve_left (fun h => absurd h.1 (by decide))).2, h1.p rfl⟩ ⟨g', e', hg', (hh'.resolve_left (fun h => absurd h.1 (by decide))).2, h2.p rfl⟩ (h3 rfl rfl)
  case hsteps =>
    have hsz : ∀ t, t < 18 → t < a.tmps.size := fun t ht => by rw [hs]; exact ht
    refine ⟨?_, ?_, ?_, ?_, ?_, ?_, ?_, ?_, trivial⟩
    · refine step_op (Op.load 28 (.tmp 2)) (some 9) [] bt1.ns (by kernel_rfl) rfl (by kernel_rfl) (fun o ho hd hw l xs W hF hl hn K hK => ?_)
      have e1 := eval_o (xs := xs) (ns := bt1.ns) h1
      subst hva
      exact load_c (hw _) hd ho b1 e1 (blk_below hb1 hF.1.1) Try.underlying28 rfl hsz1 (hK.out _ _ (hF.now ⟨hF.1.1, hF.1.2.1.far (by decide) (by decide) (by decide), hF.1.2.2.1.far (by decide) (by decide) (by decide), by rw [upd_other _ _ (by decide), upd_other _ _ (by decide), upd_other _ _ (by decide), upd_other _ _ (by decide)]; exact hF.1.2.2.2⟩ rfl))
    · refine step_op (Op.call { callee := .value (.func 43), args := #[.tmp 9], argTypes := #[28] }) (some 10) [0] bt1.ns (by kernel_rfl) rfl (by kernel_rfl) (fun o ho hd hw l xs W hF hl hn K hK => ?_)
      have e1 : (putZ a bt1.ns 0 xs).eval (.tmp 9) = vA := (eval_z 0 (hsz 9 (by decide))).trans (hF.get 0 hn.1)
      refine goes_ Try.func43 (by kernel_rfl) rfl #[vA] (hw _) hd ho (by simp only [List.map_toArray, List.map_cons, List.map_nil, e1]) ?_
      obtain ⟨h0, h1, h2, h3⟩ := hF.1
      refine (hca W h0).mono ?_
      rintro e W' ⟨v, rfl, hv, hb⟩
      refine ⟨_, rfl, hK.out _ _ (hF.up ⟨h0.trans (hb.mono h0.size), (h1.below hPa hb).call (by decide) (by decide) hl hv, (h2.below hPb hb).far (by decide) (by decide) (by decide), by rw [upd_other _ _ (by decide), upd_other _ _ (by decide), upd_other _ _ (by decide), upd_other _ _ (by decide)]; exact h3⟩ (fun j v hj hlj hv => ?_) trivial)⟩
      match j, hj with
      | 0, _ => exact hv
      | 1, _ => exact hv
      | 2, _ => exact hv
      | 3, _ => exact hv
      | 4, _ => exact hv
      | 5, _ => exact hv
      | 6, _ => exact hv
      | 7, _ => exact hv
    · refine step_op (Op.load 28 (.tmp 3)) (some 11) [] bt1.ns (by kernel_rfl) rfl (by kernel_rfl) (fun o ho hd hw l xs W hF hl hn K hK => ?_)
      have e1 := eval_o (xs := xs) (ns := bt1.ns) h2
      subst hvb
      exact load_c (hw _) hd ho b2 e1 (blk_below hb2 hF.1.1) Try.underlying28 rfl hsz2 (hK.out _ _ (hF.now ⟨hF.1.1, hF.1.2.1.far (by decide) (by decide) (by decide), hF.1.2.2.1.far (by decide) (by decide) (by decide), by rw [upd_other _ _ (by decide), upd_other _ _ (by decide), upd_other _ _ (by decide), upd_other _ _ (by decide)]; exact hF.1.2.2.2⟩ rfl))
    · refine step_op (Op.call { callee := .value (.func 43), args := #[.tmp 11], argTypes := #[28] }) (some 12) [2, 1] bt1.ns (by kernel_rfl) rfl (by kernel_rfl) (fun o ho hd hw l xs W hF hl hn K hK => ?_)
      have e1 : (putZ a bt1.ns 0 xs).eval (.tmp 11) = vB := (eval_z 2 (hsz 11 (by decide))).trans (hF.get 2 hn.1)
      refine goes_ Try.func43 (by kernel_rfl) rfl #[vB] (hw _) hd ho (by simp only [List.map_toArray, List.map_cons, List.map_nil, e1]) ?_
      obtain ⟨h0, h1, h2, h3⟩ := hF.1
      refine (hcb W h0).mono ?_
      rintro e W' ⟨v, rfl, hv, hb⟩
      refine ⟨_, rfl, hK.out _ _ (hF.up ⟨h0.trans (hb.mono h0.size), (h1.below hPa hb).far (by decide) (by decide) (by decide), (h2.below hPb hb).call (by decide) (by decide) hl hv, by rw [upd_other _ _ (by decide), upd_other _ _ (by decide), upd_other _ _ (by decide), upd_other _ _ (by decide)]; exact h3⟩ (fun j v hj hlj hv => ?_) trivial)⟩
      match j, hj with
      | 0, _ => exact hv
      | 1, _ => exact hv
      | 2, _ => exact hv
      | 3, _ => exact hv
      | 4, _ => exact hv
      | 5, _ => exact hv
      | 6, _ => exact hv
      | 7, _ => exact hv
    · refine step_op (Op.alloc 26) (some 5) [] bt1.ns (by kernel_rfl) rfl (by kernel_rfl) (fun o ho hd hw l xs W hF hl hn K hK => ?_)
      obtain ⟨h0, h1, h2, h3⟩ := hF.1
      rw [show (some 5 : Option Tmp) = o.dst from hd.symm] at hK ⊢
      refine box_step (hw _) hd (cs := #[.slice none 0 0]) (t := 26) (by simp only [execOp, ho]; go_simp) (fun g hg W' hx hb => hK.out _ _ ?_)
      subst hg
      refine hF.up ⟨h0.trans (hb.mono h0.size), h1.alloc hPa (by decide) (by decide) hl hb h0.size hx, (h2.below hPb hb).far (by decide) (by decide) (by decide), ?_⟩ (fun j v hj hlj hv => ?_) trivial
      · intro l4 l5
        rw [upd_other _ _ (by decide)] at l5
        obtain ⟨g', e', hg', hh'⟩ := h2.b l5
        have hlt : g' < W.heap.size := by rcases hh' with hh' | hh' <;> exact blk_lt hh'.2
        rw [upd_same, upd_other _ _ (by decide), e']
        intro e9
        injection e9 with e9
        injection e9 with e9
        injection e9 with e9
        omega
      match j, hj with
      | 0, _ => exact hv
      | 1, _ => exact hv
      | 2, _ => exact hv
      | 3, _ => exact hv
      | 4, _ => exact hv
      | 5, _ => exact hv
      | 6, _ => exact hv
      | 7, _ => exact hv
    · refine step_op (Op.alloc 26) (some 6) [] bt1.ns (by kernel_rfl) rfl (by kernel_rfl) (fun o ho hd hw l xs W hF hl hn K hK => ?_)
      obtain ⟨h0, h1, h2, h3⟩ := hF.1
      rw [show (some 6 : Option Tmp) = o.dst from hd.symm] at hK ⊢
      refine box_step (hw _) hd (cs := #[.slice none 0 0]) (t := 26) (by simp only [execOp, ho]; go_simp) (fun g hg W' hx hb => hK.out _ _ ?_)
      subst hg
      refine hF.up ⟨h0.trans (hb.mono h0.size), (h1.below hPa hb).far (by decide) (by decide) (by decide), h2.alloc hPb (by decide) (by decide) hl hb h0.size hx, ?_⟩ (fun j v hj hlj hv => ?_) trivial
      · intro l4 l5
        rw [upd_other _ _ (by decide)] at l4
        obtain ⟨g', e', hg', hh'⟩ := h1.b l4
        have hlt : g' < W.heap.size := by rcases hh' with hh' | hh' <;> exact blk_lt hh'.2
        rw [upd_same, upd_other _ _ (by decide), e']
        intro e9
        injection e9 with e9
        injection e9 with e9
        injection e9 with e9
        omega
      match j, hj with
      | 0, _ => exact hv
      | 1, _ => exact hv
      | 2, _ => exact hv
      | 3, _ => exact hv
      | 4, _ => exact hv
      | 5, _ => exact hv
      | 6, _ => exact hv
      | 7, _ => exact hv
    · refine step_op (Op.store 26 (.tmp 5) (.tmp 10)) (none) [4, 1, 3, 0, 1, 4, 5] bt1.ns (by kernel_rfl) rfl (by kernel_rfl) (fun o ho hd hw l xs W hF hl hn K hK => ?_)
      have e1 : (putZ a bt1.ns 0 xs).eval (.tmp 5) = xs 4 := eval_z 4 (hsz 5 (by decide))
      have e1V := hF.get 4 hn.1
      have e2 : (putZ a bt1.ns 0 xs).eval (.tmp 10) = xs 1 := eval_z 1 (hsz 10 (by decide))
      have e2V := hF.get 1 hn.2.1
      obtain ⟨h0, h1, h2, h3⟩ := hF.1
      obtain ⟨g, e, hg, hh⟩ := h1.b hn.1
      have hh := (hh.resolve_right (fun h => absurd h.1 (by rw [hl]; decide))).2
      have hp := h1.p hn.2.1
      rw [e] at e1
      have hno : ∀ l5 : l 5 = true, xs 5 ≠ .pointer (some ⟨g, 0, none⟩) := fun l5 => by rw [← e]; exact (h3 hn.1 l5).symm
      have hK2 : ∀ w2, PX (fun l xs W => Below w.heap.size w W ∧ BtB w 26 (.slice none 0 0) Pa 1 4 6 l xs W ∧ BtB w 26 (.slice none 0 0) Pb 3 5 7 l xs W ∧ (l 4 = true → l 5 = true → xs 4 ≠ xs 5)) (bt1.V vA vB) 8 (upd l 6 true) (upd xs 6 undef) w2 → K (putZ a bt1.ns 0 xs) w2 := fun w2 h => by
        have h2 := hK.out undef w2 h
        rw [put_none] at h2
        exact h2
      clear hK
      rw [show (none : Option Tmp) = o.dst from hd.symm]
      refine bstore_step (hw _) ho hd g _ #[xs 1] _ e1 e2 (hoa _ _ hp).1 hh (by kernel_rfl) (by simp) (by intro q hq; rw [List.mem_singleton.1 (show q ∈ [xs 1] from hq)]; exact (hoa _ _ hp).2) (fun w1 hw1 ho2 hsw hbel => hK2 w1 (hF.up ⟨h0.trans (hbel _ hg), ?_, ?_, ?_⟩ (fun j v hj hlj hv => ?_) trivial))
      · exact h1.store hPa (by decide) (by decide) hn.1 hn.2.1 e hg hh hw1 ho2
      · exact h2.other2 hPb (by decide) (by decide) (by decide) hh hno ho2
      · rw [upd_other _ _ (by decide), upd_other _ _ (by decide), upd_other _ _ (by decide), upd_other _ _ (by decide)]; exact h3
      match j, hj with
      | 0, _ => exact hv
      | 1, _ => exact hv
      | 2, _ => exact hv
      | 3, _ => exact hv
      | 4, _ => exact hv
      | 5, _ => exact hv
      | 6, _ => exact hv
      | 7, _ => exact hv
    · refine step_op (Op.store 26 (.tmp 6) (.tmp 12)) (none) [5, 3, 6, 0, 1, 2, 3, 4, 5, 6] bt1.ns (by kernel_rfl) rfl (by kernel_rfl) (fun o ho hd hw l xs W hF hl hn K hK => ?_)
      have e1 : (putZ a bt1.ns 0 xs).eval (.tmp 6) = xs 5 := eval_z 5 (hsz 6 (by decide))
      have e1V := hF.get 5 hn.1
      have e2 : (putZ a bt1.ns 0 xs).eval (.tmp 12) = xs 3 := eval_z 3 (hsz 12 (by decide))
      have e2V := hF.get 3 hn.2.1
      obtain ⟨h0, h1, h2, h3⟩ := hF.1
      obtain ⟨g, e, hg, hh⟩ := h2.b hn.1
      have hh := (hh.resolve_right (fun h => absurd h.1 (by rw [hl]; decide))).2
      have hp := h2.p hn.2.1
      rw [e] at e1
      have hno : ∀ l4 : l 4 = true, xs 4 ≠ .pointer (some ⟨g, 0, none⟩) := fun l4 => by rw [← e]; exact h3 l4 hn.1
      have hK2 : ∀ w2, PX (fun l xs W => Below w.heap.size w W ∧ BtB w 26 (.slice none 0 0) Pa 1 4 6 l xs W ∧ BtB w 26 (.slice none 0 0) Pb 3 5 7 l xs W ∧ (l 4 = true → l 5 = true → xs 4 ≠ xs 5)) (bt1.V vA vB) 8 (upd l 7 true) (upd xs 7 undef) w2 → K (putZ a bt1.ns 0 xs) w2 := fun w2 h => by
        have h2 := hK.out undef w2 h
        rw [put_none] at h2
        exact h2
      clear hK
      rw [show (none : Option Tmp) = o.dst from hd.symm]
      refine bstore_step (hw _) ho hd g _ #[xs 3] _ e1 e2 (hob _ _ hp).1 hh (by kernel_rfl) (by simp) (by intro q hq; rw [List.mem_singleton.1 (show q ∈ [xs 3] from hq)]; exact (hob _ _ hp).2) (fun w1 hw1 ho2 hsw hbel => hK2 w1 (hF.up ⟨h0.trans (hbel _ hg), ?_, ?_, ?_⟩ (fun j v hj hlj hv => ?_) trivial))
      · exact h1.other2 hPa (by decide) (by decide) (by decide) hh hno ho2
      · exact h2.store hPb (by decide) (by decide) hn.1 hn.2.1 e hg hh hw1 ho2
      · rw [upd_other _ _ (by decide), upd_other _ _ (by decide), upd_other _ _ (by decide), upd_other _ _ (by decide)]; exact h3
      match j, hj with
      | 0, _ => exact hv
      | 1, _ => exact hv
      | 2, _ => exact hv
      | 3, _ => exact hv
      | 4, _ => exact hv
      | 5, _ => exact hv
      | 6, _ => exact hv
      | 7, _ => exact hv
abbrev bt2.ns : List (Option Tmp) := [some 13, some 14, some 15, some 16, some 7, some 8, none, none]
def bt2.T : Bool × List (List Nat × List Nat) := (true, [([], []), ([0], [0]), ([], []), ([2, 1], [2]), ([], []), ([], []), ([4, 1, 3, 0, 1, 4, 5], [1, 4]), ([5, 3, 6, 0, 1, 2, 3, 4, 5, 6], [3, 5])])
theorem bt2.tab : rtab .any (opsOf Try.f31 2) = bt2.T := by kernel_rfl
def bt2.V (vA vB : Value) : Nat → Value → World → Prop
  | 0 => fun v _ => v = vA
  | 1 => fun _ _ => True
  | 2 => fun v _ => v = vB
  | 3 => fun _ _ => True
  | 4 => fun _ _ => True
  | 5 => fun _ _ => True
  | 6 => fun _ _ => True
  | 7 => fun _ _ => True
  | _ => fun _ _ => False
set_option maxRecDepth 100000 in
set_option maxHeartbeats 2000000 in
theorem bt2 {Q : Exit → Act → World → Prop} {id : Nat} {a : Act} {w : World} {Pa Pb : Value → World → Prop} {b1 b2 : Nat} {q1 q2 : Array Value} {vA vB : Value} (hm : Try.prog.follows .mixedOrders = true) (hs : a.tmps.size = 18) (h1 : a.eval (.tmp 5) = .pointer (some ⟨b1, 0, none⟩)) (h2 : a.eval (.tmp 6) = .pointer (some ⟨b2, 0, none⟩)) (hb1 : w.heap[b1]? = some (Obj.cells q1 26 (0, 0))) (hb2 : w.heap[b2]? = some (Obj.cells q2 26 (0, 0))) (hPa : BtP 99 Pa) (hPb : BtP 99 Pb) (hoa : ∀ v W, Pa v W → v.cells.toList = [v] ∧ v.oneCell' = true) (hob : ∀ v W, Pb v W → v.cells.toList = [v] ∧ v.oneCell' = true) (hca : ∀ W, Below w.heap.size w W → Calls Try.prog 78 #[vA] W fun e W' => ∃ v, e = .returned v ∧ Pa v W' ∧ Below W.heap.size W W') (hcb : ∀ W, Below w.heap.size w W → Calls Try.prog 78 #[vB] W fun e W' => ∃ v, e = .returned v ∧ Pb v W' ∧ Below W.heap.size W W') (hva : q1 = #[vA]) (hvb : q2 = #[vB])
    (hdone : ∀ (xs : Nat → Value) (W : World), Below w.heap.size w W → (∃ g, xs 4 = .pointer (some ⟨g, 0, none⟩) ∧ w.heap.size ≤ g ∧ W.heap[g]? = some (Obj.cells #[xs 1] 99 (0, 0)) ∧ Pa (xs 1) W) → (∃ g, xs 5 = .pointer (some ⟨g, 0, none⟩) ∧ w.heap.size ≤ g ∧ W.heap[g]? = some (Obj.cells #[xs 3] 99 (0, 0)) ∧ Pb (xs 3) W) → xs 4 ≠ xs 5 → Q .normal (putZ a bt2.ns 0 xs) W) :
    (Code.region id (opsOf Try.f31 2) true).wp Try.prog Q a w := by
  refine region_predx (T := bt2.T) 8 (fun l xs W => Below w.heap.size w W ∧ BtB w 99 (.map none) Pa 1 4 6 l xs W ∧ BtB w 99 (.map none) Pb 3 5 7 l xs W ∧ (l 4 = true → l 5 = true → xs 4 ≠ xs 5)) (bt2.V vA vB) hm (by kernel_rfl) bt2.tab (by kernel_rfl) (by kernel_rfl) ?h0 ?hI ?hsteps ?hd
  case h0 => exact fun _ _ => ⟨below_drew (Below.refl _ _), BtB.start (fun _ => rfl), BtB.start (fun _ => rfl), fun h => absurd h Bool.false_ne_true⟩
  case hI => exact fun hl h => ⟨h.1, h.2.1.same 8 (by decide) (by decide) (by decide) hl, h.2.2.1.same 8 (by decide) (by decide) (by decide) hl, by rw [← hl 4 (by decide), ← hl 5 (by decide)]; exact h.2.2.2⟩
  case hd =>
    intro xs W hI hV
    obtain ⟨h0, h1, h2, h3⟩ := hI
    obtain ⟨g, e, hg, hh⟩ := h1.b rfl
    obtain ⟨g', e', hg', hh'⟩ := h2.b rfl
    exact hdone xs W h0 ⟨g, e, hg, (hh.resolve_left (fun h => absurd h.1 (by decide))).2, h1.p rfl⟩ ⟨g', e', hg', (hh'.resolve_left (fun h => absurd h.1 (by decide))).2, h2.p rfl⟩ (h3 rfl rfl)
  case hsteps =>
    have hsz : ∀ t, t < 18 → t < a.tmps.size := fun t ht => by rw [hs]; exact ht
    refine ⟨?_, ?_, ?_, ?_, ?_, ?_, ?_, ?_, trivial⟩
    · refine step_op (Op.load 26 (.tmp 5)) (some 13) [] bt2.ns (by kernel_rfl) rfl (by kernel_rfl) (fun o ho hd hw l xs W hF hl hn K hK => ?_)
      have e1 := eval_o (xs := xs) (ns := bt2.ns) h1
      subst hva
      have hc := (blk_cell (blk_below hb1 hF.1.1) 0).trans (show _ = some vA from rfl)
      exact value_ (v := vA) (hw _) hd (w1 := W) (by simp only [execOp, ho, e1]; go_simp) (hK.out _ _ (hF.now ⟨hF.1.1, hF.1.2.1.far (by decide) (by decide) (by decide), hF.1.2.2.1.far (by decide) (by decide) (by decide), by rw [upd_other _ _ (by decide), upd_other _ _ (by decide), upd_other _ _ (by decide), upd_other _ _ (by decide)]; exact hF.1.2.2.2⟩ rfl))
    · refine step_op (Op.call { callee := .value (.func 78), args := #[.tmp 13], argTypes := #[26] }) (some 14) [0] bt2.ns (by kernel_rfl) rfl (by kernel_rfl) (fun o ho hd hw l xs W hF hl hn K hK => ?_)
      have e1 : (putZ a bt2.ns 0 xs).eval (.tmp 13) = vA := (eval_z 0 (hsz 13 (by decide))).trans (hF.get 0 hn.1)
      refine goes_ Try.func78 (by kernel_rfl) rfl #[vA] (hw _) hd ho (by simp only [List.map_toArray, List.map_cons, List.map_nil, e1]) ?_
      obtain ⟨h0, h1, h2, h3⟩ := hF.1
      refine (hca W h0).mono ?_
      rintro e W' ⟨v, rfl, hv, hb⟩
      refine ⟨_, rfl, hK.out _ _ (hF.up ⟨h0.trans (hb.mono h0.size), (h1.below hPa hb).call (by decide) (by decide) hl hv, (h2.below hPb hb).far (by decide) (by decide) (by decide), by rw [upd_other _ _ (by decide), upd_other _ _ (by decide), upd_other _ _ (by decide), upd_other _ _ (by decide)]; exact h3⟩ (fun j v hj hlj hv => ?_) trivial)⟩
      match j, hj with
      | 0, _ => exact hv
      | 1, _ => exact hv
      | 2, _ => exact hv
      | 3, _ => exact hv
      | 4, _ => exact hv
      | 5, _ => exact hv
      | 6, _ => exact hv
      | 7, _ => exact hv
    · refine step_op (Op.load 26 (.tmp 6)) (some 15) [] bt2.ns (by kernel_rfl) rfl (by kernel_rfl) (fun o ho hd hw l xs W hF hl hn K hK => ?_)
      have e1 := eval_o (xs := xs) (ns := bt2.ns) h2
      subst hvb
      have hc := (blk_cell (blk_below hb2 hF.1.1) 0).trans (show _ = some vB from rfl)
      exact value_ (v := vB) (hw _) hd (w1 := W) (by simp only [execOp, ho, e1]; go_simp) (hK.out _ _ (hF.now ⟨hF.1.1, hF.1.2.1.far (by decide) (by decide) (by decide), hF.1.2.2.1.far (by decide) (by decide) (by decide), by rw [upd_other _ _ (by decide), upd_other _ _ (by decide), upd_other _ _ (by decide), upd_other _ _ (by decide)]; exact hF.1.2.2.2⟩ rfl))
    · refine step_op (Op.call { callee := .value (.func 78), args := #[.tmp 15], argTypes := #[26] }) (some 16) [2, 1] bt2.ns (by kernel_rfl) rfl (by kernel_rfl) (fun o ho hd hw l xs W hF hl hn K hK => ?_)
      have e1 : (putZ a bt2.ns 0 xs).eval (.tmp 15) = vB := (eval_z 2 (hsz 15 (by decide))).trans (hF.get 2 hn.1)
      refine goes_ Try.func78 (by kernel_rfl) rfl #[vB] (hw _) hd ho (by simp only [List.map_toArray, List.map_cons, List.map_nil, e1]) ?_
      obtain ⟨h0, h1, h2, h3⟩ := hF.1
      refine (hcb W h0).mono ?_
      rintro e W' ⟨v, rfl, hv, hb⟩
      refine ⟨_, rfl, hK.out _ _ (hF.up ⟨h0.trans (hb.mono h0.size), (h1.below hPa hb).far (by decide) (by decide) (by decide), (h2.below hPb hb).call (by decide) (by decide) hl hv, by rw [upd_other _ _ (by decide), upd_other _ _ (by decide), upd_other _ _ (by decide), upd_other _ _ (by decide)]; exact h3⟩ (fun j v hj hlj hv => ?_) trivial)⟩
      match j, hj with
      | 0, _ => exact hv
      | 1, _ => exact hv
      | 2, _ => exact hv
      | 3, _ => exact hv
      | 4, _ => exact hv
      | 5, _ => exact hv
      | 6, _ => exact hv
      | 7, _ => exact hv
    · refine step_op (Op.alloc 99) (some 7) [] bt2.ns (by kernel_rfl) rfl (by kernel_rfl) (fun o ho hd hw l xs W hF hl hn K hK => ?_)
      obtain ⟨h0, h1, h2, h3⟩ := hF.1
      rw [show (some 7 : Option Tmp) = o.dst from hd.symm] at hK ⊢
      refine box_step (hw _) hd (cs := #[.map none]) (t := 99) (by simp only [execOp, ho]; go_simp) (fun g hg W' hx hb => hK.out _ _ ?_)
      subst hg
      refine hF.up ⟨h0.trans (hb.mono h0.size), h1.alloc hPa (by decide) (by decide) hl hb h0.size hx, (h2.below hPb hb).far (by decide) (by decide) (by decide), ?_⟩ (fun j v hj hlj hv => ?_) trivial
      · intro l4 l5
        rw [upd_other _ _ (by decide)] at l5
        obtain ⟨g', e', hg', hh'⟩ := h2.b l5
        have hlt : g' < W.heap.size := by rcases hh' with hh' | hh' <;> exact blk_lt hh'.2
        rw [upd_same, upd_other _ _ (by decide), e']
        intro e9
        injection e9 with e9
        injection e9 with e9
        injection e9 with e9
        omega
      match j, hj with
      | 0, _ => exact hv
      | 1, _ => exact hv
      | 2, _ => exact hv
      | 3, _ => exact hv
      | 4, _ => exact hv
      | 5, _ => exact hv
      | 6, _ => exact hv
      | 7, _ => exact hv
    · refine step_op (Op.alloc 99) (some 8) [] bt2.ns (by kernel_rfl) rfl (by kernel_rfl) (fun o ho hd hw l xs W hF hl hn K hK => ?_)
      obtain ⟨h0, h1, h2, h3⟩ := hF.1
      rw [show (some 8 : Option Tmp) = o.dst from hd.symm] at hK ⊢
      refine box_step (hw _) hd (cs := #[.map none]) (t := 99) (by simp only [execOp, ho]; go_simp) (fun g hg W' hx hb => hK.out _ _ ?_)
      subst hg
      refine hF.up ⟨h0.trans (hb.mono h0.size), (h1.below hPa hb).far (by decide) (by decide) (by decide), h2.alloc hPb (by decide) (by decide) hl hb h0.size hx, ?_⟩ (fun j v hj hlj hv => ?_) trivial
      · intro l4 l5
        rw [upd_other _ _ (by decide)] at l4
        obtain ⟨g', e', hg', hh'⟩ := h1.b l4
        have hlt : g' < W.heap.size := by rcases hh' with hh' | hh' <;> exact blk_lt hh'.2
        rw [upd_same, upd_other _ _ (by decide), e']
        intro e9
        injection e9 with e9
        injection e9 with e9
        injection e9 with e9
        omega
      match j, hj with
      | 0, _ => exact hv
      | 1, _ => exact hv
      | 2, _ => exact hv
      | 3, _ => exact hv
      | 4, _ => exact hv
      | 5, _ => exact hv
      | 6, _ => exact hv
      | 7, _ => exact hv
    · refine step_op (Op.store 99 (.tmp 7) (.tmp 14)) (none) [4, 1, 3, 0, 1, 4, 5] bt2.ns (by kernel_rfl) rfl (by kernel_rfl) (fun o ho hd hw l xs W hF hl hn K hK => ?_)
      have e1 : (putZ a bt2.ns 0 xs).eval (.tmp 7) = xs 4 := eval_z 4 (hsz 7 (by decide))
      have e1V := hF.get 4 hn.1
      have e2 : (putZ a bt2.ns 0 xs).eval (.tmp 14) = xs 1 := eval_z 1 (hsz 14 (by decide))
      have e2V := hF.get 1 hn.2.1
      obtain ⟨h0, h1, h2, h3⟩ := hF.1
      obtain ⟨g, e, hg, hh⟩ := h1.b hn.1
      have hh := (hh.resolve_right (fun h => absurd h.1 (by rw [hl]; decide))).2
      have hp := h1.p hn.2.1
      rw [e] at e1
      have hno : ∀ l5 : l 5 = true, xs 5 ≠ .pointer (some ⟨g, 0, none⟩) := fun l5 => by rw [← e]; exact (h3 hn.1 l5).symm
      have hK2 : ∀ w2, PX (fun l xs W => Below w.heap.size w W ∧ BtB w 99 (.map none) Pa 1 4 6 l xs W ∧ BtB w 99 (.map none) Pb 3 5 7 l xs W ∧ (l 4 = true → l 5 = true → xs 4 ≠ xs 5)) (bt2.V vA vB) 8 (upd l 6 true) (upd xs 6 undef) w2 → K (putZ a bt2.ns 0 xs) w2 := fun w2 h => by
        have h2 := hK.out undef w2 h
        rw [put_none] at h2
        exact h2
      clear hK
      rw [show (none : Option Tmp) = o.dst from hd.symm]
      refine bstore_step (hw _) ho hd g _ #[xs 1] _ e1 e2 (hoa _ _ hp).1 hh (by kernel_rfl) (by simp) (by intro q hq; rw [List.mem_singleton.1 (show q ∈ [xs 1] from hq)]; exact (hoa _ _ hp).2) (fun w1 hw1 ho2 hsw hbel => hK2 w1 (hF.up ⟨h0.trans (hbel _ hg), ?_, ?_, ?_⟩ (fun j v hj hlj hv => ?_) trivial))
      · exact h1.store hPa (by decide) (by decide) hn.1 hn.2.1 e hg hh hw1 ho2
      · exact h2.other2 hPb (by decide) (by decide) (by decide) hh hno ho2
      · rw [upd_other _ _ (by decide), upd_other _ _ (by decide), upd_other _ _ (by decide), upd_other _ _ (by decide)]; exact h3
      match j, hj with
      | 0, _ => exact hv
      | 1, _ => exact hv
      | 2, _ => exact hv
      | 3, _ => exact hv
      | 4, _ => exact hv
      | 5, _ => exact hv
      | 6, _ => exact hv
      | 7, _ => exact hv
    · refine step_op (Op.store 99 (.tmp 8) (.tmp 16)) (none) [5, 3, 6, 0, 1, 2, 3, 4, 5, 6] bt2.ns (by kernel_rfl) rfl (by kernel_rfl) (fun o ho hd hw l xs W hF hl hn K hK => ?_)
      have e1 : (putZ a bt2.ns 0 xs).eval (.tmp 8) = xs 5 := eval_z 5 (hsz 8 (by decide))
      have e1V := hF.get 5 hn.1
      have e2 : (putZ a bt2.ns 0 xs).eval (.tmp 16) = xs 3 := eval_z 3 (hsz 16 (by decide))
      have e2V := hF.get 3 hn.2.1
      obtain ⟨h0, h1, h2, h3⟩ := hF.1
      obtain ⟨g, e, hg, hh⟩ := h2.b hn.1
      have hh := (hh.resolve_right (fun h => absurd h.1 (by rw [hl]; decide))).2
      have hp := h2.p hn.2.1
      rw [e] at e1
      have hno : ∀ l4 : l 4 = true, xs 4 ≠ .pointer (some ⟨g, 0, none⟩) := fun l4 => by rw [← e]; exact h3 l4 hn.1
      have hK2 : ∀ w2, PX (fun l xs W => Below w.heap.size w W ∧ BtB w 99 (.map none) Pa 1 4 6 l xs W ∧ BtB w 99 (.map none) Pb 3 5 7 l xs W ∧ (l 4 = true → l 5 = true → xs 4 ≠ xs 5)) (bt2.V vA vB) 8 (upd l 7 true) (upd xs 7 undef) w2 → K (putZ a bt2.ns 0 xs) w2 := fun w2 h => by
        have h2 := hK.out undef w2 h
        rw [put_none] at h2
        exact h2
      clear hK
      rw [show (none : Option Tmp) = o.dst from hd.symm]
      refine bstore_step (hw _) ho hd g _ #[xs 3] _ e1 e2 (hob _ _ hp).1 hh (by kernel_rfl) (by simp) (by intro q hq; rw [List.mem_singleton.1 (show q ∈ [xs 3] from hq)]; exact (hob _ _ hp).2) (fun w1 hw1 ho2 hsw hbel => hK2 w1 (hF.up ⟨h0.trans (hbel _ hg), ?_, ?_, ?_⟩ (fun j v hj hlj hv => ?_) trivial))
      · exact h1.other2 hPa (by decide) (by decide) (by decide) hh hno ho2
      · exact h2.store hPb (by decide) (by decide) hn.1 hn.2.1 e hg hh hw1 ho2
      · rw [upd_other _ _ (by decide), upd_other _ _ (by decide), upd_other _ _ (by decide), upd_other _ _ (by decide)]; exact h3
      match j, hj with
      | 0, _ => exact hv
      | 1, _ => exact hv
      | 2, _ => exact hv
      | 3, _ => exact hv
      | 4, _ => exact hv
      | 5, _ => exact hv
      | 6, _ => exact hv
      | 7, _ => exact hv
end Go.Proofs.Yteefneemmdfncaa.M
