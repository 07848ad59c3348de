import Derived.Test.YteefneemmdfncaaDoorWc
import Derived.Test.YteefneemmdfncaaDoorWq
/- why.by, walked: the reason that a rule is. Conditions: the policy reads as it must; its lists are bounded. -/
namespace Go.Proofs.YteefneemmdfncaaDoor.M
open Go.RowKit Go.Proofs.YteefneemmdfncaaDoorW.Raw Go.Proofs.YteefneemmdfncaaDoorW.PrintWords Go.Proofs.YteefneemmdfncaaDoorW.PrintLast Go.Proofs.YteefneemmdfncaaDoorW.PrintAll Go.Proofs.YteefneemmdfncaaDoor.F
set_option linter.unusedVariables false
set_option linter.unusedSimpArgs false
abbrev by4.ns : List (Option Tmp) := [some 15, some 16, some 17, some 18, some 19, some 20, some 21, some 22, some 23, some 24, some 25, some 26, none]
def by4.T : Bool × List (List Nat × List Nat) := (true, [([], []), ([0], [0]), ([], []), ([2], [2]), ([], []), ([4], [4]), ([], []), ([5, 6], [5, 6]), ([7], [7]), ([8], [8]), ([1, 3, 9, 1], [1, 3, 9]), ([0, 1, 2, 3, 4, 5, 6, 7, 8, 9, 10], []), ([11, 10, 10, 0, 1, 2, 3, 4, 5, 6, 7, 8, 9, 10], [10, 11])])
theorem by4.tab : rtab .any (opsOf Tryd.f52 4) = by4.T := by kernel_rfl
def by4.V (B : Nat) (p : Pol) (t : Tri) (u : Rule) (C0 : Array Value) (ad : Addr) (c9 i b4 b5 b9 : Nat) : Nat → Value → World → Prop
  | 0 => IsV (.agg C0)
  | 1 => PaR B (p.f5 ++ p.f6)
  | 2 => IsV (.pointer (some ⟨b5, 0, none⟩))
  | 3 => IsV (.string t.f0)
  | 4 => IsV (.pointer (some ⟨b4, 9, none⟩))
  | 5 => IsV (.slice (some ad) p.f9.length c9)
  | 6 => IsV (.int .i64 (i : Nat))
  | 7 => IsV (.pointer (some (ad.add (i * 6))))
  | 8 => IsV (.pointer (some ⟨(ad.add (i * 6)).block, (ad.add (i * 6)).off + 1, none⟩))
  | 9 => IsV (.string u.f1)
  | 10 => SsR B (pathL (p.f5 ++ p.f6) t.f0 u.f1)
  | 11 => IsV (.pointer (some ⟨b9, 2, none⟩))
  | 12 => fun _ _ => True
  | _ => fun _ _ => True
theorem by4.mono {B : Nat} {p : Pol} {t : Tri} {u : Rule} {C0 : Array Value} {ad : Addr} {c9 i b4 b5 b9 : Nat} : ∀ (j_ : Nat) {v : Value} {W W' : World}, by4.V B p t u C0 ad c9 i b4 b5 b9 j_ v W → Below W.heap.size W W' → by4.V B p t u C0 ad c9 i b4 b5 b9 j_ v W'
  | 0, _, _, _, h, hb => h
  | 1, _, _, _, h, hb => PaR.mono h hb
  | 2, _, _, _, h, hb => h
  | 3, _, _, _, h, hb => h
  | 4, _, _, _, h, hb => h
  | 5, _, _, _, h, hb => h
  | 6, _, _, _, h, hb => h
  | 7, _, _, _, h, hb => h
  | 8, _, _, _, h, hb => h
  | 9, _, _, _, h, hb => h
  | 10, _, _, _, h, hb => SsR.mono h hb
  | 11, _, _, _, h, hb => h
  | 12, _, _, _, h, hb => trivial
  | n + 13, _, _, _, _, _ => trivial
theorem by4.away {B : Nat} {p : Pol} {t : Tri} {u : Rule} {C0 : Array Value} {ad : Addr} {c9 i b4 b5 b9 : Nat} {b : Nat} {W W' : World} (hb : b < B) (ho : ∀ i, i ≠ b → W'.heap[i]? = W.heap[i]?) : ∀ (j_ : Nat) {v : Value}, by4.V B p t u C0 ad c9 i b4 b5 b9 j_ v W → by4.V B p t u C0 ad c9 i b4 b5 b9 j_ v W'
  | 0, _, h => h
  | 1, _, h => PaR.away h hb ho
  | 2, _, h => h
  | 3, _, h => h
  | 4, _, h => h
  | 5, _, h => h
  | 6, _, h => h
  | 7, _, h => h
  | 8, _, h => h
  | 9, _, h => h
  | 10, _, h => SsR.away h hb ho
  | 11, _, h => h
  | 12, _, h => trivial
  | n + 13, _, _ => trivial
set_option maxRecDepth 100000 in
set_option maxHeartbeats 2000000 in
theorem by4.region {Q : Exit → Act → World → Prop} {id : Nat} {a : Act} {w : World} (B : Nat) (p : Pol) (t : Tri) (u : Rule) (C0 : Array Value) (ad : Addr) (c9 i b4 b5 b9 : Nat) {vd n v2 v3 : Value} (kp : k28.K w p C0.toList) (hnn : p.f5.length + p.f6.length ≤ 16777215) (hnp : (p.f5 ++ p.f6).length ≤ 4194304) (hBw : B ≤ w.heap.size) (hbB : b9 < B) (hc9 : C0[9]? = some (.slice (some ad) p.f9.length c9)) (i0 : (0 : Int) ≤ (i : Int)) (i1 : (i : Int) < (p.f9.length : Int)) (hu : ∀ W, Below w.heap.size w W → W.cell? ⟨(ad.add (i * 6)).block, (ad.add (i * 6)).off + 1, none⟩ = some (.string u.f1)) (hm : Tryd.prog.follows .mixedOrders = true) (hs : a.tmps.size = 40) (h4 : a.eval (.tmp 4) = .pointer (some ⟨b4, 0, none⟩)) (hb4 : w.heap[b4]? = some (Obj.cells C0 28 (0, 0)))  (h5 : a.eval (.tmp 5) = .pointer (some ⟨b5, 0, none⟩)) (hb5 : w.heap[b5]? = some (Obj.cells #[.string t.f0, .string t.f1, .string t.f2] 30 (0, 0)))  (h9 : a.eval (.tmp 9) = .pointer (some ⟨b9, 0, none⟩)) (hb9 : w.heap[b9]? = some (Obj.cells #[vd, n, v2, v3] 33 (0, 0)))  (h2 : a.eval (.tmp 2) = .int .i64 (i : Nat))
    (hdone : ∀ (xs : Nat → Value) (W : World), (fun W => ∃ W1 v, Below w.heap.size w W1 ∧ SsR B (pathL (p.f5 ++ p.f6) t.f0 u.f1) v W ∧ W.heap[b9]? = some (Obj.cells #[vd, n, v, v3] 33 (0, 0)) ∧ (∀ B, B ≤ b9 → Below B W1 W) ∧ ∀ i, i ≠ b9 → W.heap[i]? = W1.heap[i]?) W → Q .normal (putZ a by4.ns 0 xs) W) :
    (Code.region id (opsOf Tryd.f52 4) true).wp Tryd.prog Q a w := by
  refine region_pred (T := by4.T) 13 (fun l W => LastI 13 12 w (fun W => ∃ W1 v, Below w.heap.size w W1 ∧ SsR B (pathL (p.f5 ++ p.f6) t.f0 u.f1) v W ∧ W.heap[b9]? = some (Obj.cells #[vd, n, v, v3] 33 (0, 0)) ∧ (∀ B, B ≤ b9 → Below B W1 W) ∧ ∀ i, i ≠ b9 → W.heap[i]? = W1.heap[i]?) l W) (by4.V B p t u C0 ad c9 i b4 b5 b9) hm (by kernel_rfl) by4.tab (by kernel_rfl) (by kernel_rfl) (.start (below_drew (Below.refl _ _))) (fun hl h => h.same (by decide) hl) ?hsteps ?hd
  case hd => exact fun xs W hI hV => hdone xs W (hI.s rfl) 
  case hsteps =>
    have hsz : ∀ t, t < 40 → t < a.tmps.size := fun t ht => by rw [hs]; exact ht
    refine ⟨?_, ?_, ?_, ?_, ?_, ?_, ?_, ?_, ?_, ?_, ?_, ?_, ?_, trivial⟩
    · refine step_op (Op.load 28 (.tmp 4)) (some 15) [] by4.ns (by kernel_rfl) rfl (by kernel_rfl) (fun o ho hd hw l xs W hF hl hn K hK => ?_)
      have hBB := hF.1.below hl (by decide)
      have e1 := eval_o (xs := xs) (ns := by4.ns) h4
      exact load_c (hw _) hd ho b4 e1 (blk_below hb4 hBB) Tryd.underlying28 rfl (pol_size kp) (hK.out _ _ (hF.now (hF.1.up hl (by decide) (by decide) (Below.refl _ _)) (rfl)))
    · refine step_op (Op.call { callee := .value (.func 54), args := #[.tmp 15], argTypes := #[28] }) (some 16) [0] by4.ns (by kernel_rfl) rfl (by kernel_rfl) (fun o ho hd hw l xs W hF hl hn K hK => ?_)
      have hBB := hF.1.below hl (by decide)
      have e0 : (putZ a by4.ns 0 xs).eval (.tmp 15) = .agg C0 := (eval_z 0 (hsz 15 (by decide))).trans (hF.get 0 hn.1)
      refine goes_ Tryd.func54 (by kernel_rfl) rfl #[.agg C0] (hw _) hd ho (by simp only [List.map_toArray, List.map_cons, List.map_nil, e0]) ?_
      refine (whos_r p C0 B W (Nat.le_trans hBw hBB.size) (k28.K_below hBB kp) hnn).mono ?_
      rintro e W' ⟨v, rfl, hv, hb⟩
      exact ⟨_, rfl, hK.out _ _ (hF.up (hF.1.up hl (by decide) (by decide) hb) (fun j v _ _ h => by4.mono j h hb) (hv))⟩
    · refine step_op (Op.fieldAddr 30 (.tmp 5) 0) (some 17) [] by4.ns (by kernel_rfl) rfl (by kernel_rfl) (fun o ho hd hw l xs W hF hl hn K hK => ?_)
      have hBB := hF.1.below hl (by decide)
      have e1 := eval_o (xs := xs) (ns := by4.ns) h5
      exact value_ (v := .pointer (some ⟨b5, 0, none⟩)) (hw _) hd (w1 := W) (by simp only [execOp, ho, e1]; go_simp) (hK.out _ _ (hF.now (hF.1.up hl (by decide) (by decide) (Below.refl _ _)) rfl))
    · refine step_op (Op.load 9 (.tmp 17)) (some 18) [2] by4.ns (by kernel_rfl) rfl (by kernel_rfl) (fun o ho hd hw l xs W hF hl hn K hK => ?_)
      have hBB := hF.1.below hl (by decide)
      have e0 : (putZ a by4.ns 0 xs).eval (.tmp 17) = .pointer (some ⟨b5, 0, none⟩) := (eval_z 2 (hsz 17 (by decide))).trans (hF.get 2 hn.1)
      have q0 := (blk_cell (blk_below hb5 hBB) 0).trans (Eq.refl (some (Value.string t.f0)))
      exact value_ (v := .string t.f0) (hw _) hd (w1 := W) (by simp only [Act.eval, Array.getD_eq_getD_getElem?] at e0; simp only [execOp, ho]; go_simp) (hK.out _ _ (hF.now (hF.1.up hl (by decide) (by decide) (Below.refl _ _)) rfl))
    · refine step_op (Op.fieldAddr 28 (.tmp 4) 9) (some 19) [] by4.ns (by kernel_rfl) rfl (by kernel_rfl) (fun o ho hd hw l xs W hF hl hn K hK => ?_)
      have hBB := hF.1.below hl (by decide)
      have e1 := eval_o (xs := xs) (ns := by4.ns) h4
      exact value_ (v := .pointer (some ⟨b4, 9, none⟩)) (hw _) hd (w1 := W) (by simp only [execOp, ho, e1]; go_simp) (hK.out _ _ (hF.now (hF.1.up hl (by decide) (by decide) (Below.refl _ _)) rfl))
    · refine step_op (Op.load 25 (.tmp 19)) (some 20) [4] by4.ns (by kernel_rfl) rfl (by kernel_rfl) (fun o ho hd hw l xs W hF hl hn K hK => ?_)
      have hBB := hF.1.below hl (by decide)
      have e0 : (putZ a by4.ns 0 xs).eval (.tmp 19) = .pointer (some ⟨b4, 9, none⟩) := (eval_z 4 (hsz 19 (by decide))).trans (hF.get 4 hn.1)
      have q0 := (blk_cell (blk_below hb4 hBB) 9).trans hc9
      exact value_ (v := .slice (some ad) p.f9.length c9) (hw _) hd (w1 := W) (by simp only [Act.eval, Array.getD_eq_getD_getElem?] at e0; simp only [execOp, ho]; go_simp) (hK.out _ _ (hF.now (hF.1.up hl (by decide) (by decide) (Below.refl _ _)) rfl))
    · refine step_op (Op.move (.tmp 2)) (some 21) [] by4.ns (by kernel_rfl) rfl (by kernel_rfl) (fun o ho hd hw l xs W hF hl hn K hK => ?_)
      have hBB := hF.1.below hl (by decide)
      have e1 := eval_o (xs := xs) (ns := by4.ns) h2
      exact value_ (v := .int .i64 (i : Nat)) (hw _) hd (w1 := W) (by simp only [execOp, ho, e1]; go_simp) (hK.out _ _ (hF.now (hF.1.up hl (by decide) (by decide) (Below.refl _ _)) (rfl)))
    · refine step_op (Op.indexAddr 25 (.tmp 20) (.tmp 21)) (some 22) [5, 6] by4.ns (by kernel_rfl) rfl (by kernel_rfl) (fun o ho hd hw l xs W hF hl hn K hK => ?_)
      have hBB := hF.1.below hl (by decide)
      have e0 : (putZ a by4.ns 0 xs).eval (.tmp 20) = .slice (some ad) p.f9.length c9 := (eval_z 5 (hsz 20 (by decide))).trans (hF.get 5 hn.1)
      have e1 : (putZ a by4.ns 0 xs).eval (.tmp 21) = .int .i64 (i : Nat) := (eval_z 6 (hsz 21 (by decide))).trans (hF.get 6 hn.2.1)
      exact value_ (v := .pointer (some (ad.add (i * 6)))) (hw _) hd (w1 := W) (by simp only [Act.eval, Array.getD_eq_getD_getElem?] at e0 e1; simp only [execOp, ho]; go_simp) (hK.out _ _ (hF.now (hF.1.up hl (by decide) (by decide) (Below.refl _ _)) rfl))
    · refine step_op (Op.fieldAddr 48 (.tmp 22) 1) (some 23) [7] by4.ns (by kernel_rfl) rfl (by kernel_rfl) (fun o ho hd hw l xs W hF hl hn K hK => ?_)
      have hBB := hF.1.below hl (by decide)
      have e1 : (putZ a by4.ns 0 xs).eval (.tmp 22) = .pointer (some (ad.add (i * 6))) := (eval_z 7 (hsz 22 (by decide))).trans (hF.get 7 hn.1)
      exact value_ (v := .pointer (some ⟨(ad.add (i * 6)).block, (ad.add (i * 6)).off + 1, none⟩)) (hw _) hd (w1 := W) (by simp only [Act.eval, Array.getD_eq_getD_getElem?] at e1; simp only [execOp, ho]; go_simp) (hK.out _ _ (hF.now (hF.1.up hl (by decide) (by decide) (Below.refl _ _)) rfl))
    · refine step_op (Op.load 9 (.tmp 23)) (some 24) [8] by4.ns (by kernel_rfl) rfl (by kernel_rfl) (fun o ho hd hw l xs W hF hl hn K hK => ?_)
      have hBB := hF.1.below hl (by decide)
      have e0 : (putZ a by4.ns 0 xs).eval (.tmp 23) = .pointer (some ⟨(ad.add (i * 6)).block, (ad.add (i * 6)).off + 1, none⟩) := (eval_z 8 (hsz 23 (by decide))).trans (hF.get 8 hn.1)
      have q0 := hu W hBB
      exact value_ (v := .string u.f1) (hw _) hd (w1 := W) (by simp only [Act.eval, Array.getD_eq_getD_getElem?] at e0; simp only [execOp, ho]; go_simp) (hK.out _ _ (hF.now (hF.1.up hl (by decide) (by decide) (Below.refl _ _)) rfl))
    · refine step_op (Op.call { callee := .value (.func 80), args := #[.tmp 16, .tmp 18, .tmp 24], argTypes := #[24, 9, 9] }) (some 25) [1, 3, 9, 1] by4.ns (by kernel_rfl) rfl (by kernel_rfl) (fun o ho hd hw l xs W hF hl hn K hK => ?_)
      have hBB := hF.1.below hl (by decide)
      have r_e0 := hF.get 1 hn.1
      obtain ⟨A_e0, c_e0, e_e0, l_e0, k_e0⟩ := PaR.open r_e0
      have e0 : (putZ a by4.ns 0 xs).eval (.tmp 16) = .slice A_e0 (p.f5 ++ p.f6).length c_e0 := (eval_z 1 (hsz 16 (by decide))).trans e_e0
      have e1 : (putZ a by4.ns 0 xs).eval (.tmp 18) = .string t.f0 := (eval_z 3 (hsz 18 (by decide))).trans (hF.get 3 hn.2.1)
      have e2 : (putZ a by4.ns 0 xs).eval (.tmp 24) = .string u.f1 := (eval_z 9 (hsz 24 (by decide))).trans (hF.get 9 hn.2.2.1)
      refine goes_ Tryd.func80 (by kernel_rfl) rfl #[.slice A_e0 (p.f5 ++ p.f6).length c_e0, .string t.f0, .string u.f1] (hw _) hd ho (by simp only [List.map_toArray, List.map_cons, List.map_nil, e0, e1, e2]) ?_
      refine (path_r (p.f5 ++ p.f6) A_e0 c_e0 B t.f0 u.f1 W (Nat.le_trans hBw hBB.size) l_e0 k_e0 hnp).mono ?_
      rintro e W' ⟨v, rfl, hv, hb⟩
      exact ⟨_, rfl, hK.out _ _ (hF.up (hF.1.up hl (by decide) (by decide) hb) (fun j v _ _ h => by4.mono j h hb) (hv))⟩
    · refine step_op (Op.fieldAddr 33 (.tmp 9) 2) (some 26) [0, 1, 2, 3, 4, 5, 6, 7, 8, 9, 10] by4.ns (by kernel_rfl) rfl (by kernel_rfl) (fun o ho hd hw l xs W hF hl hn K hK => ?_)
      have hBB := hF.1.below hl (by decide)
      have e1 := eval_o (xs := xs) (ns := by4.ns) h9
      exact value_ (v := .pointer (some ⟨b9, 2, none⟩)) (hw _) hd (w1 := W) (by simp only [execOp, ho, e1]; go_simp) (hK.out _ _ (hF.now (hF.1.up hl (by decide) (by decide) (Below.refl _ _)) rfl))
    · refine step_op (Op.store 22 (.tmp 26) (.tmp 25)) (none) [11, 10, 10, 0, 1, 2, 3, 4, 5, 6, 7, 8, 9, 10] by4.ns (by kernel_rfl) rfl (by kernel_rfl) (fun o ho hd hw l xs W hF hl hn K hK => ?_)
      have hBB := hF.1.below hl (by decide)
      have e1 : (putZ a by4.ns 0 xs).eval (.tmp 26) = .pointer (some ⟨b9, 2, none⟩) := (eval_z 11 (hsz 26 (by decide))).trans (hF.get 11 hn.1)
      have r_e2 := hF.get 10 hn.2.1
      obtain ⟨A_e2, c_e2, e_e2, l_e2, k_e2⟩ := SsR.open r_e2
      have e2 : (putZ a by4.ns 0 xs).eval (.tmp 25) = .slice A_e2 (pathL (p.f5 ++ p.f6) t.f0 u.f1).length c_e2 := (eval_z 10 (hsz 25 (by decide))).trans e_e2
      have hK2 : ∀ v w1, PF _ _ _ (upd l 12 true) (upd xs 12 v) w1 → K (putZ a by4.ns 0 xs) w1 := fun v w1 h => by
        have h2 := hK.out v w1 h
        rw [put_none] at h2
        exact h2
      clear hK
      rw [show (none : Option Tmp) = o.dst from hd.symm]
      refine fstore_step (hw _) ho hd b9 2 _ #[.slice A_e2 (pathL (p.f5 ++ p.f6) t.f0 u.f1).length c_e2] #[vd, n, .slice A_e2 (pathL (p.f5 ++ p.f6) t.f0 u.f1).length c_e2, v3] (.slice A_e2 (pathL (p.f5 ++ p.f6) t.f0 u.f1).length c_e2) e1 e2 rfl (blk_below hb9 hBB) (by kernel_rfl) (by simp) (by simp [Value.oneCell']) (by simp) (fun w1 hw1 ho2 hsw hbel => ?_)
      have hall : ∀ j, j < 13 → j ≠ 12 → l j = true := by
        intro j hj hne
        have hc : j = 0 ∨ j = 1 ∨ j = 2 ∨ j = 3 ∨ j = 4 ∨ j = 5 ∨ j = 6 ∨ j = 7 ∨ j = 8 ∨ j = 9 ∨ j = 10 ∨ j = 11 := by omega
        rcases hc with rfl | rfl | rfl | rfl | rfl | rfl | rfl | rfl | rfl | rfl | rfl | rfl
        · exact hn.2.2.2.1
        · exact hn.2.2.2.2.1
        · exact hn.2.2.2.2.2.1
        · exact hn.2.2.2.2.2.2.1
        · exact hn.2.2.2.2.2.2.2.1
        · exact hn.2.2.2.2.2.2.2.2.1
        · exact hn.2.2.2.2.2.2.2.2.2.1
        · exact hn.2.2.2.2.2.2.2.2.2.2.1
        · exact hn.2.2.2.2.2.2.2.2.2.2.2.1
        · exact hn.2.2.2.2.2.2.2.2.2.2.2.2.1
        · exact hn.2.1
        · exact hn.1
      refine hK2 undef w1 (PF.up hF (LastI.store hall ⟨W, _, hBB, (by have r2 := SsR.away r_e2 hbB ho2; rw [e_e2] at r2; exact r2), hw1, hbel, ho2⟩) (fun j v _ _ h => ?_) trivial)
      exact by4.away hbB ho2 j h
abbrev by5.ns : List (Option Tmp) := [some 27, some 28, some 29, some 30, some 31, some 32, some 33, some 34, some 35, some 36, some 37, some 38, none]
def by5.T : Bool × List (List Nat × List Nat) := (true, [([], []), ([0], [0]), ([], []), ([2], [2]), ([], []), ([4], [4]), ([], []), ([5, 6], [5, 6]), ([7], [7]), ([8], [8]), ([1, 3, 9, 1], [1, 3, 9]), ([0, 1, 2, 3, 4, 5, 6, 7, 8, 9, 10], []), ([11, 10, 10, 0, 1, 2, 3, 4, 5, 6, 7, 8, 9, 10], [10, 11])])
theorem by5.tab : rtab .any (opsOf Tryd.f52 5) = by5.T := by kernel_rfl
def by5.V (B : Nat) (p : Pol) (t : Tri) (u : Rule) (C0 : Array Value) (ad : Addr) (c9 i b4 b5 b9 : Nat) : Nat → Value → World → Prop
  | 0 => IsV (.agg C0)
  | 1 => PaR B (p.f7 ++ p.f8)
  | 2 => IsV (.pointer (some ⟨b5, 1, none⟩))
  | 3 => IsV (.string t.f1)
  | 4 => IsV (.pointer (some ⟨b4, 9, none⟩))
  | 5 => IsV (.slice (some ad) p.f9.length c9)
  | 6 => IsV (.int .i64 (i : Nat))
  | 7 => IsV (.pointer (some (ad.add (i * 6))))
  | 8 => IsV (.pointer (some ⟨(ad.add (i * 6)).block, (ad.add (i * 6)).off + 2, none⟩))
  | 9 => IsV (.string u.f2)
  | 10 => SsR B (pathL (p.f7 ++ p.f8) t.f1 u.f2)
  | 11 => IsV (.pointer (some ⟨b9, 3, none⟩))
  | 12 => fun _ _ => True
  | _ => fun _ _ => True
theorem by5.mono {B : Nat} {p : Pol} {t : Tri} {u : Rule} {C0 : Array Value} {ad : Addr} {c9 i b4 b5 b9 : Nat} : ∀ (j_ : Nat) {v : Value} {W W' : World}, by5.V B p t u C0 ad c9 i b4 b5 b9 j_ v W → Below W.heap.size W W' → by5.V B p t u C0 ad c9 i b4 b5 b9 j_ v W'
  | 0, _, _, _, h, hb => h
  | 1, _, _, _, h, hb => PaR.mono h hb
  | 2, _, _, _, h, hb => h
  | 3, _, _, _, h, hb => h
  | 4, _, _, _, h, hb => h
  | 5, _, _, _, h, hb => h
  | 6, _, _, _, h, hb => h
  | 7, _, _, _, h, hb => h
  | 8, _, _, _, h, hb => h
  | 9, _, _, _, h, hb => h
  | 10, _, _, _, h, hb => SsR.mono h hb
  | 11, _, _, _, h, hb => h
  | 12, _, _, _, h, hb => trivial
  | n + 13, _, _, _, _, _ => trivial
theorem by5.away {B : Nat} {p : Pol} {t : Tri} {u : Rule} {C0 : Array Value} {ad : Addr} {c9 i b4 b5 b9 : Nat} {b : Nat} {W W' : World} (hb : b < B) (ho : ∀ i, i ≠ b → W'.heap[i]? = W.heap[i]?) : ∀ (j_ : Nat) {v : Value}, by5.V B p t u C0 ad c9 i b4 b5 b9 j_ v W → by5.V B p t u C0 ad c9 i b4 b5 b9 j_ v W'
  | 0, _, h => h
  | 1, _, h => PaR.away h hb ho
  | 2, _, h => h
  | 3, _, h => h
  | 4, _, h => h
  | 5, _, h => h
  | 6, _, h => h
  | 7, _, h => h
  | 8, _, h => h
  | 9, _, h => h
  | 10, _, h => SsR.away h hb ho
  | 11, _, h => h
  | 12, _, h => trivial
  | n + 13, _, _ => trivial
set_option maxRecDepth 100000 in
set_option maxHeartbeats 2000000 in
theorem by5.region {Q : Exit → Act → World → Prop} {id : Nat} {a : Act} {w : World} (B : Nat) (p : Pol) (t : Tri) (u : Rule) (C0 : Array Value) (ad : Addr) (c9 i b4 b5 b9 : Nat) {vd n v2 v3 : Value} (kp : k28.K w p C0.toList) (hnn : p.f7.length + p.f8.length ≤ 16777215) (hnp : (p.f7 ++ p.f8).length ≤ 4194304) (hBw : B ≤ w.heap.size) (hbB : b9 < B) (hc9 : C0[9]? = some (.slice (some ad) p.f9.length c9)) (i0 : (0 : Int) ≤ (i : Int)) (i1 : (i : Int) < (p.f9.length : Int)) (hu : ∀ W, Below w.heap.size w W → W.cell? ⟨(ad.add (i * 6)).block, (ad.add (i * 6)).off + 2, none⟩ = some (.string u.f2)) (hm : Tryd.prog.follows .mixedOrders = true) (hs : a.tmps.size = 40) (h4 : a.eval (.tmp 4) = .pointer (some ⟨b4, 0, none⟩)) (hb4 : w.heap[b4]? = some (Obj.cells C0 28 (0, 0)))  (h5 : a.eval (.tmp 5) = .pointer (some ⟨b5, 0, none⟩)) (hb5 : w.heap[b5]? = some (Obj.cells #[.string t.f0, .string t.f1, .string t.f2] 30 (0, 0)))  (h9 : a.eval (.tmp 9) = .pointer (some ⟨b9, 0, none⟩)) (hb9 : w.heap[b9]? = some (Obj.cells #[vd, n, v2, v3] 33 (0, 0)))  (h2 : a.eval (.tmp 2) = .int .i64 (i : Nat))
    (hdone : ∀ (xs : Nat → Value) (W : World), (fun W => ∃ W1 v, Below w.heap.size w W1 ∧ SsR B (pathL (p.f7 ++ p.f8) t.f1 u.f2) v W ∧ W.heap[b9]? = some (Obj.cells #[vd, n, v2, v] 33 (0, 0)) ∧ (∀ B, B ≤ b9 → Below B W1 W) ∧ ∀ i, i ≠ b9 → W.heap[i]? = W1.heap[i]?) W → Q .normal (putZ a by5.ns 0 xs) W) :
    (Code.region id (opsOf Tryd.f52 5) true).wp Tryd.prog Q a w := by
  refine region_pred (T := by5.T) 13 (fun l W => LastI 13 12 w (fun W => ∃ W1 v, Below w.heap.size w W1 ∧ SsR B (pathL (p.f7 ++ p.f8) t.f1 u.f2) v W ∧ W.heap[b9]? = some (Obj.cells #[vd, n, v2, v] 33 (0, 0)) ∧ (∀ B, B ≤ b9 → Below B W1 W) ∧ ∀ i, i ≠ b9 → W.heap[i]? = W1.heap[i]?) l W) (by5.V B p t u C0 ad c9 i b4 b5 b9) hm (by kernel_rfl) by5.tab (by kernel_rfl) (by kernel_rfl) (.start (below_drew (Below.refl _ _))) (fun hl h => h.same (by decide) hl) ?hsteps ?hd
  case hd => exact fun xs W hI hV => hdone xs W (hI.s rfl) 
  case hsteps =>
    have hsz : ∀ t, t < 40 → t < a.tmps.size := fun t ht => by rw [hs]; exact ht
    refine ⟨?_, ?_, ?_, ?_, ?_, ?_, ?_, ?_, ?_, ?_, ?_, ?_, ?_, trivial⟩
    · refine step_op (Op.load 28 (.tmp 4)) (some 27) [] by5.ns (by kernel_rfl) rfl (by kernel_rfl) (fun o ho hd hw l xs W hF hl hn K hK => ?_)
      have hBB := hF.1.below hl (by decide)
      have e1 := eval_o (xs := xs) (ns := by5.ns) h4
      exact load_c (hw _) hd ho b4 e1 (blk_below hb4 hBB) Tryd.underlying28 rfl (pol_size kp) (hK.out _ _ (hF.now (hF.1.up hl (by decide) (by decide) (Below.refl _ _)) (rfl)))
    · refine step_op (Op.call { callee := .value (.func 55), args := #[.tmp 27], argTypes := #[28] }) (some 28) [0] by5.ns (by kernel_rfl) rfl (by kernel_rfl) (fun o ho hd hw l xs W hF hl hn K hK => ?_)
      have hBB := hF.1.below hl (by decide)
      have e0 : (putZ a by5.ns 0 xs).eval (.tmp 27) = .agg C0 := (eval_z 0 (hsz 27 (by decide))).trans (hF.get 0 hn.1)
      refine goes_ Tryd.func55 (by kernel_rfl) rfl #[.agg C0] (hw _) hd ho (by simp only [List.map_toArray, List.map_cons, List.map_nil, e0]) ?_
      refine (whats_r p C0 B W (Nat.le_trans hBw hBB.size) (k28.K_below hBB kp) hnn).mono ?_
      rintro e W' ⟨v, rfl, hv, hb⟩
      exact ⟨_, rfl, hK.out _ _ (hF.up (hF.1.up hl (by decide) (by decide) hb) (fun j v _ _ h => by5.mono j h hb) (hv))⟩
    · refine step_op (Op.fieldAddr 30 (.tmp 5) 1) (some 29) [] by5.ns (by kernel_rfl) rfl (by kernel_rfl) (fun o ho hd hw l xs W hF hl hn K hK => ?_)
      have hBB := hF.1.below hl (by decide)
      have e1 := eval_o (xs := xs) (ns := by5.ns) h5
      exact value_ (v := .pointer (some ⟨b5, 1, none⟩)) (hw _) hd (w1 := W) (by simp only [execOp, ho, e1]; go_simp) (hK.out _ _ (hF.now (hF.1.up hl (by decide) (by decide) (Below.refl _ _)) rfl))
    · refine step_op (Op.load 9 (.tmp 29)) (some 30) [2] by5.ns (by kernel_rfl) rfl (by kernel_rfl) (fun o ho hd hw l xs W hF hl hn K hK => ?_)
      have hBB := hF.1.below hl (by decide)
      have e0 : (putZ a by5.ns 0 xs).eval (.tmp 29) = .pointer (some ⟨b5, 1, none⟩) := (eval_z 2 (hsz 29 (by decide))).trans (hF.get 2 hn.1)
      have q0 := (blk_cell (blk_below hb5 hBB) 1).trans (Eq.refl (some (Value.string t.f1)))
      exact value_ (v := .string t.f1) (hw _) hd (w1 := W) (by simp only [Act.eval, Array.getD_eq_getD_getElem?] at e0; simp only [execOp, ho]; go_simp) (hK.out _ _ (hF.now (hF.1.up hl (by decide) (by decide) (Below.refl _ _)) rfl))
    · refine step_op (Op.fieldAddr 28 (.tmp 4) 9) (some 31) [] by5.ns (by kernel_rfl) rfl (by kernel_rfl) (fun o ho hd hw l xs W hF hl hn K hK => ?_)
      have hBB := hF.1.below hl (by decide)
      have e1 := eval_o (xs := xs) (ns := by5.ns) h4
      exact value_ (v := .pointer (some ⟨b4, 9, none⟩)) (hw _) hd (w1 := W) (by simp only [execOp, ho, e1]; go_simp) (hK.out _ _ (hF.now (hF.1.up hl (by decide) (by decide) (Below.refl _ _)) rfl))
    · refine step_op (Op.load 25 (.tmp 31)) (some 32) [4] by5.ns (by kernel_rfl) rfl (by kernel_rfl) (fun o ho hd hw l xs W hF hl hn K hK => ?_)
      have hBB := hF.1.below hl (by decide)
      have e0 : (putZ a by5.ns 0 xs).eval (.tmp 31) = .pointer (some ⟨b4, 9, none⟩) := (eval_z 4 (hsz 31 (by decide))).trans (hF.get 4 hn.1)
      have q0 := (blk_cell (blk_below hb4 hBB) 9).trans hc9
      exact value_ (v := .slice (some ad) p.f9.length c9) (hw _) hd (w1 := W) (by simp only [Act.eval, Array.getD_eq_getD_getElem?] at e0; simp only [execOp, ho]; go_simp) (hK.out _ _ (hF.now (hF.1.up hl (by decide) (by decide) (Below.refl _ _)) rfl))
    · refine step_op (Op.move (.tmp 2)) (some 33) [] by5.ns (by kernel_rfl) rfl (by kernel_rfl) (fun o ho hd hw l xs W hF hl hn K hK => ?_)
      have hBB := hF.1.below hl (by decide)
      have e1 := eval_o (xs := xs) (ns := by5.ns) h2
      exact value_ (v := .int .i64 (i : Nat)) (hw _) hd (w1 := W) (by simp only [execOp, ho, e1]; go_simp) (hK.out _ _ (hF.now (hF.1.up hl (by decide) (by decide) (Below.refl _ _)) (rfl)))
    · refine step_op (Op.indexAddr 25 (.tmp 32) (.tmp 33)) (some 34) [5, 6] by5.ns (by kernel_rfl) rfl (by kernel_rfl) (fun o ho hd hw l xs W hF hl hn K hK => ?_)
      have hBB := hF.1.below hl (by decide)
      have e0 : (putZ a by5.ns 0 xs).eval (.tmp 32) = .slice (some ad) p.f9.length c9 := (eval_z 5 (hsz 32 (by decide))).trans (hF.get 5 hn.1)
      have e1 : (putZ a by5.ns 0 xs).eval (.tmp 33) = .int .i64 (i : Nat) := (eval_z 6 (hsz 33 (by decide))).trans (hF.get 6 hn.2.1)
      exact value_ (v := .pointer (some (ad.add (i * 6)))) (hw _) hd (w1 := W) (by simp only [Act.eval, Array.getD_eq_getD_getElem?] at e0 e1; simp only [execOp, ho]; go_simp) (hK.out _ _ (hF.now (hF.1.up hl (by decide) (by decide) (Below.refl _ _)) rfl))
    · refine step_op (Op.fieldAddr 48 (.tmp 34) 2) (some 35) [7] by5.ns (by kernel_rfl) rfl (by kernel_rfl) (fun o ho hd hw l xs W hF hl hn K hK => ?_)
      have hBB := hF.1.below hl (by decide)
      have e1 : (putZ a by5.ns 0 xs).eval (.tmp 34) = .pointer (some (ad.add (i * 6))) := (eval_z 7 (hsz 34 (by decide))).trans (hF.get 7 hn.1)
      exact value_ (v := .pointer (some ⟨(ad.add (i * 6)).block, (ad.add (i * 6)).off + 2, none⟩)) (hw _) hd (w1 := W) (by simp only [Act.eval, Array.getD_eq_getD_getElem?] at e1; simp only [execOp, ho]; go_simp) (hK.out _ _ (hF.now (hF.1.up hl (by decide) (by decide) (Below.refl _ _)) rfl))
    · refine step_op (Op.load 9 (.tmp 35)) (some 36) [8] by5.ns (by kernel_rfl) rfl (by kernel_rfl) (fun o ho hd hw l xs W hF hl hn K hK => ?_)
      have hBB := hF.1.below hl (by decide)
      have e0 : (putZ a by5.ns 0 xs).eval (.tmp 35) = .pointer (some ⟨(ad.add (i * 6)).block, (ad.add (i * 6)).off + 2, none⟩) := (eval_z 8 (hsz 35 (by decide))).trans (hF.get 8 hn.1)
      have q0 := hu W hBB
      exact value_ (v := .string u.f2) (hw _) hd (w1 := W) (by simp only [Act.eval, Array.getD_eq_getD_getElem?] at e0; simp only [execOp, ho]; go_simp) (hK.out _ _ (hF.now (hF.1.up hl (by decide) (by decide) (Below.refl _ _)) rfl))
    · refine step_op (Op.call { callee := .value (.func 80), args := #[.tmp 28, .tmp 30, .tmp 36], argTypes := #[24, 9, 9] }) (some 37) [1, 3, 9, 1] by5.ns (by kernel_rfl) rfl (by kernel_rfl) (fun o ho hd hw l xs W hF hl hn K hK => ?_)
      have hBB := hF.1.below hl (by decide)
      have r_e0 := hF.get 1 hn.1
      obtain ⟨A_e0, c_e0, e_e0, l_e0, k_e0⟩ := PaR.open r_e0
      have e0 : (putZ a by5.ns 0 xs).eval (.tmp 28) = .slice A_e0 (p.f7 ++ p.f8).length c_e0 := (eval_z 1 (hsz 28 (by decide))).trans e_e0
      have e1 : (putZ a by5.ns 0 xs).eval (.tmp 30) = .string t.f1 := (eval_z 3 (hsz 30 (by decide))).trans (hF.get 3 hn.2.1)
      have e2 : (putZ a by5.ns 0 xs).eval (.tmp 36) = .string u.f2 := (eval_z 9 (hsz 36 (by decide))).trans (hF.get 9 hn.2.2.1)
      refine goes_ Tryd.func80 (by kernel_rfl) rfl #[.slice A_e0 (p.f7 ++ p.f8).length c_e0, .string t.f1, .string u.f2] (hw _) hd ho (by simp only [List.map_toArray, List.map_cons, List.map_nil, e0, e1, e2]) ?_
      refine (path_r (p.f7 ++ p.f8) A_e0 c_e0 B t.f1 u.f2 W (Nat.le_trans hBw hBB.size) l_e0 k_e0 hnp).mono ?_
      rintro e W' ⟨v, rfl, hv, hb⟩
      exact ⟨_, rfl, hK.out _ _ (hF.up (hF.1.up hl (by decide) (by decide) hb) (fun j v _ _ h => by5.mono j h hb) (hv))⟩
    · refine step_op (Op.fieldAddr 33 (.tmp 9) 3) (some 38) [0, 1, 2, 3, 4, 5, 6, 7, 8, 9, 10] by5.ns (by kernel_rfl) rfl (by kernel_rfl) (fun o ho hd hw l xs W hF hl hn K hK => ?_)
      have hBB := hF.1.below hl (by decide)
      have e1 := eval_o (xs := xs) (ns := by5.ns) h9
      exact value_ (v := .pointer (some ⟨b9, 3, none⟩)) (hw _) hd (w1 := W) (by simp only [execOp, ho, e1]; go_simp) (hK.out _ _ (hF.now (hF.1.up hl (by decide) (by decide) (Below.refl _ _)) rfl))
    · refine step_op (Op.store 22 (.tmp 38) (.tmp 37)) (none) [11, 10, 10, 0, 1, 2, 3, 4, 5, 6, 7, 8, 9, 10] by5.ns (by kernel_rfl) rfl (by kernel_rfl) (fun o ho hd hw l xs W hF hl hn K hK => ?_)
      have hBB := hF.1.below hl (by decide)
      have e1 : (putZ a by5.ns 0 xs).eval (.tmp 38) = .pointer (some ⟨b9, 3, none⟩) := (eval_z 11 (hsz 38 (by decide))).trans (hF.get 11 hn.1)
      have r_e2 := hF.get 10 hn.2.1
      obtain ⟨A_e2, c_e2, e_e2, l_e2, k_e2⟩ := SsR.open r_e2
      have e2 : (putZ a by5.ns 0 xs).eval (.tmp 37) = .slice A_e2 (pathL (p.f7 ++ p.f8) t.f1 u.f2).length c_e2 := (eval_z 10 (hsz 37 (by decide))).trans e_e2
      have hK2 : ∀ v w1, PF _ _ _ (upd l 12 true) (upd xs 12 v) w1 → K (putZ a by5.ns 0 xs) w1 := fun v w1 h => by
        have h2 := hK.out v w1 h
        rw [put_none] at h2
        exact h2
      clear hK
      rw [show (none : Option Tmp) = o.dst from hd.symm]
      refine fstore_step (hw _) ho hd b9 3 _ #[.slice A_e2 (pathL (p.f7 ++ p.f8) t.f1 u.f2).length c_e2] #[vd, n, v2, .slice A_e2 (pathL (p.f7 ++ p.f8) t.f1 u.f2).length c_e2] (.slice A_e2 (pathL (p.f7 ++ p.f8) t.f1 u.f2).length c_e2) e1 e2 rfl (blk_below hb9 hBB) (by kernel_rfl) (by simp) (by simp [Value.oneCell']) (by simp) (fun w1 hw1 ho2 hsw hbel => ?_)
      have hall : ∀ j, j < 13 → j ≠ 12 → l j = true := by
        intro j hj hne
        have hc : j = 0 ∨ j = 1 ∨ j = 2 ∨ j = 3 ∨ j = 4 ∨ j = 5 ∨ j = 6 ∨ j = 7 ∨ j = 8 ∨ j = 9 ∨ j = 10 ∨ j = 11 := by omega
        rcases hc with rfl | rfl | rfl | rfl | rfl | rfl | rfl | rfl | rfl | rfl | rfl | rfl
        · exact hn.2.2.2.1
        · exact hn.2.2.2.2.1
        · exact hn.2.2.2.2.2.1
        · exact hn.2.2.2.2.2.2.1
        · exact hn.2.2.2.2.2.2.2.1
        · exact hn.2.2.2.2.2.2.2.2.1
        · exact hn.2.2.2.2.2.2.2.2.2.1
        · exact hn.2.2.2.2.2.2.2.2.2.2.1
        · exact hn.2.2.2.2.2.2.2.2.2.2.2.1
        · exact hn.2.2.2.2.2.2.2.2.2.2.2.2.1
        · exact hn.2.1
        · exact hn.1
      refine hK2 undef w1 (PF.up hF (LastI.store hall ⟨W, _, hBB, (by have r2 := SsR.away r_e2 hbB ho2; rw [e_e2] at r2; exact r2), hw1, hbel, ho2⟩) (fun j v _ _ h => ?_) trivial)
      exact by5.away hbB ho2 j h
end Go.Proofs.YteefneemmdfncaaDoor.M
