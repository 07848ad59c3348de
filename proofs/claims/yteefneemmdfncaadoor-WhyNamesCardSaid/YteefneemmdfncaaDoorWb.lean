import Derived.Test.YteefneemmdfncaaDoorWa
import Derived.Test.YteefneemmdfncaaDoorWLi
/- why.there and why.known, walked: are a triple's three names a policy's? Conditions: the policy reads as it must. -/
namespace Go.Proofs.YteefneemmdfncaaDoor.M
open Go.RowKit Go.Proofs.YteefneemmdfncaaDoorW.Raw Go.Proofs.YteefneemmdfncaaDoorW.PrintWords Go.Proofs.YteefneemmdfncaaDoorW.PrintLast Go.Proofs.YteefneemmdfncaaDoorW.PrintAll Go.Proofs.YteefneemmdfncaaDoor.F
set_option linter.unusedVariables false
set_option linter.unusedSimpArgs false
theorem contains_b (l : List ByteArray) (x : ByteArray) (Aa : Option Addr) (c : Nat) (w : World) (hr : Kd.C Kd.string w Aa l.length l) (hc : l.length ≤ c) :
    Calls Tryd.prog 47 #[.slice Aa l.length c, .string x] w fun e w' => e = .returned (.bool (memB l x)) ∧ Below w.heap.size w w' := by
  refine (contains_calls l x Aa c w hr hc).mono ?_
  rintro e w' ⟨rfl, n, rfl⟩
  exact ⟨rfl, pw_below_drewN (Below.refl _ _) n⟩
abbrev th2.ns : List (Option Tmp) := [some 10, some 11, some 12, some 13, some 14, some 15, some 16, some 17, some 18, some 19, some 20, some 21, none]
def th2.T : Bool × List (List Nat × List Nat) := (true, [([], []), ([], []), ([1], [1]), ([], []), ([3], [3]), ([2, 4], [2, 4]), ([], []), ([6], [6]), ([], []), ([8], [8]), ([7, 9, 5], [7, 9]), ([0, 5, 10], [0, 5, 10]), ([11, 10, 0, 1, 2, 3, 4, 5, 6, 7, 8, 9, 10, 11], [11])])
theorem th2.tab : rtab .any (opsOf Tryd.f38 2) = th2.T := by kernel_rfl
def th2.V (p : Pol) (t : Tri) (b : Bool) (A0 : Option Addr) (c0 : Nat) (A1 : Option Addr) (c1 : Nat) (A2 : Option Addr) (c2 : Nat) (A3 : Option Addr) (c3 : Nat) (A4 : Option Addr) (c4 : Nat) (A5 : Option Addr) (c5 : Nat) (A6 : Option Addr) (c6 : Nat) (A7 : Option Addr) (c7 : Nat) (A8 : Option Addr) (c8 : Nat) (A9 : Option Addr) (c9 : Nat) (A10 : Option Addr) (c10 : Nat) (b2 b3 b4 : Nat) : Nat → Value → World → Prop
  | 0 => IsV (.bool b)
  | 1 => IsV (.pointer (some ⟨b2, 3, none⟩))
  | 2 => IsV (.slice A3 p.f3.length c3)
  | 3 => IsV (.pointer (some ⟨b3, 1, none⟩))
  | 4 => IsV (.string t.f1)
  | 5 => IsV (.bool (memB p.f3 t.f1))
  | 6 => IsV (.pointer (some ⟨b2, 0, none⟩))
  | 7 => IsV (.slice A0 p.f0.length c0)
  | 8 => IsV (.pointer (some ⟨b3, 2, none⟩))
  | 9 => IsV (.string t.f2)
  | 10 => IsV (.bool (memB p.f0 t.f2))
  | 11 => IsV (.agg #[.bool b, .bool (memB p.f3 t.f1), .bool (memB p.f0 t.f2)])
  | 12 => fun _ _ => True
  | _ => fun _ _ => True
theorem th2.mono {p : Pol} {t : Tri} {b : Bool} {A0 : Option Addr} {c0 : Nat} {A1 : Option Addr} {c1 : Nat} {A2 : Option Addr} {c2 : Nat} {A3 : Option Addr} {c3 : Nat} {A4 : Option Addr} {c4 : Nat} {A5 : Option Addr} {c5 : Nat} {A6 : Option Addr} {c6 : Nat} {A7 : Option Addr} {c7 : Nat} {A8 : Option Addr} {c8 : Nat} {A9 : Option Addr} {c9 : Nat} {A10 : Option Addr} {c10 : Nat} {b2 b3 b4 : Nat} : ∀ (j_ : Nat) {v : Value} {W W' : World}, th2.V p t b A0 c0 A1 c1 A2 c2 A3 c3 A4 c4 A5 c5 A6 c6 A7 c7 A8 c8 A9 c9 A10 c10 b2 b3 b4 j_ v W → Below W.heap.size W W' → th2.V p t b A0 c0 A1 c1 A2 c2 A3 c3 A4 c4 A5 c5 A6 c6 A7 c7 A8 c8 A9 c9 A10 c10 b2 b3 b4 j_ v W'
  | 0, _, _, _, h, hb => h
  | 1, _, _, _, h, hb => h
  | 2, _, _, _, h, hb => h
  | 3, _, _, _, h, hb => h
  | 4, _, _, _, h, hb => h
  | 5, _, _, _, h, hb => h
  | 6, _, _, _, h, hb => h
  | 7, _, _, _, h, hb => h
  | 8, _, _, _, h, hb => h
  | 9, _, _, _, h, hb => h
  | 10, _, _, _, h, hb => h
  | 11, _, _, _, h, hb => h
  | 12, _, _, _, h, hb => trivial
  | n + 13, _, _, _, _, _ => trivial
theorem th2.any {p : Pol} {t : Tri} {b : Bool} {A0 : Option Addr} {c0 : Nat} {A1 : Option Addr} {c1 : Nat} {A2 : Option Addr} {c2 : Nat} {A3 : Option Addr} {c3 : Nat} {A4 : Option Addr} {c4 : Nat} {A5 : Option Addr} {c5 : Nat} {A6 : Option Addr} {c6 : Nat} {A7 : Option Addr} {c7 : Nat} {A8 : Option Addr} {c8 : Nat} {A9 : Option Addr} {c9 : Nat} {A10 : Option Addr} {c10 : Nat} {b2 b3 b4 : Nat} : ∀ (j_ : Nat) {v : Value} {W W' : World}, th2.V p t b A0 c0 A1 c1 A2 c2 A3 c3 A4 c4 A5 c5 A6 c6 A7 c7 A8 c8 A9 c9 A10 c10 b2 b3 b4 j_ v W → th2.V p t b A0 c0 A1 c1 A2 c2 A3 c3 A4 c4 A5 c5 A6 c6 A7 c7 A8 c8 A9 c9 A10 c10 b2 b3 b4 j_ v W'
  | 0, _, _, _, h => h
  | 1, _, _, _, h => h
  | 2, _, _, _, h => h
  | 3, _, _, _, h => h
  | 4, _, _, _, h => h
  | 5, _, _, _, h => h
  | 6, _, _, _, h => h
  | 7, _, _, _, h => h
  | 8, _, _, _, h => h
  | 9, _, _, _, h => h
  | 10, _, _, _, h => h
  | 11, _, _, _, h => h
  | 12, _, _, _, h => trivial
  | n + 13, _, _, _, _ => trivial
set_option maxRecDepth 100000 in
set_option maxHeartbeats 2000000 in
theorem th2.region {Q : Exit → Act → World → Prop} {id : Nat} {a : Act} {w : World} (p : Pol) (t : Tri) (b : Bool) (A0 : Option Addr) (c0 : Nat) (A1 : Option Addr) (c1 : Nat) (A2 : Option Addr) (c2 : Nat) (A3 : Option Addr) (c3 : Nat) (A4 : Option Addr) (c4 : Nat) (A5 : Option Addr) (c5 : Nat) (A6 : Option Addr) (c6 : Nat) (A7 : Option Addr) (c7 : Nat) (A8 : Option Addr) (c8 : Nat) (A9 : Option Addr) (c9 : Nat) (A10 : Option Addr) (c10 : Nat) (b2 b3 b4 : Nat) (g3 : Kd.C Kd.string w A3 p.f3.length p.f3) (l3 : p.f3.length ≤ c3) (g0 : Kd.C Kd.string w A0 p.f0.length p.f0) (l0 : p.f0.length ≤ c0) (hm : Tryd.prog.follows .mixedOrders = true) (hs : a.tmps.size = 22) (h2 : a.eval (.tmp 2) = .pointer (some ⟨b2, 0, none⟩)) (hb2 : w.heap[b2]? = some (Obj.cells #[.slice A0 p.f0.length c0, .slice A1 p.f1.length c1, .slice A2 p.f2.length c2, .slice A3 p.f3.length c3, .slice A4 p.f4.length c4, .slice A5 p.f5.length c5, .slice A6 p.f6.length c6, .slice A7 p.f7.length c7, .slice A8 p.f8.length c8, .slice A9 p.f9.length c9, .slice A10 p.f10.length c10] 28 (0, 0)))  (h3 : a.eval (.tmp 3) = .pointer (some ⟨b3, 0, none⟩)) (hb3 : w.heap[b3]? = some (Obj.cells #[.string t.f0, .string t.f1, .string t.f2] 30 (0, 0)))  (h4 : a.eval (.tmp 4) = .pointer (some ⟨b4, 0, none⟩)) (hb4 : w.heap[b4]? = some (Obj.cells #[.bool false, .bool false, .bool false] 63 (0, 0)))  (h5 : a.eval (.tmp 5) = .bool b)
    (hdone : ∀ (xs : Nat → Value) (W : World), (fun W => ∃ W1, Below w.heap.size w W1 ∧ W.heap[b4]? = some (Obj.cells #[.bool b, .bool (memB p.f3 t.f1), .bool (memB p.f0 t.f2)] 63 (0, 0)) ∧ ∀ B, B ≤ b4 → Below B W1 W) W → Q .normal (putZ a th2.ns 0 xs) W) :
    (Code.region id (opsOf Tryd.f38 2) true).wp Tryd.prog Q a w := by
  refine region_pred (T := th2.T) 13 (fun l W => LastI 13 12 w (fun W => ∃ W1, Below w.heap.size w W1 ∧ W.heap[b4]? = some (Obj.cells #[.bool b, .bool (memB p.f3 t.f1), .bool (memB p.f0 t.f2)] 63 (0, 0)) ∧ ∀ B, B ≤ b4 → Below B W1 W) l W) (th2.V p t b A0 c0 A1 c1 A2 c2 A3 c3 A4 c4 A5 c5 A6 c6 A7 c7 A8 c8 A9 c9 A10 c10 b2 b3 b4) hm (by kernel_rfl) th2.tab (by kernel_rfl) (by kernel_rfl) (.start (below_drew (Below.refl _ _))) (fun hl h => h.same (by decide) hl) ?hsteps ?hd
  case hd => exact fun xs W hI hV => hdone xs W (hI.s rfl) 
  case hsteps =>
    have hsz : ∀ t, t < 22 → t < a.tmps.size := fun t ht => by rw [hs]; exact ht
    refine ⟨?_, ?_, ?_, ?_, ?_, ?_, ?_, ?_, ?_, ?_, ?_, ?_, ?_, trivial⟩
    · refine step_op (Op.move (.tmp 5)) (some 10) [] th2.ns (by kernel_rfl) rfl (by kernel_rfl) (fun o ho hd hw l xs W hF hl hn K hK => ?_)
      have hBB := hF.1.below hl (by decide)
      have e1 := eval_o (xs := xs) (ns := th2.ns) h5
      exact value_ (v := .bool b) (hw _) hd (w1 := W) (by simp only [execOp, ho, e1]; go_simp) (hK.out _ _ (hF.now (hF.1.up hl (by decide) (by decide) (Below.refl _ _)) (rfl)))
    · refine step_op (Op.fieldAddr 28 (.tmp 2) 3) (some 11) [] th2.ns (by kernel_rfl) rfl (by kernel_rfl) (fun o ho hd hw l xs W hF hl hn K hK => ?_)
      have hBB := hF.1.below hl (by decide)
      have e1 := eval_o (xs := xs) (ns := th2.ns) h2
      exact value_ (v := .pointer (some ⟨b2, 3, none⟩)) (hw _) hd (w1 := W) (by simp only [execOp, ho, e1]; go_simp) (hK.out _ _ (hF.now (hF.1.up hl (by decide) (by decide) (Below.refl _ _)) rfl))
    · refine step_op (Op.load 22 (.tmp 11)) (some 12) [1] th2.ns (by kernel_rfl) rfl (by kernel_rfl) (fun o ho hd hw l xs W hF hl hn K hK => ?_)
      have hBB := hF.1.below hl (by decide)
      have e0 : (putZ a th2.ns 0 xs).eval (.tmp 11) = .pointer (some ⟨b2, 3, none⟩) := (eval_z 1 (hsz 11 (by decide))).trans (hF.get 1 hn.1)
      have q0 := (blk_cell (blk_below hb2 hBB) 3).trans (Eq.refl (some (Value.slice A3 p.f3.length c3)))
      exact value_ (v := .slice A3 p.f3.length c3) (hw _) hd (w1 := W) (by simp only [Act.eval, Array.getD_eq_getD_getElem?] at e0; simp only [execOp, ho]; go_simp) (hK.out _ _ (hF.now (hF.1.up hl (by decide) (by decide) (Below.refl _ _)) rfl))
    · refine step_op (Op.fieldAddr 30 (.tmp 3) 1) (some 13) [] th2.ns (by kernel_rfl) rfl (by kernel_rfl) (fun o ho hd hw l xs W hF hl hn K hK => ?_)
      have hBB := hF.1.below hl (by decide)
      have e1 := eval_o (xs := xs) (ns := th2.ns) h3
      exact value_ (v := .pointer (some ⟨b3, 1, none⟩)) (hw _) hd (w1 := W) (by simp only [execOp, ho, e1]; go_simp) (hK.out _ _ (hF.now (hF.1.up hl (by decide) (by decide) (Below.refl _ _)) rfl))
    · refine step_op (Op.load 9 (.tmp 13)) (some 14) [3] th2.ns (by kernel_rfl) rfl (by kernel_rfl) (fun o ho hd hw l xs W hF hl hn K hK => ?_)
      have hBB := hF.1.below hl (by decide)
      have e0 : (putZ a th2.ns 0 xs).eval (.tmp 13) = .pointer (some ⟨b3, 1, none⟩) := (eval_z 3 (hsz 13 (by decide))).trans (hF.get 3 hn.1)
      have q0 := (blk_cell (blk_below hb3 hBB) 1).trans (Eq.refl (some (Value.string t.f1)))
      exact value_ (v := .string t.f1) (hw _) hd (w1 := W) (by simp only [Act.eval, Array.getD_eq_getD_getElem?] at e0; simp only [execOp, ho]; go_simp) (hK.out _ _ (hF.now (hF.1.up hl (by decide) (by decide) (Below.refl _ _)) rfl))
    · refine step_op (Op.call { callee := .value (.func 47), args := #[.tmp 12, .tmp 14], argTypes := #[22, 9] }) (some 15) [2, 4] th2.ns (by kernel_rfl) rfl (by kernel_rfl) (fun o ho hd hw l xs W hF hl hn K hK => ?_)
      have hBB := hF.1.below hl (by decide)
      have e0 : (putZ a th2.ns 0 xs).eval (.tmp 12) = .slice A3 p.f3.length c3 := (eval_z 2 (hsz 12 (by decide))).trans (hF.get 2 hn.1)
      have e1 : (putZ a th2.ns 0 xs).eval (.tmp 14) = .string t.f1 := (eval_z 4 (hsz 14 (by decide))).trans (hF.get 4 hn.2.1)
      refine goes_ Tryd.func47 (by kernel_rfl) rfl #[.slice A3 p.f3.length c3, .string t.f1] (hw _) hd ho (by simp only [List.map_toArray, List.map_cons, List.map_nil, e0, e1]) ?_
      refine (contains_b p.f3 t.f1 A3 c3 W (Kd.C_below g3 hBB) l3).mono ?_
      rintro e W' ⟨rfl, hb⟩
      exact ⟨_, rfl, hK.out _ _ (hF.up (hF.1.up hl (by decide) (by decide) hb) (fun j v _ _ h => th2.mono j h hb) (rfl))⟩
    · refine step_op (Op.fieldAddr 28 (.tmp 2) 0) (some 16) [] th2.ns (by kernel_rfl) rfl (by kernel_rfl) (fun o ho hd hw l xs W hF hl hn K hK => ?_)
      have hBB := hF.1.below hl (by decide)
      have e1 := eval_o (xs := xs) (ns := th2.ns) h2
      exact value_ (v := .pointer (some ⟨b2, 0, none⟩)) (hw _) hd (w1 := W) (by simp only [execOp, ho, e1]; go_simp) (hK.out _ _ (hF.now (hF.1.up hl (by decide) (by decide) (Below.refl _ _)) rfl))
    · refine step_op (Op.load 22 (.tmp 16)) (some 17) [6] th2.ns (by kernel_rfl) rfl (by kernel_rfl) (fun o ho hd hw l xs W hF hl hn K hK => ?_)
      have hBB := hF.1.below hl (by decide)
      have e0 : (putZ a th2.ns 0 xs).eval (.tmp 16) = .pointer (some ⟨b2, 0, none⟩) := (eval_z 6 (hsz 16 (by decide))).trans (hF.get 6 hn.1)
      have q0 := (blk_cell (blk_below hb2 hBB) 0).trans (Eq.refl (some (Value.slice A0 p.f0.length c0)))
      exact value_ (v := .slice A0 p.f0.length c0) (hw _) hd (w1 := W) (by simp only [Act.eval, Array.getD_eq_getD_getElem?] at e0; simp only [execOp, ho]; go_simp) (hK.out _ _ (hF.now (hF.1.up hl (by decide) (by decide) (Below.refl _ _)) rfl))
    · refine step_op (Op.fieldAddr 30 (.tmp 3) 2) (some 18) [] th2.ns (by kernel_rfl) rfl (by kernel_rfl) (fun o ho hd hw l xs W hF hl hn K hK => ?_)
      have hBB := hF.1.below hl (by decide)
      have e1 := eval_o (xs := xs) (ns := th2.ns) h3
      exact value_ (v := .pointer (some ⟨b3, 2, none⟩)) (hw _) hd (w1 := W) (by simp only [execOp, ho, e1]; go_simp) (hK.out _ _ (hF.now (hF.1.up hl (by decide) (by decide) (Below.refl _ _)) rfl))
    · refine step_op (Op.load 9 (.tmp 18)) (some 19) [8] th2.ns (by kernel_rfl) rfl (by kernel_rfl) (fun o ho hd hw l xs W hF hl hn K hK => ?_)
      have hBB := hF.1.below hl (by decide)
      have e0 : (putZ a th2.ns 0 xs).eval (.tmp 18) = .pointer (some ⟨b3, 2, none⟩) := (eval_z 8 (hsz 18 (by decide))).trans (hF.get 8 hn.1)
      have q0 := (blk_cell (blk_below hb3 hBB) 2).trans (Eq.refl (some (Value.string t.f2)))
      exact value_ (v := .string t.f2) (hw _) hd (w1 := W) (by simp only [Act.eval, Array.getD_eq_getD_getElem?] at e0; simp only [execOp, ho]; go_simp) (hK.out _ _ (hF.now (hF.1.up hl (by decide) (by decide) (Below.refl _ _)) rfl))
    · refine step_op (Op.call { callee := .value (.func 47), args := #[.tmp 17, .tmp 19], argTypes := #[22, 9] }) (some 20) [7, 9, 5] th2.ns (by kernel_rfl) rfl (by kernel_rfl) (fun o ho hd hw l xs W hF hl hn K hK => ?_)
      have hBB := hF.1.below hl (by decide)
      have e0 : (putZ a th2.ns 0 xs).eval (.tmp 17) = .slice A0 p.f0.length c0 := (eval_z 7 (hsz 17 (by decide))).trans (hF.get 7 hn.1)
      have e1 : (putZ a th2.ns 0 xs).eval (.tmp 19) = .string t.f2 := (eval_z 9 (hsz 19 (by decide))).trans (hF.get 9 hn.2.1)
      refine goes_ Tryd.func47 (by kernel_rfl) rfl #[.slice A0 p.f0.length c0, .string t.f2] (hw _) hd ho (by simp only [List.map_toArray, List.map_cons, List.map_nil, e0, e1]) ?_
      refine (contains_b p.f0 t.f2 A0 c0 W (Kd.C_below g0 hBB) l0).mono ?_
      rintro e W' ⟨rfl, hb⟩
      exact ⟨_, rfl, hK.out _ _ (hF.up (hF.1.up hl (by decide) (by decide) hb) (fun j v _ _ h => th2.mono j h hb) (rfl))⟩
    · refine step_op (Op.build 63 #[(0, .tmp 10), (1, .tmp 15), (2, .tmp 20)]) (some 21) [0, 5, 10] th2.ns (by kernel_rfl) rfl (by kernel_rfl) (fun o ho hd hw l xs W hF hl hn K hK => ?_)
      have hBB := hF.1.below hl (by decide)
      have e0 : (putZ a th2.ns 0 xs).eval (.tmp 10) = .bool b := (eval_z 0 (hsz 10 (by decide))).trans (hF.get 0 hn.1)
      have e1 : (putZ a th2.ns 0 xs).eval (.tmp 15) = .bool (memB p.f3 t.f1) := (eval_z 5 (hsz 15 (by decide))).trans (hF.get 5 hn.2.1)
      have e2 : (putZ a th2.ns 0 xs).eval (.tmp 20) = .bool (memB p.f0 t.f2) := (eval_z 10 (hsz 20 (by decide))).trans (hF.get 10 hn.2.2.1)
      exact value_ (v := .agg #[.bool b, .bool (memB p.f3 t.f1), .bool (memB p.f0 t.f2)]) (hw _) hd (w1 := W) (by simp only [Act.eval, Array.getD_eq_getD_getElem?] at e0 e1 e2; simp only [execOp, ho]; go_simp) (hK.out _ _ (hF.now (hF.1.up hl (by decide) (by decide) (Below.refl _ _)) rfl))
    · refine step_op (Op.store 63 (.tmp 4) (.tmp 21)) (none) [11, 10, 0, 1, 2, 3, 4, 5, 6, 7, 8, 9, 10, 11] th2.ns (by kernel_rfl) rfl (by kernel_rfl) (fun o ho hd hw l xs W hF hl hn K hK => ?_)
      have hBB := hF.1.below hl (by decide)
      have e1 := eval_o (xs := xs) (ns := th2.ns) h4
      have e2 : (putZ a th2.ns 0 xs).eval (.tmp 21) = .agg #[.bool b, .bool (memB p.f3 t.f1), .bool (memB p.f0 t.f2)] := (eval_z 11 (hsz 21 (by decide))).trans (hF.get 11 hn.1)
      have hK2 : ∀ v w1, PF _ _ _ (upd l 12 true) (upd xs 12 v) w1 → K (putZ a th2.ns 0 xs) w1 := fun v w1 h => by
        have h2 := hK.out v w1 h
        rw [put_none] at h2
        exact h2
      clear hK
      rw [show (none : Option Tmp) = o.dst from hd.symm]
      refine bstore_step (hw _) ho hd b4 _ #[.bool b, .bool (memB p.f3 t.f1), .bool (memB p.f0 t.f2)] (.agg #[.bool b, .bool (memB p.f3 t.f1), .bool (memB p.f0 t.f2)]) e1 e2 rfl (blk_below hb4 hBB) (by kernel_rfl) rfl (by intro q hq; simp only [List.mem_cons, List.not_mem_nil, or_false] at hq; rcases hq with rfl | rfl | rfl <;> rfl) (fun w1 hw1 ho2 hsw hbel => ?_)
      have hall : ∀ j, j < 13 → j ≠ 12 → l j = true := by
        intro j hj hne
        have hc : j = 0 ∨ j = 1 ∨ j = 2 ∨ j = 3 ∨ j = 4 ∨ j = 5 ∨ j = 6 ∨ j = 7 ∨ j = 8 ∨ j = 9 ∨ j = 10 ∨ j = 11 := by omega
        rcases hc with rfl | rfl | rfl | rfl | rfl | rfl | rfl | rfl | rfl | rfl | rfl | rfl
        · exact hn.2.2.1
        · exact hn.2.2.2.1
        · exact hn.2.2.2.2.1
        · exact hn.2.2.2.2.2.1
        · exact hn.2.2.2.2.2.2.1
        · exact hn.2.2.2.2.2.2.2.1
        · exact hn.2.2.2.2.2.2.2.2.1
        · exact hn.2.2.2.2.2.2.2.2.2.1
        · exact hn.2.2.2.2.2.2.2.2.2.2.1
        · exact hn.2.2.2.2.2.2.2.2.2.2.2.1
        · exact hn.2.1
        · exact hn.1
      refine hK2 undef w1 (PF.up hF (LastI.store hall ⟨W, hBB, hw1, hbel⟩) (fun j v _ _ h => ?_) trivial)
      exact th2.any j h
set_option maxRecDepth 100000 in
set_option maxHeartbeats 4000000 in
theorem there_calls (p : Pol) (C0 : Array Value) (t : Tri) (w : World) (hk : k28.K w p C0.toList) :
    Calls Tryd.prog 38 #[.agg C0, .agg #[.string t.f0, .string t.f1, .string t.f2]] w fun e w' => e = .returned (.agg #[.bool (nameB p.f1 t.f0), .bool (memB p.f3 t.f1), .bool (memB p.f0 t.f2)]) ∧ Below w.heap.size w w' := by
  have HK := Lib.hid hk
  obtain ⟨A0, c0, A1, c1, A2, c2, A3, c3, A4, c4, A5, c5, A6, c6, A7, c7, A8, c8, A9, c9, A10, c10, e_, l0, g0, l1, g1, l2, g2, l3, g3, l4, g4, l5, g5, l6, g6, l7, g7, l8, g8, l9, g9, l10, g10⟩ := k28_open hk
  obtain rfl : C0 = #[.slice A0 p.f0.length c0, .slice A1 p.f1.length c1, .slice A2 p.f2.length c2, .slice A3 p.f3.length c3, .slice A4 p.f4.length c4, .slice A5 p.f5.length c5, .slice A6 p.f6.length c6, .slice A7 p.f7.length c7, .slice A8 p.f8.length c8, .slice A9 p.f9.length c9, .slice A10 p.f10.length c10] := by cases C0; simpa using e_
  clear e_
  have H1 := Lib.hid g1
  have H3 := Lib.hid g3
  have H0 := Lib.hid g0
  have L0 := Lib.hid l0
  have L3 := Lib.hid l3
  clear hk l0 g0 l1 g1 l2 g2 l3 g3 l4 g4 l5 g5 l6 g6 l7 g7 l8 g8 l9 g9 l10 g10
  go_enter Tryd.func38, Tryd.ntmps38
  go_upto_region 2 with (first | ((with_reducible refine gate_dst (N := 2) rfl ?_); refine box_event ?hg (N := 2) ?hd (cs := #[.slice A0 p.f0.length c0, .slice A1 p.f1.length c1, .slice A2 p.f2.length c2, .slice A3 p.f3.length c3, .slice A4 p.f4.length c4, .slice A5 p.f5.length c5, .slice A6 p.f6.length c6, .slice A7 p.f7.length c7, .slice A8 p.f8.length c8, .slice A9 p.f9.length c9, .slice A10 p.f10.length c10]) (t := 28) ?hr ?_; (case hd => rfl); (case hg => rfl); (case hr => first | (go_simp; done) | (go_simp; rfl)); intro b2 hg_ w1 hb2 hB1; clear hg_; have BW1 := Lib.hid hB1; have K2 := Lib.hid hb2; clear hb2 hB1) | ((with_reducible refine gate_dst (N := 3) rfl ?_); refine box_event ?hg (N := 3) ?hd (cs := #[.string t.f0, .string t.f1, .string t.f2]) (t := 30) ?hr ?_; (case hd => rfl); (case hg => rfl); (case hr => first | (go_simp; done) | (go_simp; rfl)); intro b3 hg_ w2 hb3 hB2; clear hg_; have K22 := Lib.hid (blk_below K2.out hB2); have BW2 := Lib.hid (BW1.out.trans (hB2.mono BW1.out.size)); have K3 := Lib.hid hb3; clear hb3 hB2) | ((with_reducible refine gate_dst (N := 4) rfl ?_); refine box_event ?hg (N := 4) ?hd (cs := #[.bool false, .bool false, .bool false]) (t := 63) ?hr ?_; (case hd => rfl); (case hg => rfl); (case hr => first | (go_simp; done) | (go_simp; rfl)); intro b4 hg_ w3 hb4 hB3; have HG4 := Lib.hid (show w.heap.size ≤ b4 by rw [hg_]; exact BW2.out.size); clear hg_; have KP := Lib.hid (blk_below K22.out hB3); have KT := Lib.hid (blk_below K3.out hB3); have BW3 := Lib.hid (BW2.out.trans (hB3.mono BW2.out.size)); have KR := Lib.hid hb4; have q1 := (blk_cell (blk_below K22.out hB3) 1).trans (Eq.refl (some (Value.slice A1 p.f1.length c1))); clear hb4 hB3) | (go_at_call 72; go_must (refine (thereCf_calls p.f1 t b3 A1 c1 _ (Kd.C_below H1.out BW3.out) KT.out).mono ?_); rintro e w4 ⟨rfl, hb⟩; have KP4 := Lib.hid (blk_below KP.out hb); have KT4 := Lib.hid (blk_below KT.out hb); have KR4 := Lib.hid (blk_below KR.out hb); have BW4 := Lib.hid (BW3.out.trans (hb.mono BW3.out.size)); clear hb q1))
  refine th2.region p t (nameB p.f1 t.f0) A0 c0 A1 c1 A2 c2 A3 c3 A4 c4 A5 c5 A6 c6 A7 c7 A8 c8 A9 c9 A10 c10 b2 b3 b4 (Kd.C_below H3.out BW4.out) L3.out (Kd.C_below H0.out BW4.out) L0.out (by kernel_rfl) rfl rfl KP4.out rfl KT4.out rfl KR4.out rfl ?_
  rintro xs W ⟨W1, hB1, hR, hbel⟩
  simp only [putZ, Act.put, List.setIfInBounds_toArray, List.set_cons_zero, List.set_cons_succ, Nat.reduceAdd]
  have hfin := (BW4.out.trans (hB1.mono BW4.out.size)).trans (hbel _ HG4.out)
  have HF := Lib.hid hfin
  have HR := Lib.hid hR
  clear hB1 hbel hfin hR
  go_wp2_with fail
  refine bodyPost_ret (results_cell_row rfl _ _ b4 63 #[.bool (nameB p.f1 t.f0), .bool (memB p.f3 t.f1), .bool (memB p.f0 t.f2)] (0, 0) _ rfl HR.out Tryd.underlying63 rfl (by kernel_rfl)) rfl ?_
  exact ⟨rfl, HF.out⟩
end Go.Proofs.YteefneemmdfncaaDoor.M
