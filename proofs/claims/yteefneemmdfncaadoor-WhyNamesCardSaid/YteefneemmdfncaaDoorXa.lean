import Derived.Test.YteefneemmdfncaaDoorWk
import Derived.Test.YteefneemmdfncaaDoorWh
import Derived.Test.YteefneemmdfncaaDoorWf
/- why.Holds' regions that draw their order. Conditions: each theorem's own. -/
namespace Go.Proofs.YteefneemmdfncaaDoor.M
open Go.RowKit Go.Proofs.YteefneemmdfncaaDoorW.Raw Go.Proofs.YteefneemmdfncaaDoorW.PrintWords Go.Proofs.YteefneemmdfncaaDoorW.PrintLast Go.Proofs.YteefneemmdfncaaDoorW.PrintAll Go.Proofs.YteefneemmdfncaaDoor.F
set_option linter.unusedVariables false
set_option linter.unusedSimpArgs false
attribute [local go_sem high] eqA30
theorem way_b (ps : List Pair) (l : List ByteArray) (a b : ByteArray) (A0 A1 : Option Addr) (c0 c1 : Nat) (w : World) {x : Bool} (hx : wayB ps l a b = x) (hp : ps.length ≤ 4611686018427387903) (hl : l.length ≤ 4611686018427387903) (h0 : ps.length ≤ c0) (g0 : Kd.C k97 w A0 ps.length ps) (h1 : l.length ≤ c1) (g1 : Kd.C Kd.string w A1 l.length l) :
    Calls Tryd.prog 53 #[.slice A0 ps.length c0, .slice A1 l.length c1, .string a, .string b] w fun e w' => e = .returned (.bool x) ∧ Below w.heap.size w w' := by
  rw [← hx]
  exact way_k ps l a b A0 A1 c0 c1 w hp hl h0 g0 h1 g1
/-- A step that is passed over. -/
theorem step_ox {P : Program} {ops : Array Oper} {Q : Exit → Act → World → Prop} {T : List (List Nat × List Nat)} {a : Act} {F : (Nat → Bool) → (Nat → Value) → World → Prop} {i : Nat} (op : Op) (dst : Option Tmp) (g : Nat) (b : Bool) (t : Tmp) (js : List Nat) (ns : List (Option Tmp)) (hx : (ops[i]?).map (fun o => (o.op, o.dst, o.guard)) = some (op, dst, some (g, b))) (hgt : (ops[g]?).bind (·.dst) = some t) (hj : needsAt T i = js) (hns : ops.toList.map (·.dst) = ns)
    (h : ∀ l xs w, F l xs w → l i = false → AllOn l js → (putZ a ns 0 xs).eval (.tmp t) = .bool (!b) ∧ t < (putZ a ns 0 xs).tmps.size ∧ F (upd l i true) (upd xs i undef) w) : StepAt P ops Q T a F i := by
  intro o ho l xs w hF hl hn K hK
  rw [ho] at hx
  injection hx with hx
  injection hx with h1 h2
  injection h2 with h2 h3
  subst hns
  subst hj
  subst h2
  obtain ⟨he, ht, hF2⟩ := h l xs w hF hl hn
  rw [if_neg]
  · exact hK.out _ _ hF2
  · unfold Region.wanted
    rw [h3]
    show ¬ (yielded ops (putZ a (ops.toList.map (·.dst)) 0 xs).tmps g == some b) = true
    unfold yielded
    rw [hgt]
    have h4 : (putZ a (ops.toList.map (·.dst)) 0 xs).tmps[t]? = some (.bool (!b)) := by
      simp only [Act.eval, Array.getD_eq_getD_getElem?] at he
      rw [Array.getElem?_eq_getElem ht] at he ⊢
      simpa using he
    cases b <;> simp [h4]
abbrev h7a.ns : List (Option Tmp) := [some 39, some 40, some 41, some 42, some 43, some 44, some 45, some 46, some 47, some 48, some 49, some 50, some 51, some 52, some 53, some 54, some 55, some 56, some 57, some 58, some 59, some 60, some 61, some 62, some 63, some 64, some 65, some 66, some 6]
def h7a.T : Bool × List (List Nat × List Nat) := (true, [([], []), ([0], [0]), ([1], [1]), ([1, 2], [1, 2]), ([3, 1], [3]), ([4], [4]), ([5, 4], [4, 5]), ([6, 4], [4, 6]), ([4, 7], [4, 7]), ([8, 4], [8]), ([9], [9]), ([10, 9], [9, 10]), ([9], [9]), ([12, 9], [9, 12]), ([13, 9], [9, 13]), ([11, 14, 9], [9, 11, 14]), ([9, 15], [9, 15]), ([16, 9], [16]), ([17], [17]), ([18, 17], [17, 18]), ([17], [17]), ([20, 17], [17, 20]), ([21, 17], [17, 21]), ([19, 22, 17], [17, 19, 22]), ([23, 17], [17, 23]), ([17], [17]), ([24, 25, 17], [17, 24, 25]), ([17, 26], [17, 26]), ([27, 17, 0, 1, 2, 3, 4, 5, 6, 7, 8, 9, 10, 11, 12, 13, 14, 15, 16, 17, 18, 19, 20, 21, 22, 23, 24, 25, 26, 27], [27])])
theorem h7a.tab : rtab .any (opsOf Tryd.f22 7) = h7a.T := by kernel_rfl
def h7a.V (kn : Bool) (p : Pol) (t x : Tri) (C0 : Array Value) (A10 : Option Addr) (ad : Addr) (m10 c10 i : Nat) (vd n : Int) (A2 A3 : Option Addr) (m2 d2 m3 d3 b3 b4 b5 : Nat) : Nat → Value → World → Prop
  | 0 => IsV (.bool false)
  | 1 => IsV (.bool false)
  | 2 => IsV (undef)
  | 3 => IsV (.bool false)
  | 4 => IsV (.bool false)
  | 5 => IsV (undef)
  | 6 => IsV (undef)
  | 7 => IsV (undef)
  | 8 => IsV (.bool false)
  | 9 => IsV (.bool false)
  | 10 => IsV (undef)
  | 11 => IsV (undef)
  | 12 => IsV (undef)
  | 13 => IsV (undef)
  | 14 => IsV (undef)
  | 15 => IsV (undef)
  | 16 => IsV (.bool false)
  | 17 => IsV (.bool false)
  | 18 => IsV (undef)
  | 19 => IsV (undef)
  | 20 => IsV (undef)
  | 21 => IsV (undef)
  | 22 => IsV (undef)
  | 23 => IsV (undef)
  | 24 => IsV (undef)
  | 25 => IsV (undef)
  | 26 => IsV (undef)
  | 27 => IsV (.bool false)
  | 28 => IsV (.bool false)
  | _ => fun _ _ => True
theorem h7a.mono {kn : Bool} {p : Pol} {t x : Tri} {C0 : Array Value} {A10 : Option Addr} {ad : Addr} {m10 c10 i : Nat} {vd n : Int} {A2 A3 : Option Addr} {m2 d2 m3 d3 b3 b4 b5 : Nat} : ∀ (j_ : Nat) {v : Value} {W W' : World}, h7a.V kn p t x C0 A10 ad m10 c10 i vd n A2 A3 m2 d2 m3 d3 b3 b4 b5 j_ v W → Below W.heap.size W W' → h7a.V kn p t x C0 A10 ad m10 c10 i vd n A2 A3 m2 d2 m3 d3 b3 b4 b5 j_ v W'
  | 0, _, _, _, h, hb => h
  | 1, _, _, _, h, hb => h
  | 2, _, _, _, h, hb => h
  | 3, _, _, _, h, hb => h
  | 4, _, _, _, h, hb => h
  | 5, _, _, _, h, hb => h
  | 6, _, _, _, h, hb => h
  | 7, _, _, _, h, hb => h
  | 8, _, _, _, h, hb => h
  | 9, _, _, _, h, hb => h
  | 10, _, _, _, h, hb => h
  | 11, _, _, _, h, hb => h
  | 12, _, _, _, h, hb => h
  | 13, _, _, _, h, hb => h
  | 14, _, _, _, h, hb => h
  | 15, _, _, _, h, hb => h
  | 16, _, _, _, h, hb => h
  | 17, _, _, _, h, hb => h
  | 18, _, _, _, h, hb => h
  | 19, _, _, _, h, hb => h
  | 20, _, _, _, h, hb => h
  | 21, _, _, _, h, hb => h
  | 22, _, _, _, h, hb => h
  | 23, _, _, _, h, hb => h
  | 24, _, _, _, h, hb => h
  | 25, _, _, _, h, hb => h
  | 26, _, _, _, h, hb => h
  | 27, _, _, _, h, hb => h
  | 28, _, _, _, h, hb => h
  | n + 29, _, _, _, _, _ => trivial
set_option maxRecDepth 100000 in
set_option maxHeartbeats 2000000 in
theorem h7a.region {Q : Exit → Act → World → Prop} {id : Nat} {a : Act} {w : World} (kn : Bool) (p : Pol) (t x : Tri) (C0 : Array Value) (A10 : Option Addr) (ad : Addr) (m10 c10 i : Nat) (vd n : Int) (A2 A3 : Option Addr) (m2 d2 m3 d3 b3 b4 b5 : Nat) (kp : k28.K w p C0.toList) (hm : Tryd.prog.follows .mixedOrders = true) (hs : a.tmps.size = 150) (h3 : a.eval (.tmp 3) = .pointer (some ⟨b3, 0, none⟩)) (hb3 : w.heap[b3]? = some (Obj.cells C0 28 (0, 0)))  (h4 : a.eval (.tmp 4) = .pointer (some ⟨b4, 0, none⟩)) (hb4 : w.heap[b4]? = some (Obj.cells #[.string t.f0, .string t.f1, .string t.f2] 30 (0, 0)))  (h5 : a.eval (.tmp 5) = .pointer (some ⟨b5, 0, none⟩)) (hb5 : w.heap[b5]? = some (Obj.cells #[.int .i8 vd, .int .i64 n, .slice A2 m2 d2, .slice A3 m3 d3] 33 (0, 0)))  (h7 : a.eval (.tmp 7) = .bool false) (h8 : a.eval (.tmp 8) = .bool kn)
    (hdone : ∀ (xs : Nat → Value) (W : World), Below w.heap.size w W → IsV (.bool false) (xs 28) W → Q .normal (putZ a h7a.ns 0 xs) W) :
    (Code.region id (opsOf Tryd.f22 7) true).wp Tryd.prog Q a w := by
  refine region_pred (T := h7a.T) 29 (fun _ W => Below w.heap.size w W) (h7a.V kn p t x C0 A10 ad m10 c10 i vd n A2 A3 m2 d2 m3 d3 b3 b4 b5) hm (by kernel_rfl) h7a.tab (by kernel_rfl) (by kernel_rfl) (below_drew (Below.refl _ _)) (fun _ h => h) ?hsteps ?hd
  case hd => exact fun xs W hI hV => hdone xs W hI (hV 28 (by decide))
  case hsteps =>
    have hsz : ∀ t, t < 150 → t < a.tmps.size := fun t ht => by rw [hs]; exact ht
    refine ⟨?_, ?_, ?_, ?_, ?_, ?_, ?_, ?_, ?_, ?_, ?_, ?_, ?_, ?_, ?_, ?_, ?_, ?_, ?_, ?_, ?_, ?_, ?_, ?_, ?_, ?_, ?_, ?_, ?_, trivial⟩
    · refine step_op (Op.move (.tmp 7)) (some 39) [] h7a.ns (by kernel_rfl) rfl (by kernel_rfl) (fun o ho hd hw l xs W hF hl hn K hK => ?_)
      have e1 := eval_o (xs := xs) (ns := h7a.ns) h7
      exact value_ (v := .bool false) (hw _) hd (w1 := W) (by simp only [execOp, ho, e1]; go_simp) (hK.out _ _ (hF.now hF.1 (rfl)))
    · refine step_op (Op.move (.tmp 39)) (some 40) [0] h7a.ns (by kernel_rfl) rfl (by kernel_rfl) (fun o ho hd hw l xs W hF hl hn K hK => ?_)
      have e1 : (putZ a h7a.ns 0 xs).eval (.tmp 39) = xs 0 := eval_z 0 (hsz 39 (by decide))
      exact value_ (v := xs 0) (hw _) hd (w1 := W) (by simp only [execOp, ho, e1]; go_simp) (hK.out _ _ (hF.now hF.1 (hF.get 0 hn.1)))
    · exact step_ox (Op.move (.tmp 8)) (some 41) 1 true 40 [1] h7a.ns (by kernel_rfl) (by kernel_rfl) rfl (by kernel_rfl) (fun l xs W hF hl hn => ⟨(eval_z 1 (hsz 40 (by decide))).trans (hF.get 1 hn.1), by rw [putZ_size]; exact hsz 40 (by decide), hF.now hF.1 rfl⟩)
    · refine step_op (Op.pick (.tmp 40) (.tmp 41) (.const (.bool false))) (some 42) [1, 2] h7a.ns (by kernel_rfl) rfl (by kernel_rfl) (fun o ho hd hw l xs W hF hl hn K hK => ?_)
      have e0 : (putZ a h7a.ns 0 xs).eval (.tmp 40) = .bool false := (eval_z 1 (hsz 40 (by decide))).trans (hF.get 1 hn.1)
      have e1 : (putZ a h7a.ns 0 xs).eval (.tmp 41) = undef := (eval_z 2 (hsz 41 (by decide))).trans (hF.get 2 hn.2.1)
      exact value_ (v := .bool false) (hw _) hd (w1 := W) (by simp only [Act.eval, Array.getD_eq_getD_getElem?] at e0 e1; simp only [execOp, ho]; go_simp) (hK.out _ _ (hF.now hF.1 rfl))
    · refine step_op (Op.move (.tmp 42)) (some 43) [3, 1] h7a.ns (by kernel_rfl) rfl (by kernel_rfl) (fun o ho hd hw l xs W hF hl hn K hK => ?_)
      have e1 : (putZ a h7a.ns 0 xs).eval (.tmp 42) = xs 3 := eval_z 3 (hsz 42 (by decide))
      exact value_ (v := xs 3) (hw _) hd (w1 := W) (by simp only [execOp, ho, e1]; go_simp) (hK.out _ _ (hF.now hF.1 (hF.get 3 hn.1)))
    · exact step_ox (Op.fieldAddr 33 (.tmp 5) 1) (some 44) 4 true 43 [4] h7a.ns (by kernel_rfl) (by kernel_rfl) rfl (by kernel_rfl) (fun l xs W hF hl hn => ⟨(eval_z 4 (hsz 43 (by decide))).trans (hF.get 4 hn.1), by rw [putZ_size]; exact hsz 43 (by decide), hF.now hF.1 rfl⟩)
    · exact step_ox (Op.load 3 (.tmp 44)) (some 45) 4 true 43 [5, 4] h7a.ns (by kernel_rfl) (by kernel_rfl) rfl (by kernel_rfl) (fun l xs W hF hl hn => ⟨(eval_z 4 (hsz 43 (by decide))).trans (hF.get 4 hn.2.1), by rw [putZ_size]; exact hsz 43 (by decide), hF.now hF.1 rfl⟩)
    · exact step_ox (Op.binOp .geq 3 (.tmp 45) (.const (.int .i64 1)) 3) (some 46) 4 true 43 [6, 4] h7a.ns (by kernel_rfl) (by kernel_rfl) rfl (by kernel_rfl) (fun l xs W hF hl hn => ⟨(eval_z 4 (hsz 43 (by decide))).trans (hF.get 4 hn.2.1), by rw [putZ_size]; exact hsz 43 (by decide), hF.now hF.1 rfl⟩)
    · refine step_op (Op.pick (.tmp 43) (.tmp 46) (.const (.bool false))) (some 47) [4, 7] h7a.ns (by kernel_rfl) rfl (by kernel_rfl) (fun o ho hd hw l xs W hF hl hn K hK => ?_)
      have e0 : (putZ a h7a.ns 0 xs).eval (.tmp 43) = .bool false := (eval_z 4 (hsz 43 (by decide))).trans (hF.get 4 hn.1)
      have e1 : (putZ a h7a.ns 0 xs).eval (.tmp 46) = undef := (eval_z 7 (hsz 46 (by decide))).trans (hF.get 7 hn.2.1)
      exact value_ (v := .bool false) (hw _) hd (w1 := W) (by simp only [Act.eval, Array.getD_eq_getD_getElem?] at e0 e1; simp only [execOp, ho]; go_simp) (hK.out _ _ (hF.now hF.1 rfl))
    · refine step_op (Op.move (.tmp 47)) (some 48) [8, 4] h7a.ns (by kernel_rfl) rfl (by kernel_rfl) (fun o ho hd hw l xs W hF hl hn K hK => ?_)
      have e1 : (putZ a h7a.ns 0 xs).eval (.tmp 47) = xs 8 := eval_z 8 (hsz 47 (by decide))
      exact value_ (v := xs 8) (hw _) hd (w1 := W) (by simp only [execOp, ho, e1]; go_simp) (hK.out _ _ (hF.now hF.1 (hF.get 8 hn.1)))
    · exact step_ox (Op.fieldAddr 33 (.tmp 5) 1) (some 49) 9 true 48 [9] h7a.ns (by kernel_rfl) (by kernel_rfl) rfl (by kernel_rfl) (fun l xs W hF hl hn => ⟨(eval_z 9 (hsz 48 (by decide))).trans (hF.get 9 hn.1), by rw [putZ_size]; exact hsz 48 (by decide), hF.now hF.1 rfl⟩)
    · exact step_ox (Op.load 3 (.tmp 49)) (some 50) 9 true 48 [10, 9] h7a.ns (by kernel_rfl) (by kernel_rfl) rfl (by kernel_rfl) (fun l xs W hF hl hn => ⟨(eval_z 9 (hsz 48 (by decide))).trans (hF.get 9 hn.2.1), by rw [putZ_size]; exact hsz 48 (by decide), hF.now hF.1 rfl⟩)
    · exact step_ox (Op.fieldAddr 28 (.tmp 3) 10) (some 51) 9 true 48 [9] h7a.ns (by kernel_rfl) (by kernel_rfl) rfl (by kernel_rfl) (fun l xs W hF hl hn => ⟨(eval_z 9 (hsz 48 (by decide))).trans (hF.get 9 hn.1), by rw [putZ_size]; exact hsz 48 (by decide), hF.now hF.1 rfl⟩)
    · exact step_ox (Op.load 26 (.tmp 51)) (some 52) 9 true 48 [12, 9] h7a.ns (by kernel_rfl) (by kernel_rfl) rfl (by kernel_rfl) (fun l xs W hF hl hn => ⟨(eval_z 9 (hsz 48 (by decide))).trans (hF.get 9 hn.2.1), by rw [putZ_size]; exact hsz 48 (by decide), hF.now hF.1 rfl⟩)
    · exact step_ox (Op.call { callee := .builtin .len, args := #[.tmp 52], argTypes := #[26] }) (some 53) 9 true 48 [13, 9] h7a.ns (by kernel_rfl) (by kernel_rfl) rfl (by kernel_rfl) (fun l xs W hF hl hn => ⟨(eval_z 9 (hsz 48 (by decide))).trans (hF.get 9 hn.2.1), by rw [putZ_size]; exact hsz 48 (by decide), hF.now hF.1 rfl⟩)
    · exact step_ox (Op.binOp .leq 3 (.tmp 50) (.tmp 53) 3) (some 54) 9 true 48 [11, 14, 9] h7a.ns (by kernel_rfl) (by kernel_rfl) rfl (by kernel_rfl) (fun l xs W hF hl hn => ⟨(eval_z 9 (hsz 48 (by decide))).trans (hF.get 9 hn.2.2.1), by rw [putZ_size]; exact hsz 48 (by decide), hF.now hF.1 rfl⟩)
    · refine step_op (Op.pick (.tmp 48) (.tmp 54) (.const (.bool false))) (some 55) [9, 15] h7a.ns (by kernel_rfl) rfl (by kernel_rfl) (fun o ho hd hw l xs W hF hl hn K hK => ?_)
      have e0 : (putZ a h7a.ns 0 xs).eval (.tmp 48) = .bool false := (eval_z 9 (hsz 48 (by decide))).trans (hF.get 9 hn.1)
      have e1 : (putZ a h7a.ns 0 xs).eval (.tmp 54) = undef := (eval_z 15 (hsz 54 (by decide))).trans (hF.get 15 hn.2.1)
      exact value_ (v := .bool false) (hw _) hd (w1 := W) (by simp only [Act.eval, Array.getD_eq_getD_getElem?] at e0 e1; simp only [execOp, ho]; go_simp) (hK.out _ _ (hF.now hF.1 rfl))
    · refine step_op (Op.move (.tmp 55)) (some 56) [16, 9] h7a.ns (by kernel_rfl) rfl (by kernel_rfl) (fun o ho hd hw l xs W hF hl hn K hK => ?_)
      have e1 : (putZ a h7a.ns 0 xs).eval (.tmp 55) = xs 16 := eval_z 16 (hsz 55 (by decide))
      exact value_ (v := xs 16) (hw _) hd (w1 := W) (by simp only [execOp, ho, e1]; go_simp) (hK.out _ _ (hF.now hF.1 (hF.get 16 hn.1)))
    · exact step_ox (Op.fieldAddr 28 (.tmp 3) 10) (some 57) 17 true 56 [17] h7a.ns (by kernel_rfl) (by kernel_rfl) rfl (by kernel_rfl) (fun l xs W hF hl hn => ⟨(eval_z 17 (hsz 56 (by decide))).trans (hF.get 17 hn.1), by rw [putZ_size]; exact hsz 56 (by decide), hF.now hF.1 rfl⟩)
    · exact step_ox (Op.load 26 (.tmp 57)) (some 58) 17 true 56 [18, 17] h7a.ns (by kernel_rfl) (by kernel_rfl) rfl (by kernel_rfl) (fun l xs W hF hl hn => ⟨(eval_z 17 (hsz 56 (by decide))).trans (hF.get 17 hn.2.1), by rw [putZ_size]; exact hsz 56 (by decide), hF.now hF.1 rfl⟩)
    · exact step_ox (Op.fieldAddr 33 (.tmp 5) 1) (some 59) 17 true 56 [17] h7a.ns (by kernel_rfl) (by kernel_rfl) rfl (by kernel_rfl) (fun l xs W hF hl hn => ⟨(eval_z 17 (hsz 56 (by decide))).trans (hF.get 17 hn.1), by rw [putZ_size]; exact hsz 56 (by decide), hF.now hF.1 rfl⟩)
    · exact step_ox (Op.load 3 (.tmp 59)) (some 60) 17 true 56 [20, 17] h7a.ns (by kernel_rfl) (by kernel_rfl) rfl (by kernel_rfl) (fun l xs W hF hl hn => ⟨(eval_z 17 (hsz 56 (by decide))).trans (hF.get 17 hn.2.1), by rw [putZ_size]; exact hsz 56 (by decide), hF.now hF.1 rfl⟩)
    · exact step_ox (Op.binOp .sub 3 (.tmp 60) (.const (.int .i64 1)) 3) (some 61) 17 true 56 [21, 17] h7a.ns (by kernel_rfl) (by kernel_rfl) rfl (by kernel_rfl) (fun l xs W hF hl hn => ⟨(eval_z 17 (hsz 56 (by decide))).trans (hF.get 17 hn.2.1), by rw [putZ_size]; exact hsz 56 (by decide), hF.now hF.1 rfl⟩)
    · exact step_ox (Op.indexAddr 26 (.tmp 58) (.tmp 61)) (some 62) 17 true 56 [19, 22, 17] h7a.ns (by kernel_rfl) (by kernel_rfl) rfl (by kernel_rfl) (fun l xs W hF hl hn => ⟨(eval_z 17 (hsz 56 (by decide))).trans (hF.get 17 hn.2.2.1), by rw [putZ_size]; exact hsz 56 (by decide), hF.now hF.1 rfl⟩)
    · exact step_ox (Op.load 30 (.tmp 62)) (some 63) 17 true 56 [23, 17] h7a.ns (by kernel_rfl) (by kernel_rfl) rfl (by kernel_rfl) (fun l xs W hF hl hn => ⟨(eval_z 17 (hsz 56 (by decide))).trans (hF.get 17 hn.2.1), by rw [putZ_size]; exact hsz 56 (by decide), hF.now hF.1 rfl⟩)
    · exact step_ox (Op.load 30 (.tmp 4)) (some 64) 17 true 56 [17] h7a.ns (by kernel_rfl) (by kernel_rfl) rfl (by kernel_rfl) (fun l xs W hF hl hn => ⟨(eval_z 17 (hsz 56 (by decide))).trans (hF.get 17 hn.1), by rw [putZ_size]; exact hsz 56 (by decide), hF.now hF.1 rfl⟩)
    · exact step_ox (Op.binOp .eql 30 (.tmp 63) (.tmp 64) 30) (some 65) 17 true 56 [24, 25, 17] h7a.ns (by kernel_rfl) (by kernel_rfl) rfl (by kernel_rfl) (fun l xs W hF hl hn => ⟨(eval_z 17 (hsz 56 (by decide))).trans (hF.get 17 hn.2.2.1), by rw [putZ_size]; exact hsz 56 (by decide), hF.now hF.1 rfl⟩)
    · refine step_op (Op.pick (.tmp 56) (.tmp 65) (.const (.bool false))) (some 66) [17, 26] h7a.ns (by kernel_rfl) rfl (by kernel_rfl) (fun o ho hd hw l xs W hF hl hn K hK => ?_)
      have e0 : (putZ a h7a.ns 0 xs).eval (.tmp 56) = .bool false := (eval_z 17 (hsz 56 (by decide))).trans (hF.get 17 hn.1)
      have e1 : (putZ a h7a.ns 0 xs).eval (.tmp 65) = undef := (eval_z 26 (hsz 65 (by decide))).trans (hF.get 26 hn.2.1)
      exact value_ (v := .bool false) (hw _) hd (w1 := W) (by simp only [Act.eval, Array.getD_eq_getD_getElem?] at e0 e1; simp only [execOp, ho]; go_simp) (hK.out _ _ (hF.now hF.1 rfl))
    · refine step_op (Op.assign (.tmp 66)) (some 6) [27, 17, 0, 1, 2, 3, 4, 5, 6, 7, 8, 9, 10, 11, 12, 13, 14, 15, 16, 17, 18, 19, 20, 21, 22, 23, 24, 25, 26, 27] h7a.ns (by kernel_rfl) rfl (by kernel_rfl) (fun o ho hd hw l xs W hF hl hn K hK => ?_)
      have e1 : (putZ a h7a.ns 0 xs).eval (.tmp 66) = xs 27 := eval_z 27 (hsz 66 (by decide))
      exact value_ (v := xs 27) (hw _) hd (w1 := W) (by simp only [execOp, ho, e1]; go_simp) (hK.out _ _ (hF.now hF.1 (hF.get 27 hn.1)))
abbrev h7b.ns : List (Option Tmp) := [some 39, some 40, some 41, some 42, some 43, some 44, some 45, some 46, some 47, some 48, some 49, some 50, some 51, some 52, some 53, some 54, some 55, some 56, some 57, some 58, some 59, some 60, some 61, some 62, some 63, some 64, some 65, some 66, some 6]
def h7b.T : Bool × List (List Nat × List Nat) := (true, [([], []), ([0], [0]), ([1], [1]), ([1, 2], [1, 2]), ([3, 1], [3]), ([4], [4]), ([5, 4], [4, 5]), ([6, 4], [4, 6]), ([4, 7], [4, 7]), ([8, 4], [8]), ([9], [9]), ([10, 9], [9, 10]), ([9], [9]), ([12, 9], [9, 12]), ([13, 9], [9, 13]), ([11, 14, 9], [9, 11, 14]), ([9, 15], [9, 15]), ([16, 9], [16]), ([17], [17]), ([18, 17], [17, 18]), ([17], [17]), ([20, 17], [17, 20]), ([21, 17], [17, 21]), ([19, 22, 17], [17, 19, 22]), ([23, 17], [17, 23]), ([17], [17]), ([24, 25, 17], [17, 24, 25]), ([17, 26], [17, 26]), ([27, 17, 0, 1, 2, 3, 4, 5, 6, 7, 8, 9, 10, 11, 12, 13, 14, 15, 16, 17, 18, 19, 20, 21, 22, 23, 24, 25, 26, 27], [27])])
theorem h7b.tab : rtab .any (opsOf Tryd.f22 7) = h7b.T := by kernel_rfl
def h7b.V (p : Pol) (t x : Tri) (C0 : Array Value) (A10 : Option Addr) (ad : Addr) (m10 c10 i : Nat) (vd n : Int) (A2 A3 : Option Addr) (m2 d2 m3 d3 b3 b4 b5 : Nat) : Nat → Value → World → Prop
  | 0 => IsV (.bool true)
  | 1 => IsV (.bool true)
  | 2 => IsV (.bool false)
  | 3 => IsV (.bool false)
  | 4 => IsV (.bool false)
  | 5 => IsV (undef)
  | 6 => IsV (undef)
  | 7 => IsV (undef)
  | 8 => IsV (.bool false)
  | 9 => IsV (.bool false)
  | 10 => IsV (undef)
  | 11 => IsV (undef)
  | 12 => IsV (undef)
  | 13 => IsV (undef)
  | 14 => IsV (undef)
  | 15 => IsV (undef)
  | 16 => IsV (.bool false)
  | 17 => IsV (.bool false)
  | 18 => IsV (undef)
  | 19 => IsV (undef)
  | 20 => IsV (undef)
  | 21 => IsV (undef)
  | 22 => IsV (undef)
  | 23 => IsV (undef)
  | 24 => IsV (undef)
  | 25 => IsV (undef)
  | 26 => IsV (undef)
  | 27 => IsV (.bool false)
  | 28 => IsV (.bool false)
  | _ => fun _ _ => True
theorem h7b.mono {p : Pol} {t x : Tri} {C0 : Array Value} {A10 : Option Addr} {ad : Addr} {m10 c10 i : Nat} {vd n : Int} {A2 A3 : Option Addr} {m2 d2 m3 d3 b3 b4 b5 : Nat} : ∀ (j_ : Nat) {v : Value} {W W' : World}, h7b.V p t x C0 A10 ad m10 c10 i vd n A2 A3 m2 d2 m3 d3 b3 b4 b5 j_ v W → Below W.heap.size W W' → h7b.V p t x C0 A10 ad m10 c10 i vd n A2 A3 m2 d2 m3 d3 b3 b4 b5 j_ v W'
  | 0, _, _, _, h, hb => h
  | 1, _, _, _, h, hb => h
  | 2, _, _, _, h, hb => h
  | 3, _, _, _, h, hb => h
  | 4, _, _, _, h, hb => h
  | 5, _, _, _, h, hb => h
  | 6, _, _, _, h, hb => h
  | 7, _, _, _, h, hb => h
  | 8, _, _, _, h, hb => h
  | 9, _, _, _, h, hb => h
  | 10, _, _, _, h, hb => h
  | 11, _, _, _, h, hb => h
  | 12, _, _, _, h, hb => h
  | 13, _, _, _, h, hb => h
  | 14, _, _, _, h, hb => h
  | 15, _, _, _, h, hb => h
  | 16, _, _, _, h, hb => h
  | 17, _, _, _, h, hb => h
  | 18, _, _, _, h, hb => h
  | 19, _, _, _, h, hb => h
  | 20, _, _, _, h, hb => h
  | 21, _, _, _, h, hb => h
  | 22, _, _, _, h, hb => h
  | 23, _, _, _, h, hb => h
  | 24, _, _, _, h, hb => h
  | 25, _, _, _, h, hb => h
  | 26, _, _, _, h, hb => h
  | 27, _, _, _, h, hb => h
  | 28, _, _, _, h, hb => h
  | n + 29, _, _, _, _, _ => trivial
set_option maxRecDepth 100000 in
set_option maxHeartbeats 2000000 in
theorem h7b.region {Q : Exit → Act → World → Prop} {id : Nat} {a : Act} {w : World} (p : Pol) (t x : Tri) (C0 : Array Value) (A10 : Option Addr) (ad : Addr) (m10 c10 i : Nat) (vd n : Int) (A2 A3 : Option Addr) (m2 d2 m3 d3 b3 b4 b5 : Nat) (kp : k28.K w p C0.toList) (hm : Tryd.prog.follows .mixedOrders = true) (hs : a.tmps.size = 150) (h3 : a.eval (.tmp 3) = .pointer (some ⟨b3, 0, none⟩)) (hb3 : w.heap[b3]? = some (Obj.cells C0 28 (0, 0)))  (h4 : a.eval (.tmp 4) = .pointer (some ⟨b4, 0, none⟩)) (hb4 : w.heap[b4]? = some (Obj.cells #[.string t.f0, .string t.f1, .string t.f2] 30 (0, 0)))  (h5 : a.eval (.tmp 5) = .pointer (some ⟨b5, 0, none⟩)) (hb5 : w.heap[b5]? = some (Obj.cells #[.int .i8 vd, .int .i64 n, .slice A2 m2 d2, .slice A3 m3 d3] 33 (0, 0)))  (h7 : a.eval (.tmp 7) = .bool true) (h8 : a.eval (.tmp 8) = .bool false)
    (hdone : ∀ (xs : Nat → Value) (W : World), Below w.heap.size w W → IsV (.bool false) (xs 28) W → Q .normal (putZ a h7b.ns 0 xs) W) :
    (Code.region id (opsOf Tryd.f22 7) true).wp Tryd.prog Q a w := by
  refine region_pred (T := h7b.T) 29 (fun _ W => Below w.heap.size w W) (h7b.V p t x C0 A10 ad m10 c10 i vd n A2 A3 m2 d2 m3 d3 b3 b4 b5) hm (by kernel_rfl) h7b.tab (by kernel_rfl) (by kernel_rfl) (below_drew (Below.refl _ _)) (fun _ h => h) ?hsteps ?hd
  case hd => exact fun xs W hI hV => hdone xs W hI (hV 28 (by decide))
  case hsteps =>
    have hsz : ∀ t, t < 150 → t < a.tmps.size := fun t ht => by rw [hs]; exact ht
    refine ⟨?_, ?_, ?_, ?_, ?_, ?_, ?_, ?_, ?_, ?_, ?_, ?_, ?_, ?_, ?_, ?_, ?_, ?_, ?_, ?_, ?_, ?_, ?_, ?_, ?_, ?_, ?_, ?_, ?_, trivial⟩
    · refine step_op (Op.move (.tmp 7)) (some 39) [] h7b.ns (by kernel_rfl) rfl (by kernel_rfl) (fun o ho hd hw l xs W hF hl hn K hK => ?_)
      have e1 := eval_o (xs := xs) (ns := h7b.ns) h7
      exact value_ (v := .bool true) (hw _) hd (w1 := W) (by simp only [execOp, ho, e1]; go_simp) (hK.out _ _ (hF.now hF.1 (rfl)))
    · refine step_op (Op.move (.tmp 39)) (some 40) [0] h7b.ns (by kernel_rfl) rfl (by kernel_rfl) (fun o ho hd hw l xs W hF hl hn K hK => ?_)
      have e1 : (putZ a h7b.ns 0 xs).eval (.tmp 39) = xs 0 := eval_z 0 (hsz 39 (by decide))
      exact value_ (v := xs 0) (hw _) hd (w1 := W) (by simp only [execOp, ho, e1]; go_simp) (hK.out _ _ (hF.now hF.1 (hF.get 0 hn.1)))
    · refine step_og (Op.move (.tmp 8)) (some 41) 1 true 40 [1] h7b.ns (by kernel_rfl) (by kernel_rfl) rfl (by kernel_rfl) (fun o ho hd hw0 l xs W hF hl hn K hK => ?_)
      have eg : (putZ a h7b.ns 0 xs).eval (.tmp 40) = .bool true := (eval_z 1 (hsz 40 (by decide))).trans (hF.get 1 hn.1)
      have hw := hw0 (putZ a h7b.ns 0 xs) (by rw [putZ_size]; exact hsz 40 (by decide)) eg
      have e1 := eval_o (xs := xs) (ns := h7b.ns) h8
      exact value_ (v := .bool false) hw hd (w1 := W) (by simp only [execOp, ho, e1]; go_simp) (hK.out _ _ (hF.now hF.1 (rfl)))
    · refine step_op (Op.pick (.tmp 40) (.tmp 41) (.const (.bool false))) (some 42) [1, 2] h7b.ns (by kernel_rfl) rfl (by kernel_rfl) (fun o ho hd hw l xs W hF hl hn K hK => ?_)
      have e0 : (putZ a h7b.ns 0 xs).eval (.tmp 40) = .bool true := (eval_z 1 (hsz 40 (by decide))).trans (hF.get 1 hn.1)
      have e1 : (putZ a h7b.ns 0 xs).eval (.tmp 41) = .bool false := (eval_z 2 (hsz 41 (by decide))).trans (hF.get 2 hn.2.1)
      exact value_ (v := .bool false) (hw _) hd (w1 := W) (by simp only [Act.eval, Array.getD_eq_getD_getElem?] at e0 e1; simp only [execOp, ho]; go_simp) (hK.out _ _ (hF.now hF.1 rfl))
    · refine step_op (Op.move (.tmp 42)) (some 43) [3, 1] h7b.ns (by kernel_rfl) rfl (by kernel_rfl) (fun o ho hd hw l xs W hF hl hn K hK => ?_)
      have e1 : (putZ a h7b.ns 0 xs).eval (.tmp 42) = xs 3 := eval_z 3 (hsz 42 (by decide))
      exact value_ (v := xs 3) (hw _) hd (w1 := W) (by simp only [execOp, ho, e1]; go_simp) (hK.out _ _ (hF.now hF.1 (hF.get 3 hn.1)))
    · exact step_ox (Op.fieldAddr 33 (.tmp 5) 1) (some 44) 4 true 43 [4] h7b.ns (by kernel_rfl) (by kernel_rfl) rfl (by kernel_rfl) (fun l xs W hF hl hn => ⟨(eval_z 4 (hsz 43 (by decide))).trans (hF.get 4 hn.1), by rw [putZ_size]; exact hsz 43 (by decide), hF.now hF.1 rfl⟩)
    · exact step_ox (Op.load 3 (.tmp 44)) (some 45) 4 true 43 [5, 4] h7b.ns (by kernel_rfl) (by kernel_rfl) rfl (by kernel_rfl) (fun l xs W hF hl hn => ⟨(eval_z 4 (hsz 43 (by decide))).trans (hF.get 4 hn.2.1), by rw [putZ_size]; exact hsz 43 (by decide), hF.now hF.1 rfl⟩)
    · exact step_ox (Op.binOp .geq 3 (.tmp 45) (.const (.int .i64 1)) 3) (some 46) 4 true 43 [6, 4] h7b.ns (by kernel_rfl) (by kernel_rfl) rfl (by kernel_rfl) (fun l xs W hF hl hn => ⟨(eval_z 4 (hsz 43 (by decide))).trans (hF.get 4 hn.2.1), by rw [putZ_size]; exact hsz 43 (by decide), hF.now hF.1 rfl⟩)
    · refine step_op (Op.pick (.tmp 43) (.tmp 46) (.const (.bool false))) (some 47) [4, 7] h7b.ns (by kernel_rfl) rfl (by kernel_rfl) (fun o ho hd hw l xs W hF hl hn K hK => ?_)
      have e0 : (putZ a h7b.ns 0 xs).eval (.tmp 43) = .bool false := (eval_z 4 (hsz 43 (by decide))).trans (hF.get 4 hn.1)
      have e1 : (putZ a h7b.ns 0 xs).eval (.tmp 46) = undef := (eval_z 7 (hsz 46 (by decide))).trans (hF.get 7 hn.2.1)
      exact value_ (v := .bool false) (hw _) hd (w1 := W) (by simp only [Act.eval, Array.getD_eq_getD_getElem?] at e0 e1; simp only [execOp, ho]; go_simp) (hK.out _ _ (hF.now hF.1 rfl))
    · refine step_op (Op.move (.tmp 47)) (some 48) [8, 4] h7b.ns (by kernel_rfl) rfl (by kernel_rfl) (fun o ho hd hw l xs W hF hl hn K hK => ?_)
      have e1 : (putZ a h7b.ns 0 xs).eval (.tmp 47) = xs 8 := eval_z 8 (hsz 47 (by decide))
      exact value_ (v := xs 8) (hw _) hd (w1 := W) (by simp only [execOp, ho, e1]; go_simp) (hK.out _ _ (hF.now hF.1 (hF.get 8 hn.1)))
    · exact step_ox (Op.fieldAddr 33 (.tmp 5) 1) (some 49) 9 true 48 [9] h7b.ns (by kernel_rfl) (by kernel_rfl) rfl (by kernel_rfl) (fun l xs W hF hl hn => ⟨(eval_z 9 (hsz 48 (by decide))).trans (hF.get 9 hn.1), by rw [putZ_size]; exact hsz 48 (by decide), hF.now hF.1 rfl⟩)
    · exact step_ox (Op.load 3 (.tmp 49)) (some 50) 9 true 48 [10, 9] h7b.ns (by kernel_rfl) (by kernel_rfl) rfl (by kernel_rfl) (fun l xs W hF hl hn => ⟨(eval_z 9 (hsz 48 (by decide))).trans (hF.get 9 hn.2.1), by rw [putZ_size]; exact hsz 48 (by decide), hF.now hF.1 rfl⟩)
    · exact step_ox (Op.fieldAddr 28 (.tmp 3) 10) (some 51) 9 true 48 [9] h7b.ns (by kernel_rfl) (by kernel_rfl) rfl (by kernel_rfl) (fun l xs W hF hl hn => ⟨(eval_z 9 (hsz 48 (by decide))).trans (hF.get 9 hn.1), by rw [putZ_size]; exact hsz 48 (by decide), hF.now hF.1 rfl⟩)
    · exact step_ox (Op.load 26 (.tmp 51)) (some 52) 9 true 48 [12, 9] h7b.ns (by kernel_rfl) (by kernel_rfl) rfl (by kernel_rfl) (fun l xs W hF hl hn => ⟨(eval_z 9 (hsz 48 (by decide))).trans (hF.get 9 hn.2.1), by rw [putZ_size]; exact hsz 48 (by decide), hF.now hF.1 rfl⟩)
    · exact step_ox (Op.call { callee := .builtin .len, args := #[.tmp 52], argTypes := #[26] }) (some 53) 9 true 48 [13, 9] h7b.ns (by kernel_rfl) (by kernel_rfl) rfl (by kernel_rfl) (fun l xs W hF hl hn => ⟨(eval_z 9 (hsz 48 (by decide))).trans (hF.get 9 hn.2.1), by rw [putZ_size]; exact hsz 48 (by decide), hF.now hF.1 rfl⟩)
    · exact step_ox (Op.binOp .leq 3 (.tmp 50) (.tmp 53) 3) (some 54) 9 true 48 [11, 14, 9] h7b.ns (by kernel_rfl) (by kernel_rfl) rfl (by kernel_rfl) (fun l xs W hF hl hn => ⟨(eval_z 9 (hsz 48 (by decide))).trans (hF.get 9 hn.2.2.1), by rw [putZ_size]; exact hsz 48 (by decide), hF.now hF.1 rfl⟩)
    · refine step_op (Op.pick (.tmp 48) (.tmp 54) (.const (.bool false))) (some 55) [9, 15] h7b.ns (by kernel_rfl) rfl (by kernel_rfl) (fun o ho hd hw l xs W hF hl hn K hK => ?_)
      have e0 : (putZ a h7b.ns 0 xs).eval (.tmp 48) = .bool false := (eval_z 9 (hsz 48 (by decide))).trans (hF.get 9 hn.1)
      have e1 : (putZ a h7b.ns 0 xs).eval (.tmp 54) = undef := (eval_z 15 (hsz 54 (by decide))).trans (hF.get 15 hn.2.1)
      exact value_ (v := .bool false) (hw _) hd (w1 := W) (by simp only [Act.eval, Array.getD_eq_getD_getElem?] at e0 e1; simp only [execOp, ho]; go_simp) (hK.out _ _ (hF.now hF.1 rfl))
    · refine step_op (Op.move (.tmp 55)) (some 56) [16, 9] h7b.ns (by kernel_rfl) rfl (by kernel_rfl) (fun o ho hd hw l xs W hF hl hn K hK => ?_)
      have e1 : (putZ a h7b.ns 0 xs).eval (.tmp 55) = xs 16 := eval_z 16 (hsz 55 (by decide))
      exact value_ (v := xs 16) (hw _) hd (w1 := W) (by simp only [execOp, ho, e1]; go_simp) (hK.out _ _ (hF.now hF.1 (hF.get 16 hn.1)))
    · exact step_ox (Op.fieldAddr 28 (.tmp 3) 10) (some 57) 17 true 56 [17] h7b.ns (by kernel_rfl) (by kernel_rfl) rfl (by kernel_rfl) (fun l xs W hF hl hn => ⟨(eval_z 17 (hsz 56 (by decide))).trans (hF.get 17 hn.1), by rw [putZ_size]; exact hsz 56 (by decide), hF.now hF.1 rfl⟩)
    · exact step_ox (Op.load 26 (.tmp 57)) (some 58) 17 true 56 [18, 17] h7b.ns (by kernel_rfl) (by kernel_rfl) rfl (by kernel_rfl) (fun l xs W hF hl hn => ⟨(eval_z 17 (hsz 56 (by decide))).trans (hF.get 17 hn.2.1), by rw [putZ_size]; exact hsz 56 (by decide), hF.now hF.1 rfl⟩)
    · exact step_ox (Op.fieldAddr 33 (.tmp 5) 1) (some 59) 17 true 56 [17] h7b.ns (by kernel_rfl) (by kernel_rfl) rfl (by kernel_rfl) (fun l xs W hF hl hn => ⟨(eval_z 17 (hsz 56 (by decide))).trans (hF.get 17 hn.1), by rw [putZ_size]; exact hsz 56 (by decide), hF.now hF.1 rfl⟩)
    · exact step_ox (Op.load 3 (.tmp 59)) (some 60) 17 true 56 [20, 17] h7b.ns (by kernel_rfl) (by kernel_rfl) rfl (by kernel_rfl) (fun l xs W hF hl hn => ⟨(eval_z 17 (hsz 56 (by decide))).trans (hF.get 17 hn.2.1), by rw [putZ_size]; exact hsz 56 (by decide), hF.now hF.1 rfl⟩)
    · exact step_ox (Op.binOp .sub 3 (.tmp 60) (.const (.int .i64 1)) 3) (some 61) 17 true 56 [21, 17] h7b.ns (by kernel_rfl) (by kernel_rfl) rfl (by kernel_rfl) (fun l xs W hF hl hn => ⟨(eval_z 17 (hsz 56 (by decide))).trans (hF.get 17 hn.2.1), by rw [putZ_size]; exact hsz 56 (by decide), hF.now hF.1 rfl⟩)
    · exact step_ox (Op.indexAddr 26 (.tmp 58) (.tmp 61)) (some 62) 17 true 56 [19, 22, 17] h7b.ns (by kernel_rfl) (by kernel_rfl) rfl (by kernel_rfl) (fun l xs W hF hl hn => ⟨(eval_z 17 (hsz 56 (by decide))).trans (hF.get 17 hn.2.2.1), by rw [putZ_size]; exact hsz 56 (by decide), hF.now hF.1 rfl⟩)
    · exact step_ox (Op.load 30 (.tmp 62)) (some 63) 17 true 56 [23, 17] h7b.ns (by kernel_rfl) (by kernel_rfl) rfl (by kernel_rfl) (fun l xs W hF hl hn => ⟨(eval_z 17 (hsz 56 (by decide))).trans (hF.get 17 hn.2.1), by rw [putZ_size]; exact hsz 56 (by decide), hF.now hF.1 rfl⟩)
    · exact step_ox (Op.load 30 (.tmp 4)) (some 64) 17 true 56 [17] h7b.ns (by kernel_rfl) (by kernel_rfl) rfl (by kernel_rfl) (fun l xs W hF hl hn => ⟨(eval_z 17 (hsz 56 (by decide))).trans (hF.get 17 hn.1), by rw [putZ_size]; exact hsz 56 (by decide), hF.now hF.1 rfl⟩)
    · exact step_ox (Op.binOp .eql 30 (.tmp 63) (.tmp 64) 30) (some 65) 17 true 56 [24, 25, 17] h7b.ns (by kernel_rfl) (by kernel_rfl) rfl (by kernel_rfl) (fun l xs W hF hl hn => ⟨(eval_z 17 (hsz 56 (by decide))).trans (hF.get 17 hn.2.2.1), by rw [putZ_size]; exact hsz 56 (by decide), hF.now hF.1 rfl⟩)
    · refine step_op (Op.pick (.tmp 56) (.tmp 65) (.const (.bool false))) (some 66) [17, 26] h7b.ns (by kernel_rfl) rfl (by kernel_rfl) (fun o ho hd hw l xs W hF hl hn K hK => ?_)
      have e0 : (putZ a h7b.ns 0 xs).eval (.tmp 56) = .bool false := (eval_z 17 (hsz 56 (by decide))).trans (hF.get 17 hn.1)
      have e1 : (putZ a h7b.ns 0 xs).eval (.tmp 65) = undef := (eval_z 26 (hsz 65 (by decide))).trans (hF.get 26 hn.2.1)
      exact value_ (v := .bool false) (hw _) hd (w1 := W) (by simp only [Act.eval, Array.getD_eq_getD_getElem?] at e0 e1; simp only [execOp, ho]; go_simp) (hK.out _ _ (hF.now hF.1 rfl))
    · refine step_op (Op.assign (.tmp 66)) (some 6) [27, 17, 0, 1, 2, 3, 4, 5, 6, 7, 8, 9, 10, 11, 12, 13, 14, 15, 16, 17, 18, 19, 20, 21, 22, 23, 24, 25, 26, 27] h7b.ns (by kernel_rfl) rfl (by kernel_rfl) (fun o ho hd hw l xs W hF hl hn K hK => ?_)
      have e1 : (putZ a h7b.ns 0 xs).eval (.tmp 66) = xs 27 := eval_z 27 (hsz 66 (by decide))
      exact value_ (v := xs 27) (hw _) hd (w1 := W) (by simp only [execOp, ho, e1]; go_simp) (hK.out _ _ (hF.now hF.1 (hF.get 27 hn.1)))
abbrev h7c.ns : List (Option Tmp) := [some 39, some 40, some 41, some 42, some 43, some 44, some 45, some 46, some 47, some 48, some 49, some 50, some 51, some 52, some 53, some 54, some 55, some 56, some 57, some 58, some 59, some 60, some 61, some 62, some 63, some 64, some 65, some 66, some 6]
def h7c.T : Bool × List (List Nat × List Nat) := (true, [([], []), ([0], [0]), ([1], [1]), ([1, 2], [1, 2]), ([3, 1], [3]), ([4], [4]), ([5, 4], [4, 5]), ([6, 4], [4, 6]), ([4, 7], [4, 7]), ([8, 4], [8]), ([9], [9]), ([10, 9], [9, 10]), ([9], [9]), ([12, 9], [9, 12]), ([13, 9], [9, 13]), ([11, 14, 9], [9, 11, 14]), ([9, 15], [9, 15]), ([16, 9], [16]), ([17], [17]), ([18, 17], [17, 18]), ([17], [17]), ([20, 17], [17, 20]), ([21, 17], [17, 21]), ([19, 22, 17], [17, 19, 22]), ([23, 17], [17, 23]), ([17], [17]), ([24, 25, 17], [17, 24, 25]), ([17, 26], [17, 26]), ([27, 17, 0, 1, 2, 3, 4, 5, 6, 7, 8, 9, 10, 11, 12, 13, 14, 15, 16, 17, 18, 19, 20, 21, 22, 23, 24, 25, 26, 27], [27])])
theorem h7c.tab : rtab .any (opsOf Tryd.f22 7) = h7c.T := by kernel_rfl
def h7c.V (p : Pol) (t x : Tri) (C0 : Array Value) (A10 : Option Addr) (ad : Addr) (m10 c10 i : Nat) (vd n : Int) (A2 A3 : Option Addr) (m2 d2 m3 d3 b3 b4 b5 : Nat) : Nat → Value → World → Prop
  | 0 => IsV (.bool true)
  | 1 => IsV (.bool true)
  | 2 => IsV (.bool true)
  | 3 => IsV (.bool true)
  | 4 => IsV (.bool true)
  | 5 => IsV (.pointer (some ⟨b5, 1, none⟩))
  | 6 => IsV (.int .i64 n)
  | 7 => IsV (.bool false)
  | 8 => IsV (.bool false)
  | 9 => IsV (.bool false)
  | 10 => IsV (undef)
  | 11 => IsV (undef)
  | 12 => IsV (undef)
  | 13 => IsV (undef)
  | 14 => IsV (undef)
  | 15 => IsV (undef)
  | 16 => IsV (.bool false)
  | 17 => IsV (.bool false)
  | 18 => IsV (undef)
  | 19 => IsV (undef)
  | 20 => IsV (undef)
  | 21 => IsV (undef)
  | 22 => IsV (undef)
  | 23 => IsV (undef)
  | 24 => IsV (undef)
  | 25 => IsV (undef)
  | 26 => IsV (undef)
  | 27 => IsV (.bool false)
  | 28 => IsV (.bool false)
  | _ => fun _ _ => True
theorem h7c.mono {p : Pol} {t x : Tri} {C0 : Array Value} {A10 : Option Addr} {ad : Addr} {m10 c10 i : Nat} {vd n : Int} {A2 A3 : Option Addr} {m2 d2 m3 d3 b3 b4 b5 : Nat} : ∀ (j_ : Nat) {v : Value} {W W' : World}, h7c.V p t x C0 A10 ad m10 c10 i vd n A2 A3 m2 d2 m3 d3 b3 b4 b5 j_ v W → Below W.heap.size W W' → h7c.V p t x C0 A10 ad m10 c10 i vd n A2 A3 m2 d2 m3 d3 b3 b4 b5 j_ v W'
  | 0, _, _, _, h, hb => h
  | 1, _, _, _, h, hb => h
  | 2, _, _, _, h, hb => h
  | 3, _, _, _, h, hb => h
  | 4, _, _, _, h, hb => h
  | 5, _, _, _, h, hb => h
  | 6, _, _, _, h, hb => h
  | 7, _, _, _, h, hb => h
  | 8, _, _, _, h, hb => h
  | 9, _, _, _, h, hb => h
  | 10, _, _, _, h, hb => h
  | 11, _, _, _, h, hb => h
  | 12, _, _, _, h, hb => h
  | 13, _, _, _, h, hb => h
  | 14, _, _, _, h, hb => h
  | 15, _, _, _, h, hb => h
  | 16, _, _, _, h, hb => h
  | 17, _, _, _, h, hb => h
  | 18, _, _, _, h, hb => h
  | 19, _, _, _, h, hb => h
  | 20, _, _, _, h, hb => h
  | 21, _, _, _, h, hb => h
  | 22, _, _, _, h, hb => h
  | 23, _, _, _, h, hb => h
  | 24, _, _, _, h, hb => h
  | 25, _, _, _, h, hb => h
  | 26, _, _, _, h, hb => h
  | 27, _, _, _, h, hb => h
  | 28, _, _, _, h, hb => h
  | n + 29, _, _, _, _, _ => trivial
set_option maxRecDepth 100000 in
set_option maxHeartbeats 2000000 in
theorem h7c.region {Q : Exit → Act → World → Prop} {id : Nat} {a : Act} {w : World} (p : Pol) (t x : Tri) (C0 : Array Value) (A10 : Option Addr) (ad : Addr) (m10 c10 i : Nat) (vd n : Int) (A2 A3 : Option Addr) (m2 d2 m3 d3 b3 b4 b5 : Nat) (kp : k28.K w p C0.toList) (hd1 : decide (1 ≤ n) = false) (hm : Tryd.prog.follows .mixedOrders = true) (hs : a.tmps.size = 150) (h3 : a.eval (.tmp 3) = .pointer (some ⟨b3, 0, none⟩)) (hb3 : w.heap[b3]? = some (Obj.cells C0 28 (0, 0)))  (h4 : a.eval (.tmp 4) = .pointer (some ⟨b4, 0, none⟩)) (hb4 : w.heap[b4]? = some (Obj.cells #[.string t.f0, .string t.f1, .string t.f2] 30 (0, 0)))  (h5 : a.eval (.tmp 5) = .pointer (some ⟨b5, 0, none⟩)) (hb5 : w.heap[b5]? = some (Obj.cells #[.int .i8 vd, .int .i64 n, .slice A2 m2 d2, .slice A3 m3 d3] 33 (0, 0)))  (h7 : a.eval (.tmp 7) = .bool true) (h8 : a.eval (.tmp 8) = .bool true)
    (hdone : ∀ (xs : Nat → Value) (W : World), Below w.heap.size w W → IsV (.bool false) (xs 28) W → Q .normal (putZ a h7c.ns 0 xs) W) :
    (Code.region id (opsOf Tryd.f22 7) true).wp Tryd.prog Q a w := by
  refine region_pred (T := h7c.T) 29 (fun _ W => Below w.heap.size w W) (h7c.V p t x C0 A10 ad m10 c10 i vd n A2 A3 m2 d2 m3 d3 b3 b4 b5) hm (by kernel_rfl) h7c.tab (by kernel_rfl) (by kernel_rfl) (below_drew (Below.refl _ _)) (fun _ h => h) ?hsteps ?hd
  case hd => exact fun xs W hI hV => hdone xs W hI (hV 28 (by decide))
  case hsteps =>
    have hsz : ∀ t, t < 150 → t < a.tmps.size := fun t ht => by rw [hs]; exact ht
    refine ⟨?_, ?_, ?_, ?_, ?_, ?_, ?_, ?_, ?_, ?_, ?_, ?_, ?_, ?_, ?_, ?_, ?_, ?_, ?_, ?_, ?_, ?_, ?_, ?_, ?_, ?_, ?_, ?_, ?_, trivial⟩
    · refine step_op (Op.move (.tmp 7)) (some 39) [] h7c.ns (by kernel_rfl) rfl (by kernel_rfl) (fun o ho hd hw l xs W hF hl hn K hK => ?_)
      have e1 := eval_o (xs := xs) (ns := h7c.ns) h7
      exact value_ (v := .bool true) (hw _) hd (w1 := W) (by simp only [execOp, ho, e1]; go_simp) (hK.out _ _ (hF.now hF.1 (rfl)))
    · refine step_op (Op.move (.tmp 39)) (some 40) [0] h7c.ns (by kernel_rfl) rfl (by kernel_rfl) (fun o ho hd hw l xs W hF hl hn K hK => ?_)
      have e1 : (putZ a h7c.ns 0 xs).eval (.tmp 39) = xs 0 := eval_z 0 (hsz 39 (by decide))
      exact value_ (v := xs 0) (hw _) hd (w1 := W) (by simp only [execOp, ho, e1]; go_simp) (hK.out _ _ (hF.now hF.1 (hF.get 0 hn.1)))
    · refine step_og (Op.move (.tmp 8)) (some 41) 1 true 40 [1] h7c.ns (by kernel_rfl) (by kernel_rfl) rfl (by kernel_rfl) (fun o ho hd hw0 l xs W hF hl hn K hK => ?_)
      have eg : (putZ a h7c.ns 0 xs).eval (.tmp 40) = .bool true := (eval_z 1 (hsz 40 (by decide))).trans (hF.get 1 hn.1)
      have hw := hw0 (putZ a h7c.ns 0 xs) (by rw [putZ_size]; exact hsz 40 (by decide)) eg
      have e1 := eval_o (xs := xs) (ns := h7c.ns) h8
      exact value_ (v := .bool true) hw hd (w1 := W) (by simp only [execOp, ho, e1]; go_simp) (hK.out _ _ (hF.now hF.1 (rfl)))
    · refine step_op (Op.pick (.tmp 40) (.tmp 41) (.const (.bool false))) (some 42) [1, 2] h7c.ns (by kernel_rfl) rfl (by kernel_rfl) (fun o ho hd hw l xs W hF hl hn K hK => ?_)
      have e0 : (putZ a h7c.ns 0 xs).eval (.tmp 40) = .bool true := (eval_z 1 (hsz 40 (by decide))).trans (hF.get 1 hn.1)
      have e1 : (putZ a h7c.ns 0 xs).eval (.tmp 41) = .bool true := (eval_z 2 (hsz 41 (by decide))).trans (hF.get 2 hn.2.1)
      exact value_ (v := .bool true) (hw _) hd (w1 := W) (by simp only [Act.eval, Array.getD_eq_getD_getElem?] at e0 e1; simp only [execOp, ho]; go_simp) (hK.out _ _ (hF.now hF.1 rfl))
    · refine step_op (Op.move (.tmp 42)) (some 43) [3, 1] h7c.ns (by kernel_rfl) rfl (by kernel_rfl) (fun o ho hd hw l xs W hF hl hn K hK => ?_)
      have e1 : (putZ a h7c.ns 0 xs).eval (.tmp 42) = xs 3 := eval_z 3 (hsz 42 (by decide))
      exact value_ (v := xs 3) (hw _) hd (w1 := W) (by simp only [execOp, ho, e1]; go_simp) (hK.out _ _ (hF.now hF.1 (hF.get 3 hn.1)))
    · refine step_og (Op.fieldAddr 33 (.tmp 5) 1) (some 44) 4 true 43 [4] h7c.ns (by kernel_rfl) (by kernel_rfl) rfl (by kernel_rfl) (fun o ho hd hw0 l xs W hF hl hn K hK => ?_)
      have eg : (putZ a h7c.ns 0 xs).eval (.tmp 43) = .bool true := (eval_z 4 (hsz 43 (by decide))).trans (hF.get 4 hn.1)
      have hw := hw0 (putZ a h7c.ns 0 xs) (by rw [putZ_size]; exact hsz 43 (by decide)) eg
      have e1 := eval_o (xs := xs) (ns := h7c.ns) h5
      exact value_ (v := .pointer (some ⟨b5, 1, none⟩)) hw hd (w1 := W) (by simp only [execOp, ho, e1]; go_simp) (hK.out _ _ (hF.now hF.1 rfl))
    · refine step_og (Op.load 3 (.tmp 44)) (some 45) 4 true 43 [5, 4] h7c.ns (by kernel_rfl) (by kernel_rfl) rfl (by kernel_rfl) (fun o ho hd hw0 l xs W hF hl hn K hK => ?_)
      have eg : (putZ a h7c.ns 0 xs).eval (.tmp 43) = .bool true := (eval_z 4 (hsz 43 (by decide))).trans (hF.get 4 hn.2.1)
      have hw := hw0 (putZ a h7c.ns 0 xs) (by rw [putZ_size]; exact hsz 43 (by decide)) eg
      have e0 : (putZ a h7c.ns 0 xs).eval (.tmp 44) = .pointer (some ⟨b5, 1, none⟩) := (eval_z 5 (hsz 44 (by decide))).trans (hF.get 5 hn.1)
      have q0 := (blk_cell (blk_below hb5 hF.1) 1).trans (Eq.refl (some (Value.int .i64 n)))
      exact value_ (v := .int .i64 n) hw hd (w1 := W) (by simp only [Act.eval, Array.getD_eq_getD_getElem?] at e0; simp only [execOp, ho]; go_simp) (hK.out _ _ (hF.now hF.1 rfl))
    · refine step_og (Op.binOp .geq 3 (.tmp 45) (.const (.int .i64 1)) 3) (some 46) 4 true 43 [6, 4] h7c.ns (by kernel_rfl) (by kernel_rfl) rfl (by kernel_rfl) (fun o ho hd hw0 l xs W hF hl hn K hK => ?_)
      have eg : (putZ a h7c.ns 0 xs).eval (.tmp 43) = .bool true := (eval_z 4 (hsz 43 (by decide))).trans (hF.get 4 hn.2.1)
      have hw := hw0 (putZ a h7c.ns 0 xs) (by rw [putZ_size]; exact hsz 43 (by decide)) eg
      have e0 : (putZ a h7c.ns 0 xs).eval (.tmp 45) = .int .i64 n := (eval_z 6 (hsz 45 (by decide))).trans (hF.get 6 hn.1)
      exact value_ (v := .bool false) hw hd (w1 := W) (by simp only [Act.eval, Array.getD_eq_getD_getElem?] at e0; simp only [execOp, ho]; first | (go_simp; done) | (simp [hd1]; done) | (simp [hd2]; done) | (go_simp; simp [hd1]; done) | (go_simp; simp [hd2]; done)) (hK.out _ _ (hF.now hF.1 rfl))
    · refine step_op (Op.pick (.tmp 43) (.tmp 46) (.const (.bool false))) (some 47) [4, 7] h7c.ns (by kernel_rfl) rfl (by kernel_rfl) (fun o ho hd hw l xs W hF hl hn K hK => ?_)
      have e0 : (putZ a h7c.ns 0 xs).eval (.tmp 43) = .bool true := (eval_z 4 (hsz 43 (by decide))).trans (hF.get 4 hn.1)
      have e1 : (putZ a h7c.ns 0 xs).eval (.tmp 46) = .bool false := (eval_z 7 (hsz 46 (by decide))).trans (hF.get 7 hn.2.1)
      exact value_ (v := .bool false) (hw _) hd (w1 := W) (by simp only [Act.eval, Array.getD_eq_getD_getElem?] at e0 e1; simp only [execOp, ho]; go_simp) (hK.out _ _ (hF.now hF.1 rfl))
    · refine step_op (Op.move (.tmp 47)) (some 48) [8, 4] h7c.ns (by kernel_rfl) rfl (by kernel_rfl) (fun o ho hd hw l xs W hF hl hn K hK => ?_)
      have e1 : (putZ a h7c.ns 0 xs).eval (.tmp 47) = xs 8 := eval_z 8 (hsz 47 (by decide))
      exact value_ (v := xs 8) (hw _) hd (w1 := W) (by simp only [execOp, ho, e1]; go_simp) (hK.out _ _ (hF.now hF.1 (hF.get 8 hn.1)))
    · exact step_ox (Op.fieldAddr 33 (.tmp 5) 1) (some 49) 9 true 48 [9] h7c.ns (by kernel_rfl) (by kernel_rfl) rfl (by kernel_rfl) (fun l xs W hF hl hn => ⟨(eval_z 9 (hsz 48 (by decide))).trans (hF.get 9 hn.1), by rw [putZ_size]; exact hsz 48 (by decide), hF.now hF.1 rfl⟩)
    · exact step_ox (Op.load 3 (.tmp 49)) (some 50) 9 true 48 [10, 9] h7c.ns (by kernel_rfl) (by kernel_rfl) rfl (by kernel_rfl) (fun l xs W hF hl hn => ⟨(eval_z 9 (hsz 48 (by decide))).trans (hF.get 9 hn.2.1), by rw [putZ_size]; exact hsz 48 (by decide), hF.now hF.1 rfl⟩)
    · exact step_ox (Op.fieldAddr 28 (.tmp 3) 10) (some 51) 9 true 48 [9] h7c.ns (by kernel_rfl) (by kernel_rfl) rfl (by kernel_rfl) (fun l xs W hF hl hn => ⟨(eval_z 9 (hsz 48 (by decide))).trans (hF.get 9 hn.1), by rw [putZ_size]; exact hsz 48 (by decide), hF.now hF.1 rfl⟩)
    · exact step_ox (Op.load 26 (.tmp 51)) (some 52) 9 true 48 [12, 9] h7c.ns (by kernel_rfl) (by kernel_rfl) rfl (by kernel_rfl) (fun l xs W hF hl hn => ⟨(eval_z 9 (hsz 48 (by decide))).trans (hF.get 9 hn.2.1), by rw [putZ_size]; exact hsz 48 (by decide), hF.now hF.1 rfl⟩)
    · exact step_ox (Op.call { callee := .builtin .len, args := #[.tmp 52], argTypes := #[26] }) (some 53) 9 true 48 [13, 9] h7c.ns (by kernel_rfl) (by kernel_rfl) rfl (by kernel_rfl) (fun l xs W hF hl hn => ⟨(eval_z 9 (hsz 48 (by decide))).trans (hF.get 9 hn.2.1), by rw [putZ_size]; exact hsz 48 (by decide), hF.now hF.1 rfl⟩)
    · exact step_ox (Op.binOp .leq 3 (.tmp 50) (.tmp 53) 3) (some 54) 9 true 48 [11, 14, 9] h7c.ns (by kernel_rfl) (by kernel_rfl) rfl (by kernel_rfl) (fun l xs W hF hl hn => ⟨(eval_z 9 (hsz 48 (by decide))).trans (hF.get 9 hn.2.2.1), by rw [putZ_size]; exact hsz 48 (by decide), hF.now hF.1 rfl⟩)
    · refine step_op (Op.pick (.tmp 48) (.tmp 54) (.const (.bool false))) (some 55) [9, 15] h7c.ns (by kernel_rfl) rfl (by kernel_rfl) (fun o ho hd hw l xs W hF hl hn K hK => ?_)
      have e0 : (putZ a h7c.ns 0 xs).eval (.tmp 48) = .bool false := (eval_z 9 (hsz 48 (by decide))).trans (hF.get 9 hn.1)
      have e1 : (putZ a h7c.ns 0 xs).eval (.tmp 54) = undef := (eval_z 15 (hsz 54 (by decide))).trans (hF.get 15 hn.2.1)
      exact value_ (v := .bool false) (hw _) hd (w1 := W) (by simp only [Act.eval, Array.getD_eq_getD_getElem?] at e0 e1; simp only [execOp, ho]; go_simp) (hK.out _ _ (hF.now hF.1 rfl))
    · refine step_op (Op.move (.tmp 55)) (some 56) [16, 9] h7c.ns (by kernel_rfl) rfl (by kernel_rfl) (fun o ho hd hw l xs W hF hl hn K hK => ?_)
      have e1 : (putZ a h7c.ns 0 xs).eval (.tmp 55) = xs 16 := eval_z 16 (hsz 55 (by decide))
      exact value_ (v := xs 16) (hw _) hd (w1 := W) (by simp only [execOp, ho, e1]; go_simp) (hK.out _ _ (hF.now hF.1 (hF.get 16 hn.1)))
    · exact step_ox (Op.fieldAddr 28 (.tmp 3) 10) (some 57) 17 true 56 [17] h7c.ns (by kernel_rfl) (by kernel_rfl) rfl (by kernel_rfl) (fun l xs W hF hl hn => ⟨(eval_z 17 (hsz 56 (by decide))).trans (hF.get 17 hn.1), by rw [putZ_size]; exact hsz 56 (by decide), hF.now hF.1 rfl⟩)
    · exact step_ox (Op.load 26 (.tmp 57)) (some 58) 17 true 56 [18, 17] h7c.ns (by kernel_rfl) (by kernel_rfl) rfl (by kernel_rfl) (fun l xs W hF hl hn => ⟨(eval_z 17 (hsz 56 (by decide))).trans (hF.get 17 hn.2.1), by rw [putZ_size]; exact hsz 56 (by decide), hF.now hF.1 rfl⟩)
    · exact step_ox (Op.fieldAddr 33 (.tmp 5) 1) (some 59) 17 true 56 [17] h7c.ns (by kernel_rfl) (by kernel_rfl) rfl (by kernel_rfl) (fun l xs W hF hl hn => ⟨(eval_z 17 (hsz 56 (by decide))).trans (hF.get 17 hn.1), by rw [putZ_size]; exact hsz 56 (by decide), hF.now hF.1 rfl⟩)
    · exact step_ox (Op.load 3 (.tmp 59)) (some 60) 17 true 56 [20, 17] h7c.ns (by kernel_rfl) (by kernel_rfl) rfl (by kernel_rfl) (fun l xs W hF hl hn => ⟨(eval_z 17 (hsz 56 (by decide))).trans (hF.get 17 hn.2.1), by rw [putZ_size]; exact hsz 56 (by decide), hF.now hF.1 rfl⟩)
    · exact step_ox (Op.binOp .sub 3 (.tmp 60) (.const (.int .i64 1)) 3) (some 61) 17 true 56 [21, 17] h7c.ns (by kernel_rfl) (by kernel_rfl) rfl (by kernel_rfl) (fun l xs W hF hl hn => ⟨(eval_z 17 (hsz 56 (by decide))).trans (hF.get 17 hn.2.1), by rw [putZ_size]; exact hsz 56 (by decide), hF.now hF.1 rfl⟩)
    · exact step_ox (Op.indexAddr 26 (.tmp 58) (.tmp 61)) (some 62) 17 true 56 [19, 22, 17] h7c.ns (by kernel_rfl) (by kernel_rfl) rfl (by kernel_rfl) (fun l xs W hF hl hn => ⟨(eval_z 17 (hsz 56 (by decide))).trans (hF.get 17 hn.2.2.1), by rw [putZ_size]; exact hsz 56 (by decide), hF.now hF.1 rfl⟩)
    · exact step_ox (Op.load 30 (.tmp 62)) (some 63) 17 true 56 [23, 17] h7c.ns (by kernel_rfl) (by kernel_rfl) rfl (by kernel_rfl) (fun l xs W hF hl hn => ⟨(eval_z 17 (hsz 56 (by decide))).trans (hF.get 17 hn.2.1), by rw [putZ_size]; exact hsz 56 (by decide), hF.now hF.1 rfl⟩)
    · exact step_ox (Op.load 30 (.tmp 4)) (some 64) 17 true 56 [17] h7c.ns (by kernel_rfl) (by kernel_rfl) rfl (by kernel_rfl) (fun l xs W hF hl hn => ⟨(eval_z 17 (hsz 56 (by decide))).trans (hF.get 17 hn.1), by rw [putZ_size]; exact hsz 56 (by decide), hF.now hF.1 rfl⟩)
    · exact step_ox (Op.binOp .eql 30 (.tmp 63) (.tmp 64) 30) (some 65) 17 true 56 [24, 25, 17] h7c.ns (by kernel_rfl) (by kernel_rfl) rfl (by kernel_rfl) (fun l xs W hF hl hn => ⟨(eval_z 17 (hsz 56 (by decide))).trans (hF.get 17 hn.2.2.1), by rw [putZ_size]; exact hsz 56 (by decide), hF.now hF.1 rfl⟩)
    · refine step_op (Op.pick (.tmp 56) (.tmp 65) (.const (.bool false))) (some 66) [17, 26] h7c.ns (by kernel_rfl) rfl (by kernel_rfl) (fun o ho hd hw l xs W hF hl hn K hK => ?_)
      have e0 : (putZ a h7c.ns 0 xs).eval (.tmp 56) = .bool false := (eval_z 17 (hsz 56 (by decide))).trans (hF.get 17 hn.1)
      have e1 : (putZ a h7c.ns 0 xs).eval (.tmp 65) = undef := (eval_z 26 (hsz 65 (by decide))).trans (hF.get 26 hn.2.1)
      exact value_ (v := .bool false) (hw _) hd (w1 := W) (by simp only [Act.eval, Array.getD_eq_getD_getElem?] at e0 e1; simp only [execOp, ho]; go_simp) (hK.out _ _ (hF.now hF.1 rfl))
    · refine step_op (Op.assign (.tmp 66)) (some 6) [27, 17, 0, 1, 2, 3, 4, 5, 6, 7, 8, 9, 10, 11, 12, 13, 14, 15, 16, 17, 18, 19, 20, 21, 22, 23, 24, 25, 26, 27] h7c.ns (by kernel_rfl) rfl (by kernel_rfl) (fun o ho hd hw l xs W hF hl hn K hK => ?_)
      have e1 : (putZ a h7c.ns 0 xs).eval (.tmp 66) = xs 27 := eval_z 27 (hsz 66 (by decide))
      exact value_ (v := xs 27) (hw _) hd (w1 := W) (by simp only [execOp, ho, e1]; go_simp) (hK.out _ _ (hF.now hF.1 (hF.get 27 hn.1)))
abbrev h7d.ns : List (Option Tmp) := [some 39, some 40, some 41, some 42, some 43, some 44, some 45, some 46, some 47, some 48, some 49, some 50, some 51, some 52, some 53, some 54, some 55, some 56, some 57, some 58, some 59, some 60, some 61, some 62, some 63, some 64, some 65, some 66, some 6]
def h7d.T : Bool × List (List Nat × List Nat) := (true, [([], []), ([0], [0]), ([1], [1]), ([1, 2], [1, 2]), ([3, 1], [3]), ([4], [4]), ([5, 4], [4, 5]), ([6, 4], [4, 6]), ([4, 7], [4, 7]), ([8, 4], [8]), ([9], [9]), ([10, 9], [9, 10]), ([9], [9]), ([12, 9], [9, 12]), ([13, 9], [9, 13]), ([11, 14, 9], [9, 11, 14]), ([9, 15], [9, 15]), ([16, 9], [16]), ([17], [17]), ([18, 17], [17, 18]), ([17], [17]), ([20, 17], [17, 20]), ([21, 17], [17, 21]), ([19, 22, 17], [17, 19, 22]), ([23, 17], [17, 23]), ([17], [17]), ([24, 25, 17], [17, 24, 25]), ([17, 26], [17, 26]), ([27, 17, 0, 1, 2, 3, 4, 5, 6, 7, 8, 9, 10, 11, 12, 13, 14, 15, 16, 17, 18, 19, 20, 21, 22, 23, 24, 25, 26, 27], [27])])
theorem h7d.tab : rtab .any (opsOf Tryd.f22 7) = h7d.T := by kernel_rfl
def h7d.V (p : Pol) (t x : Tri) (C0 : Array Value) (A10 : Option Addr) (ad : Addr) (m10 c10 i : Nat) (vd n : Int) (A2 A3 : Option Addr) (m2 d2 m3 d3 b3 b4 b5 : Nat) : Nat → Value → World → Prop
  | 0 => IsV (.bool true)
  | 1 => IsV (.bool true)
  | 2 => IsV (.bool true)
  | 3 => IsV (.bool true)
  | 4 => IsV (.bool true)
  | 5 => IsV (.pointer (some ⟨b5, 1, none⟩))
  | 6 => IsV (.int .i64 n)
  | 7 => IsV (.bool true)
  | 8 => IsV (.bool true)
  | 9 => IsV (.bool true)
  | 10 => IsV (.pointer (some ⟨b5, 1, none⟩))
  | 11 => IsV (.int .i64 n)
  | 12 => IsV (.pointer (some ⟨b3, 10, none⟩))
  | 13 => IsV (.slice A10 m10 c10)
  | 14 => IsV (.int .i64 (m10 : Nat))
  | 15 => IsV (.bool false)
  | 16 => IsV (.bool false)
  | 17 => IsV (.bool false)
  | 18 => IsV (undef)
  | 19 => IsV (undef)
  | 20 => IsV (undef)
  | 21 => IsV (undef)
  | 22 => IsV (undef)
  | 23 => IsV (undef)
  | 24 => IsV (undef)
  | 25 => IsV (undef)
  | 26 => IsV (undef)
  | 27 => IsV (.bool false)
  | 28 => IsV (.bool false)
  | _ => fun _ _ => True
theorem h7d.mono {p : Pol} {t x : Tri} {C0 : Array Value} {A10 : Option Addr} {ad : Addr} {m10 c10 i : Nat} {vd n : Int} {A2 A3 : Option Addr} {m2 d2 m3 d3 b3 b4 b5 : Nat} : ∀ (j_ : Nat) {v : Value} {W W' : World}, h7d.V p t x C0 A10 ad m10 c10 i vd n A2 A3 m2 d2 m3 d3 b3 b4 b5 j_ v W → Below W.heap.size W W' → h7d.V p t x C0 A10 ad m10 c10 i vd n A2 A3 m2 d2 m3 d3 b3 b4 b5 j_ v W'
  | 0, _, _, _, h, hb => h
  | 1, _, _, _, h, hb => h
  | 2, _, _, _, h, hb => h
  | 3, _, _, _, h, hb => h
  | 4, _, _, _, h, hb => h
  | 5, _, _, _, h, hb => h
  | 6, _, _, _, h, hb => h
  | 7, _, _, _, h, hb => h
  | 8, _, _, _, h, hb => h
  | 9, _, _, _, h, hb => h
  | 10, _, _, _, h, hb => h
  | 11, _, _, _, h, hb => h
  | 12, _, _, _, h, hb => h
  | 13, _, _, _, h, hb => h
  | 14, _, _, _, h, hb => h
  | 15, _, _, _, h, hb => h
  | 16, _, _, _, h, hb => h
  | 17, _, _, _, h, hb => h
  | 18, _, _, _, h, hb => h
  | 19, _, _, _, h, hb => h
  | 20, _, _, _, h, hb => h
  | 21, _, _, _, h, hb => h
  | 22, _, _, _, h, hb => h
  | 23, _, _, _, h, hb => h
  | 24, _, _, _, h, hb => h
  | 25, _, _, _, h, hb => h
  | 26, _, _, _, h, hb => h
  | 27, _, _, _, h, hb => h
  | 28, _, _, _, h, hb => h
  | n + 29, _, _, _, _, _ => trivial
set_option maxRecDepth 100000 in
set_option maxHeartbeats 2000000 in
theorem h7d.region {Q : Exit → Act → World → Prop} {id : Nat} {a : Act} {w : World} (p : Pol) (t x : Tri) (C0 : Array Value) (A10 : Option Addr) (ad : Addr) (m10 c10 i : Nat) (vd n : Int) (A2 A3 : Option Addr) (m2 d2 m3 d3 b3 b4 b5 : Nat) (kp : k28.K w p C0.toList) (hd1 : decide (1 ≤ n) = true) (hc10 : C0[10]? = some (Value.slice A10 m10 c10)) (hd2 : decide (n ≤ (m10 : Int)) = false) (hm : Tryd.prog.follows .mixedOrders = true) (hs : a.tmps.size = 150) (h3 : a.eval (.tmp 3) = .pointer (some ⟨b3, 0, none⟩)) (hb3 : w.heap[b3]? = some (Obj.cells C0 28 (0, 0)))  (h4 : a.eval (.tmp 4) = .pointer (some ⟨b4, 0, none⟩)) (hb4 : w.heap[b4]? = some (Obj.cells #[.string t.f0, .string t.f1, .string t.f2] 30 (0, 0)))  (h5 : a.eval (.tmp 5) = .pointer (some ⟨b5, 0, none⟩)) (hb5 : w.heap[b5]? = some (Obj.cells #[.int .i8 vd, .int .i64 n, .slice A2 m2 d2, .slice A3 m3 d3] 33 (0, 0)))  (h7 : a.eval (.tmp 7) = .bool true) (h8 : a.eval (.tmp 8) = .bool true)
    (hdone : ∀ (xs : Nat → Value) (W : World), Below w.heap.size w W → IsV (.bool false) (xs 28) W → Q .normal (putZ a h7d.ns 0 xs) W) :
    (Code.region id (opsOf Tryd.f22 7) true).wp Tryd.prog Q a w := by
  refine region_pred (T := h7d.T) 29 (fun _ W => Below w.heap.size w W) (h7d.V p t x C0 A10 ad m10 c10 i vd n A2 A3 m2 d2 m3 d3 b3 b4 b5) hm (by kernel_rfl) h7d.tab (by kernel_rfl) (by kernel_rfl) (below_drew (Below.refl _ _)) (fun _ h => h) ?hsteps ?hd
  case hd => exact fun xs W hI hV => hdone xs W hI (hV 28 (by decide))
  case hsteps =>
    have hsz : ∀ t, t < 150 → t < a.tmps.size := fun t ht => by rw [hs]; exact ht
    refine ⟨?_, ?_, ?_, ?_, ?_, ?_, ?_, ?_, ?_, ?_, ?_, ?_, ?_, ?_, ?_, ?_, ?_, ?_, ?_, ?_, ?_, ?_, ?_, ?_, ?_, ?_, ?_, ?_, ?_, trivial⟩
    · refine step_op (Op.move (.tmp 7)) (some 39) [] h7d.ns (by kernel_rfl) rfl (by kernel_rfl) (fun o ho hd hw l xs W hF hl hn K hK => ?_)
      have e1 := eval_o (xs := xs) (ns := h7d.ns) h7
      exact value_ (v := .bool true) (hw _) hd (w1 := W) (by simp only [execOp, ho, e1]; go_simp) (hK.out _ _ (hF.now hF.1 (rfl)))
    · refine step_op (Op.move (.tmp 39)) (some 40) [0] h7d.ns (by kernel_rfl) rfl (by kernel_rfl) (fun o ho hd hw l xs W hF hl hn K hK => ?_)
      have e1 : (putZ a h7d.ns 0 xs).eval (.tmp 39) = xs 0 := eval_z 0 (hsz 39 (by decide))
      exact value_ (v := xs 0) (hw _) hd (w1 := W) (by simp only [execOp, ho, e1]; go_simp) (hK.out _ _ (hF.now hF.1 (hF.get 0 hn.1)))
    · refine step_og (Op.move (.tmp 8)) (some 41) 1 true 40 [1] h7d.ns (by kernel_rfl) (by kernel_rfl) rfl (by kernel_rfl) (fun o ho hd hw0 l xs W hF hl hn K hK => ?_)
      have eg : (putZ a h7d.ns 0 xs).eval (.tmp 40) = .bool true := (eval_z 1 (hsz 40 (by decide))).trans (hF.get 1 hn.1)
      have hw := hw0 (putZ a h7d.ns 0 xs) (by rw [putZ_size]; exact hsz 40 (by decide)) eg
      have e1 := eval_o (xs := xs) (ns := h7d.ns) h8
      exact value_ (v := .bool true) hw hd (w1 := W) (by simp only [execOp, ho, e1]; go_simp) (hK.out _ _ (hF.now hF.1 (rfl)))
    · refine step_op (Op.pick (.tmp 40) (.tmp 41) (.const (.bool false))) (some 42) [1, 2] h7d.ns (by kernel_rfl) rfl (by kernel_rfl) (fun o ho hd hw l xs W hF hl hn K hK => ?_)
      have e0 : (putZ a h7d.ns 0 xs).eval (.tmp 40) = .bool true := (eval_z 1 (hsz 40 (by decide))).trans (hF.get 1 hn.1)
      have e1 : (putZ a h7d.ns 0 xs).eval (.tmp 41) = .bool true := (eval_z 2 (hsz 41 (by decide))).trans (hF.get 2 hn.2.1)
      exact value_ (v := .bool true) (hw _) hd (w1 := W) (by simp only [Act.eval, Array.getD_eq_getD_getElem?] at e0 e1; simp only [execOp, ho]; go_simp) (hK.out _ _ (hF.now hF.1 rfl))
    · refine step_op (Op.move (.tmp 42)) (some 43) [3, 1] h7d.ns (by kernel_rfl) rfl (by kernel_rfl) (fun o ho hd hw l xs W hF hl hn K hK => ?_)
      have e1 : (putZ a h7d.ns 0 xs).eval (.tmp 42) = xs 3 := eval_z 3 (hsz 42 (by decide))
      exact value_ (v := xs 3) (hw _) hd (w1 := W) (by simp only [execOp, ho, e1]; go_simp) (hK.out _ _ (hF.now hF.1 (hF.get 3 hn.1)))
    · refine step_og (Op.fieldAddr 33 (.tmp 5) 1) (some 44) 4 true 43 [4] h7d.ns (by kernel_rfl) (by kernel_rfl) rfl (by kernel_rfl) (fun o ho hd hw0 l xs W hF hl hn K hK => ?_)
      have eg : (putZ a h7d.ns 0 xs).eval (.tmp 43) = .bool true := (eval_z 4 (hsz 43 (by decide))).trans (hF.get 4 hn.1)
      have hw := hw0 (putZ a h7d.ns 0 xs) (by rw [putZ_size]; exact hsz 43 (by decide)) eg
      have e1 := eval_o (xs := xs) (ns := h7d.ns) h5
      exact value_ (v := .pointer (some ⟨b5, 1, none⟩)) hw hd (w1 := W) (by simp only [execOp, ho, e1]; go_simp) (hK.out _ _ (hF.now hF.1 rfl))
    · refine step_og (Op.load 3 (.tmp 44)) (some 45) 4 true 43 [5, 4] h7d.ns (by kernel_rfl) (by kernel_rfl) rfl (by kernel_rfl) (fun o ho hd hw0 l xs W hF hl hn K hK => ?_)
      have eg : (putZ a h7d.ns 0 xs).eval (.tmp 43) = .bool true := (eval_z 4 (hsz 43 (by decide))).trans (hF.get 4 hn.2.1)
      have hw := hw0 (putZ a h7d.ns 0 xs) (by rw [putZ_size]; exact hsz 43 (by decide)) eg
      have e0 : (putZ a h7d.ns 0 xs).eval (.tmp 44) = .pointer (some ⟨b5, 1, none⟩) := (eval_z 5 (hsz 44 (by decide))).trans (hF.get 5 hn.1)
      have q0 := (blk_cell (blk_below hb5 hF.1) 1).trans (Eq.refl (some (Value.int .i64 n)))
      exact value_ (v := .int .i64 n) hw hd (w1 := W) (by simp only [Act.eval, Array.getD_eq_getD_getElem?] at e0; simp only [execOp, ho]; go_simp) (hK.out _ _ (hF.now hF.1 rfl))
    · refine step_og (Op.binOp .geq 3 (.tmp 45) (.const (.int .i64 1)) 3) (some 46) 4 true 43 [6, 4] h7d.ns (by kernel_rfl) (by kernel_rfl) rfl (by kernel_rfl) (fun o ho hd hw0 l xs W hF hl hn K hK => ?_)
      have eg : (putZ a h7d.ns 0 xs).eval (.tmp 43) = .bool true := (eval_z 4 (hsz 43 (by decide))).trans (hF.get 4 hn.2.1)
      have hw := hw0 (putZ a h7d.ns 0 xs) (by rw [putZ_size]; exact hsz 43 (by decide)) eg
      have e0 : (putZ a h7d.ns 0 xs).eval (.tmp 45) = .int .i64 n := (eval_z 6 (hsz 45 (by decide))).trans (hF.get 6 hn.1)
      exact value_ (v := .bool true) hw hd (w1 := W) (by simp only [Act.eval, Array.getD_eq_getD_getElem?] at e0; simp only [execOp, ho]; first | (go_simp; done) | (simp [hd1]; done) | (simp [hd2]; done) | (go_simp; simp [hd1]; done) | (go_simp; simp [hd2]; done)) (hK.out _ _ (hF.now hF.1 rfl))
    · refine step_op (Op.pick (.tmp 43) (.tmp 46) (.const (.bool false))) (some 47) [4, 7] h7d.ns (by kernel_rfl) rfl (by kernel_rfl) (fun o ho hd hw l xs W hF hl hn K hK => ?_)
      have e0 : (putZ a h7d.ns 0 xs).eval (.tmp 43) = .bool true := (eval_z 4 (hsz 43 (by decide))).trans (hF.get 4 hn.1)
      have e1 : (putZ a h7d.ns 0 xs).eval (.tmp 46) = .bool true := (eval_z 7 (hsz 46 (by decide))).trans (hF.get 7 hn.2.1)
      exact value_ (v := .bool true) (hw _) hd (w1 := W) (by simp only [Act.eval, Array.getD_eq_getD_getElem?] at e0 e1; simp only [execOp, ho]; go_simp) (hK.out _ _ (hF.now hF.1 rfl))
    · refine step_op (Op.move (.tmp 47)) (some 48) [8, 4] h7d.ns (by kernel_rfl) rfl (by kernel_rfl) (fun o ho hd hw l xs W hF hl hn K hK => ?_)
      have e1 : (putZ a h7d.ns 0 xs).eval (.tmp 47) = xs 8 := eval_z 8 (hsz 47 (by decide))
      exact value_ (v := xs 8) (hw _) hd (w1 := W) (by simp only [execOp, ho, e1]; go_simp) (hK.out _ _ (hF.now hF.1 (hF.get 8 hn.1)))
    · refine step_og (Op.fieldAddr 33 (.tmp 5) 1) (some 49) 9 true 48 [9] h7d.ns (by kernel_rfl) (by kernel_rfl) rfl (by kernel_rfl) (fun o ho hd hw0 l xs W hF hl hn K hK => ?_)
      have eg : (putZ a h7d.ns 0 xs).eval (.tmp 48) = .bool true := (eval_z 9 (hsz 48 (by decide))).trans (hF.get 9 hn.1)
      have hw := hw0 (putZ a h7d.ns 0 xs) (by rw [putZ_size]; exact hsz 48 (by decide)) eg
      have e1 := eval_o (xs := xs) (ns := h7d.ns) h5
      exact value_ (v := .pointer (some ⟨b5, 1, none⟩)) hw hd (w1 := W) (by simp only [execOp, ho, e1]; go_simp) (hK.out _ _ (hF.now hF.1 rfl))
    · refine step_og (Op.load 3 (.tmp 49)) (some 50) 9 true 48 [10, 9] h7d.ns (by kernel_rfl) (by kernel_rfl) rfl (by kernel_rfl) (fun o ho hd hw0 l xs W hF hl hn K hK => ?_)
      have eg : (putZ a h7d.ns 0 xs).eval (.tmp 48) = .bool true := (eval_z 9 (hsz 48 (by decide))).trans (hF.get 9 hn.2.1)
      have hw := hw0 (putZ a h7d.ns 0 xs) (by rw [putZ_size]; exact hsz 48 (by decide)) eg
      have e0 : (putZ a h7d.ns 0 xs).eval (.tmp 49) = .pointer (some ⟨b5, 1, none⟩) := (eval_z 10 (hsz 49 (by decide))).trans (hF.get 10 hn.1)
      have q0 := (blk_cell (blk_below hb5 hF.1) 1).trans (Eq.refl (some (Value.int .i64 n)))
      exact value_ (v := .int .i64 n) hw hd (w1 := W) (by simp only [Act.eval, Array.getD_eq_getD_getElem?] at e0; simp only [execOp, ho]; go_simp) (hK.out _ _ (hF.now hF.1 rfl))
    · refine step_og (Op.fieldAddr 28 (.tmp 3) 10) (some 51) 9 true 48 [9] h7d.ns (by kernel_rfl) (by kernel_rfl) rfl (by kernel_rfl) (fun o ho hd hw0 l xs W hF hl hn K hK => ?_)
      have eg : (putZ a h7d.ns 0 xs).eval (.tmp 48) = .bool true := (eval_z 9 (hsz 48 (by decide))).trans (hF.get 9 hn.1)
      have hw := hw0 (putZ a h7d.ns 0 xs) (by rw [putZ_size]; exact hsz 48 (by decide)) eg
      have e1 := eval_o (xs := xs) (ns := h7d.ns) h3
      exact value_ (v := .pointer (some ⟨b3, 10, none⟩)) hw hd (w1 := W) (by simp only [execOp, ho, e1]; go_simp) (hK.out _ _ (hF.now hF.1 rfl))
    · refine step_og (Op.load 26 (.tmp 51)) (some 52) 9 true 48 [12, 9] h7d.ns (by kernel_rfl) (by kernel_rfl) rfl (by kernel_rfl) (fun o ho hd hw0 l xs W hF hl hn K hK => ?_)
      have eg : (putZ a h7d.ns 0 xs).eval (.tmp 48) = .bool true := (eval_z 9 (hsz 48 (by decide))).trans (hF.get 9 hn.2.1)
      have hw := hw0 (putZ a h7d.ns 0 xs) (by rw [putZ_size]; exact hsz 48 (by decide)) eg
      have e0 : (putZ a h7d.ns 0 xs).eval (.tmp 51) = .pointer (some ⟨b3, 10, none⟩) := (eval_z 12 (hsz 51 (by decide))).trans (hF.get 12 hn.1)
      have q0 := (blk_cell (blk_below hb3 hF.1) 10).trans hc10
      exact value_ (v := .slice A10 m10 c10) hw hd (w1 := W) (by simp only [Act.eval, Array.getD_eq_getD_getElem?] at e0; simp only [execOp, ho]; go_simp) (hK.out _ _ (hF.now hF.1 rfl))
    · refine step_og (Op.call { callee := .builtin .len, args := #[.tmp 52], argTypes := #[26] }) (some 53) 9 true 48 [13, 9] h7d.ns (by kernel_rfl) (by kernel_rfl) rfl (by kernel_rfl) (fun o ho hd hw0 l xs W hF hl hn K hK => ?_)
      have eg : (putZ a h7d.ns 0 xs).eval (.tmp 48) = .bool true := (eval_z 9 (hsz 48 (by decide))).trans (hF.get 9 hn.2.1)
      have hw := hw0 (putZ a h7d.ns 0 xs) (by rw [putZ_size]; exact hsz 48 (by decide)) eg
      have e0 : (putZ a h7d.ns 0 xs).eval (.tmp 52) = .slice A10 m10 c10 := (eval_z 13 (hsz 52 (by decide))).trans (hF.get 13 hn.1)
      exact value_ (v := .int .i64 (m10 : Nat)) hw hd (w1 := W) (by simp only [Act.eval, Array.getD_eq_getD_getElem?] at e0; simp only [execOp, ho]; go_simp) (hK.out _ _ (hF.now hF.1 rfl))
    · refine step_og (Op.binOp .leq 3 (.tmp 50) (.tmp 53) 3) (some 54) 9 true 48 [11, 14, 9] h7d.ns (by kernel_rfl) (by kernel_rfl) rfl (by kernel_rfl) (fun o ho hd hw0 l xs W hF hl hn K hK => ?_)
      have eg : (putZ a h7d.ns 0 xs).eval (.tmp 48) = .bool true := (eval_z 9 (hsz 48 (by decide))).trans (hF.get 9 hn.2.2.1)
      have hw := hw0 (putZ a h7d.ns 0 xs) (by rw [putZ_size]; exact hsz 48 (by decide)) eg
      have e0 : (putZ a h7d.ns 0 xs).eval (.tmp 50) = .int .i64 n := (eval_z 11 (hsz 50 (by decide))).trans (hF.get 11 hn.1)
      have e1 : (putZ a h7d.ns 0 xs).eval (.tmp 53) = .int .i64 (m10 : Nat) := (eval_z 14 (hsz 53 (by decide))).trans (hF.get 14 hn.2.1)
      exact value_ (v := .bool false) hw hd (w1 := W) (by simp only [Act.eval, Array.getD_eq_getD_getElem?] at e0 e1; simp only [execOp, ho]; first | (go_simp; done) | (simp [hd1]; done) | (simp [hd2]; done) | (go_simp; simp [hd1]; done) | (go_simp; simp [hd2]; done)) (hK.out _ _ (hF.now hF.1 rfl))
    · refine step_op (Op.pick (.tmp 48) (.tmp 54) (.const (.bool false))) (some 55) [9, 15] h7d.ns (by kernel_rfl) rfl (by kernel_rfl) (fun o ho hd hw l xs W hF hl hn K hK => ?_)
      have e0 : (putZ a h7d.ns 0 xs).eval (.tmp 48) = .bool true := (eval_z 9 (hsz 48 (by decide))).trans (hF.get 9 hn.1)
      have e1 : (putZ a h7d.ns 0 xs).eval (.tmp 54) = .bool false := (eval_z 15 (hsz 54 (by decide))).trans (hF.get 15 hn.2.1)
      exact value_ (v := .bool false) (hw _) hd (w1 := W) (by simp only [Act.eval, Array.getD_eq_getD_getElem?] at e0 e1; simp only [execOp, ho]; go_simp) (hK.out _ _ (hF.now hF.1 rfl))
    · refine step_op (Op.move (.tmp 55)) (some 56) [16, 9] h7d.ns (by kernel_rfl) rfl (by kernel_rfl) (fun o ho hd hw l xs W hF hl hn K hK => ?_)
      have e1 : (putZ a h7d.ns 0 xs).eval (.tmp 55) = xs 16 := eval_z 16 (hsz 55 (by decide))
      exact value_ (v := xs 16) (hw _) hd (w1 := W) (by simp only [execOp, ho, e1]; go_simp) (hK.out _ _ (hF.now hF.1 (hF.get 16 hn.1)))
    · exact step_ox (Op.fieldAddr 28 (.tmp 3) 10) (some 57) 17 true 56 [17] h7d.ns (by kernel_rfl) (by kernel_rfl) rfl (by kernel_rfl) (fun l xs W hF hl hn => ⟨(eval_z 17 (hsz 56 (by decide))).trans (hF.get 17 hn.1), by rw [putZ_size]; exact hsz 56 (by decide), hF.now hF.1 rfl⟩)
    · exact step_ox (Op.load 26 (.tmp 57)) (some 58) 17 true 56 [18, 17] h7d.ns (by kernel_rfl) (by kernel_rfl) rfl (by kernel_rfl) (fun l xs W hF hl hn => ⟨(eval_z 17 (hsz 56 (by decide))).trans (hF.get 17 hn.2.1), by rw [putZ_size]; exact hsz 56 (by decide), hF.now hF.1 rfl⟩)
    · exact step_ox (Op.fieldAddr 33 (.tmp 5) 1) (some 59) 17 true 56 [17] h7d.ns (by kernel_rfl) (by kernel_rfl) rfl (by kernel_rfl) (fun l xs W hF hl hn => ⟨(eval_z 17 (hsz 56 (by decide))).trans (hF.get 17 hn.1), by rw [putZ_size]; exact hsz 56 (by decide), hF.now hF.1 rfl⟩)
    · exact step_ox (Op.load 3 (.tmp 59)) (some 60) 17 true 56 [20, 17] h7d.ns (by kernel_rfl) (by kernel_rfl) rfl (by kernel_rfl) (fun l xs W hF hl hn => ⟨(eval_z 17 (hsz 56 (by decide))).trans (hF.get 17 hn.2.1), by rw [putZ_size]; exact hsz 56 (by decide), hF.now hF.1 rfl⟩)
    · exact step_ox (Op.binOp .sub 3 (.tmp 60) (.const (.int .i64 1)) 3) (some 61) 17 true 56 [21, 17] h7d.ns (by kernel_rfl) (by kernel_rfl) rfl (by kernel_rfl) (fun l xs W hF hl hn => ⟨(eval_z 17 (hsz 56 (by decide))).trans (hF.get 17 hn.2.1), by rw [putZ_size]; exact hsz 56 (by decide), hF.now hF.1 rfl⟩)
    · exact step_ox (Op.indexAddr 26 (.tmp 58) (.tmp 61)) (some 62) 17 true 56 [19, 22, 17] h7d.ns (by kernel_rfl) (by kernel_rfl) rfl (by kernel_rfl) (fun l xs W hF hl hn => ⟨(eval_z 17 (hsz 56 (by decide))).trans (hF.get 17 hn.2.2.1), by rw [putZ_size]; exact hsz 56 (by decide), hF.now hF.1 rfl⟩)
    · exact step_ox (Op.load 30 (.tmp 62)) (some 63) 17 true 56 [23, 17] h7d.ns (by kernel_rfl) (by kernel_rfl) rfl (by kernel_rfl) (fun l xs W hF hl hn => ⟨(eval_z 17 (hsz 56 (by decide))).trans (hF.get 17 hn.2.1), by rw [putZ_size]; exact hsz 56 (by decide), hF.now hF.1 rfl⟩)
    · exact step_ox (Op.load 30 (.tmp 4)) (some 64) 17 true 56 [17] h7d.ns (by kernel_rfl) (by kernel_rfl) rfl (by kernel_rfl) (fun l xs W hF hl hn => ⟨(eval_z 17 (hsz 56 (by decide))).trans (hF.get 17 hn.1), by rw [putZ_size]; exact hsz 56 (by decide), hF.now hF.1 rfl⟩)
    · exact step_ox (Op.binOp .eql 30 (.tmp 63) (.tmp 64) 30) (some 65) 17 true 56 [24, 25, 17] h7d.ns (by kernel_rfl) (by kernel_rfl) rfl (by kernel_rfl) (fun l xs W hF hl hn => ⟨(eval_z 17 (hsz 56 (by decide))).trans (hF.get 17 hn.2.2.1), by rw [putZ_size]; exact hsz 56 (by decide), hF.now hF.1 rfl⟩)
    · refine step_op (Op.pick (.tmp 56) (.tmp 65) (.const (.bool false))) (some 66) [17, 26] h7d.ns (by kernel_rfl) rfl (by kernel_rfl) (fun o ho hd hw l xs W hF hl hn K hK => ?_)
      have e0 : (putZ a h7d.ns 0 xs).eval (.tmp 56) = .bool false := (eval_z 17 (hsz 56 (by decide))).trans (hF.get 17 hn.1)
      have e1 : (putZ a h7d.ns 0 xs).eval (.tmp 65) = undef := (eval_z 26 (hsz 65 (by decide))).trans (hF.get 26 hn.2.1)
      exact value_ (v := .bool false) (hw _) hd (w1 := W) (by simp only [Act.eval, Array.getD_eq_getD_getElem?] at e0 e1; simp only [execOp, ho]; go_simp) (hK.out _ _ (hF.now hF.1 rfl))
    · refine step_op (Op.assign (.tmp 66)) (some 6) [27, 17, 0, 1, 2, 3, 4, 5, 6, 7, 8, 9, 10, 11, 12, 13, 14, 15, 16, 17, 18, 19, 20, 21, 22, 23, 24, 25, 26, 27] h7d.ns (by kernel_rfl) rfl (by kernel_rfl) (fun o ho hd hw l xs W hF hl hn K hK => ?_)
      have e1 : (putZ a h7d.ns 0 xs).eval (.tmp 66) = xs 27 := eval_z 27 (hsz 66 (by decide))
      exact value_ (v := xs 27) (hw _) hd (w1 := W) (by simp only [execOp, ho, e1]; go_simp) (hK.out _ _ (hF.now hF.1 (hF.get 27 hn.1)))
abbrev h7e.ns : List (Option Tmp) := [some 39, some 40, some 41, some 42, some 43, some 44, some 45, some 46, some 47, some 48, some 49, some 50, some 51, some 52, some 53, some 54, some 55, some 56, some 57, some 58, some 59, some 60, some 61, some 62, some 63, some 64, some 65, some 66, some 6]
def h7e.T : Bool × List (List Nat × List Nat) := (true, [([], []), ([0], [0]), ([1], [1]), ([1, 2], [1, 2]), ([3, 1], [3]), ([4], [4]), ([5, 4], [4, 5]), ([6, 4], [4, 6]), ([4, 7], [4, 7]), ([8, 4], [8]), ([9], [9]), ([10, 9], [9, 10]), ([9], [9]), ([12, 9], [9, 12]), ([13, 9], [9, 13]), ([11, 14, 9], [9, 11, 14]), ([9, 15], [9, 15]), ([16, 9], [16]), ([17], [17]), ([18, 17], [17, 18]), ([17], [17]), ([20, 17], [17, 20]), ([21, 17], [17, 21]), ([19, 22, 17], [17, 19, 22]), ([23, 17], [17, 23]), ([17], [17]), ([24, 25, 17], [17, 24, 25]), ([17, 26], [17, 26]), ([27, 17, 0, 1, 2, 3, 4, 5, 6, 7, 8, 9, 10, 11, 12, 13, 14, 15, 16, 17, 18, 19, 20, 21, 22, 23, 24, 25, 26, 27], [27])])
theorem h7e.tab : rtab .any (opsOf Tryd.f22 7) = h7e.T := by kernel_rfl
def h7e.V (p : Pol) (t x : Tri) (C0 : Array Value) (A10 : Option Addr) (ad : Addr) (m10 c10 i : Nat) (vd n : Int) (A2 A3 : Option Addr) (m2 d2 m3 d3 b3 b4 b5 : Nat) : Nat → Value → World → Prop
  | 0 => IsV (.bool true)
  | 1 => IsV (.bool true)
  | 2 => IsV (.bool true)
  | 3 => IsV (.bool true)
  | 4 => IsV (.bool true)
  | 5 => IsV (.pointer (some ⟨b5, 1, none⟩))
  | 6 => IsV (.int .i64 n)
  | 7 => IsV (.bool true)
  | 8 => IsV (.bool true)
  | 9 => IsV (.bool true)
  | 10 => IsV (.pointer (some ⟨b5, 1, none⟩))
  | 11 => IsV (.int .i64 n)
  | 12 => IsV (.pointer (some ⟨b3, 10, none⟩))
  | 13 => IsV (.slice (some ad) m10 c10)
  | 14 => IsV (.int .i64 (m10 : Nat))
  | 15 => IsV (.bool true)
  | 16 => IsV (.bool true)
  | 17 => IsV (.bool true)
  | 18 => IsV (.pointer (some ⟨b3, 10, none⟩))
  | 19 => IsV (.slice (some ad) m10 c10)
  | 20 => IsV (.pointer (some ⟨b5, 1, none⟩))
  | 21 => IsV (.int .i64 n)
  | 22 => IsV (.int .i64 (i : Nat))
  | 23 => IsV (.pointer (some (ad.add (i * 3))))
  | 24 => IsV (.agg #[.string x.f0, .string x.f1, .string x.f2])
  | 25 => IsV (.agg #[.string t.f0, .string t.f1, .string t.f2])
  | 26 => IsV (.bool (x.f0.toList == t.f0.toList && (x.f1.toList == t.f1.toList && (x.f2.toList == t.f2.toList))))
  | 27 => IsV (.bool (x.f0.toList == t.f0.toList && (x.f1.toList == t.f1.toList && (x.f2.toList == t.f2.toList))))
  | 28 => IsV (.bool (x.f0.toList == t.f0.toList && (x.f1.toList == t.f1.toList && (x.f2.toList == t.f2.toList))))
  | _ => fun _ _ => True
theorem h7e.mono {p : Pol} {t x : Tri} {C0 : Array Value} {A10 : Option Addr} {ad : Addr} {m10 c10 i : Nat} {vd n : Int} {A2 A3 : Option Addr} {m2 d2 m3 d3 b3 b4 b5 : Nat} : ∀ (j_ : Nat) {v : Value} {W W' : World}, h7e.V p t x C0 A10 ad m10 c10 i vd n A2 A3 m2 d2 m3 d3 b3 b4 b5 j_ v W → Below W.heap.size W W' → h7e.V p t x C0 A10 ad m10 c10 i vd n A2 A3 m2 d2 m3 d3 b3 b4 b5 j_ v W'
  | 0, _, _, _, h, hb => h
  | 1, _, _, _, h, hb => h
  | 2, _, _, _, h, hb => h
  | 3, _, _, _, h, hb => h
  | 4, _, _, _, h, hb => h
  | 5, _, _, _, h, hb => h
  | 6, _, _, _, h, hb => h
  | 7, _, _, _, h, hb => h
  | 8, _, _, _, h, hb => h
  | 9, _, _, _, h, hb => h
  | 10, _, _, _, h, hb => h
  | 11, _, _, _, h, hb => h
  | 12, _, _, _, h, hb => h
  | 13, _, _, _, h, hb => h
  | 14, _, _, _, h, hb => h
  | 15, _, _, _, h, hb => h
  | 16, _, _, _, h, hb => h
  | 17, _, _, _, h, hb => h
  | 18, _, _, _, h, hb => h
  | 19, _, _, _, h, hb => h
  | 20, _, _, _, h, hb => h
  | 21, _, _, _, h, hb => h
  | 22, _, _, _, h, hb => h
  | 23, _, _, _, h, hb => h
  | 24, _, _, _, h, hb => h
  | 25, _, _, _, h, hb => h
  | 26, _, _, _, h, hb => h
  | 27, _, _, _, h, hb => h
  | 28, _, _, _, h, hb => h
  | n + 29, _, _, _, _, _ => trivial
set_option maxRecDepth 100000 in
set_option maxHeartbeats 2000000 in
theorem h7e.region {Q : Exit → Act → World → Prop} {id : Nat} {a : Act} {w : World} (p : Pol) (t x : Tri) (C0 : Array Value) (A10 : Option Addr) (ad : Addr) (m10 c10 i : Nat) (vd n : Int) (A2 A3 : Option Addr) (m2 d2 m3 d3 b3 b4 b5 : Nat) (kp : k28.K w p C0.toList) (hd1 : decide (1 ≤ n) = true) (hc10 : C0[10]? = some (Value.slice (some ad) m10 c10)) (hd2 : decide (n ≤ (m10 : Int)) = true) (i0 : (0 : Int) ≤ (i : Int)) (i1 : (i : Int) < (m10 : Int)) (hwn : wrap64 (n - 1) = (i : Int)) (hwk : IntKind.i64.wrap (n - 1) = (i : Int)) (hx : ∀ W, Below w.heap.size w W → W.cell? (ad.add (i * 3)) = some (.string x.f0) ∧ W.cell? ⟨(ad.add (i * 3)).block, (ad.add (i * 3)).off + 1, none⟩ = some (.string x.f1) ∧ W.cell? ⟨(ad.add (i * 3)).block, (ad.add (i * 3)).off + 2, none⟩ = some (.string x.f2)) (hm : Tryd.prog.follows .mixedOrders = true) (hs : a.tmps.size = 150) (h3 : a.eval (.tmp 3) = .pointer (some ⟨b3, 0, none⟩)) (hb3 : w.heap[b3]? = some (Obj.cells C0 28 (0, 0)))  (h4 : a.eval (.tmp 4) = .pointer (some ⟨b4, 0, none⟩)) (hb4 : w.heap[b4]? = some (Obj.cells #[.string t.f0, .string t.f1, .string t.f2] 30 (0, 0)))  (h5 : a.eval (.tmp 5) = .pointer (some ⟨b5, 0, none⟩)) (hb5 : w.heap[b5]? = some (Obj.cells #[.int .i8 vd, .int .i64 n, .slice A2 m2 d2, .slice A3 m3 d3] 33 (0, 0)))  (h7 : a.eval (.tmp 7) = .bool true) (h8 : a.eval (.tmp 8) = .bool true)
    (hdone : ∀ (xs : Nat → Value) (W : World), Below w.heap.size w W → IsV (.bool (x.f0.toList == t.f0.toList && (x.f1.toList == t.f1.toList && (x.f2.toList == t.f2.toList)))) (xs 28) W → Q .normal (putZ a h7e.ns 0 xs) W) :
    (Code.region id (opsOf Tryd.f22 7) true).wp Tryd.prog Q a w := by
  refine region_pred (T := h7e.T) 29 (fun _ W => Below w.heap.size w W) (h7e.V p t x C0 A10 ad m10 c10 i vd n A2 A3 m2 d2 m3 d3 b3 b4 b5) hm (by kernel_rfl) h7e.tab (by kernel_rfl) (by kernel_rfl) (below_drew (Below.refl _ _)) (fun _ h => h) ?hsteps ?hd
  case hd => exact fun xs W hI hV => hdone xs W hI (hV 28 (by decide))
  case hsteps =>
    have hsz : ∀ t, t < 150 → t < a.tmps.size := fun t ht => by rw [hs]; exact ht
    refine ⟨?_, ?_, ?_, ?_, ?_, ?_, ?_, ?_, ?_, ?_, ?_, ?_, ?_, ?_, ?_, ?_, ?_, ?_, ?_, ?_, ?_, ?_, ?_, ?_, ?_, ?_, ?_, ?_, ?_, trivial⟩
    · refine step_op (Op.move (.tmp 7)) (some 39) [] h7e.ns (by kernel_rfl) rfl (by kernel_rfl) (fun o ho hd hw l xs W hF hl hn K hK => ?_)
      have e1 := eval_o (xs := xs) (ns := h7e.ns) h7
      exact value_ (v := .bool true) (hw _) hd (w1 := W) (by simp only [execOp, ho, e1]; go_simp) (hK.out _ _ (hF.now hF.1 (rfl)))
    · refine step_op (Op.move (.tmp 39)) (some 40) [0] h7e.ns (by kernel_rfl) rfl (by kernel_rfl) (fun o ho hd hw l xs W hF hl hn K hK => ?_)
      have e1 : (putZ a h7e.ns 0 xs).eval (.tmp 39) = xs 0 := eval_z 0 (hsz 39 (by decide))
      exact value_ (v := xs 0) (hw _) hd (w1 := W) (by simp only [execOp, ho, e1]; go_simp) (hK.out _ _ (hF.now hF.1 (hF.get 0 hn.1)))
    · refine step_og (Op.move (.tmp 8)) (some 41) 1 true 40 [1] h7e.ns (by kernel_rfl) (by kernel_rfl) rfl (by kernel_rfl) (fun o ho hd hw0 l xs W hF hl hn K hK => ?_)
      have eg : (putZ a h7e.ns 0 xs).eval (.tmp 40) = .bool true := (eval_z 1 (hsz 40 (by decide))).trans (hF.get 1 hn.1)
      have hw := hw0 (putZ a h7e.ns 0 xs) (by rw [putZ_size]; exact hsz 40 (by decide)) eg
      have e1 := eval_o (xs := xs) (ns := h7e.ns) h8
      exact value_ (v := .bool true) hw hd (w1 := W) (by simp only [execOp, ho, e1]; go_simp) (hK.out _ _ (hF.now hF.1 (rfl)))
    · refine step_op (Op.pick (.tmp 40) (.tmp 41) (.const (.bool false))) (some 42) [1, 2] h7e.ns (by kernel_rfl) rfl (by kernel_rfl) (fun o ho hd hw l xs W hF hl hn K hK => ?_)
      have e0 : (putZ a h7e.ns 0 xs).eval (.tmp 40) = .bool true := (eval_z 1 (hsz 40 (by decide))).trans (hF.get 1 hn.1)
      have e1 : (putZ a h7e.ns 0 xs).eval (.tmp 41) = .bool true := (eval_z 2 (hsz 41 (by decide))).trans (hF.get 2 hn.2.1)
      exact value_ (v := .bool true) (hw _) hd (w1 := W) (by simp only [Act.eval, Array.getD_eq_getD_getElem?] at e0 e1; simp only [execOp, ho]; go_simp) (hK.out _ _ (hF.now hF.1 rfl))
    · refine step_op (Op.move (.tmp 42)) (some 43) [3, 1] h7e.ns (by kernel_rfl) rfl (by kernel_rfl) (fun o ho hd hw l xs W hF hl hn K hK => ?_)
      have e1 : (putZ a h7e.ns 0 xs).eval (.tmp 42) = xs 3 := eval_z 3 (hsz 42 (by decide))
      exact value_ (v := xs 3) (hw _) hd (w1 := W) (by simp only [execOp, ho, e1]; go_simp) (hK.out _ _ (hF.now hF.1 (hF.get 3 hn.1)))
    · refine step_og (Op.fieldAddr 33 (.tmp 5) 1) (some 44) 4 true 43 [4] h7e.ns (by kernel_rfl) (by kernel_rfl) rfl (by kernel_rfl) (fun o ho hd hw0 l xs W hF hl hn K hK => ?_)
      have eg : (putZ a h7e.ns 0 xs).eval (.tmp 43) = .bool true := (eval_z 4 (hsz 43 (by decide))).trans (hF.get 4 hn.1)
      have hw := hw0 (putZ a h7e.ns 0 xs) (by rw [putZ_size]; exact hsz 43 (by decide)) eg
      have e1 := eval_o (xs := xs) (ns := h7e.ns) h5
      exact value_ (v := .pointer (some ⟨b5, 1, none⟩)) hw hd (w1 := W) (by simp only [execOp, ho, e1]; go_simp) (hK.out _ _ (hF.now hF.1 rfl))
    · refine step_og (Op.load 3 (.tmp 44)) (some 45) 4 true 43 [5, 4] h7e.ns (by kernel_rfl) (by kernel_rfl) rfl (by kernel_rfl) (fun o ho hd hw0 l xs W hF hl hn K hK => ?_)
      have eg : (putZ a h7e.ns 0 xs).eval (.tmp 43) = .bool true := (eval_z 4 (hsz 43 (by decide))).trans (hF.get 4 hn.2.1)
      have hw := hw0 (putZ a h7e.ns 0 xs) (by rw [putZ_size]; exact hsz 43 (by decide)) eg
      have e0 : (putZ a h7e.ns 0 xs).eval (.tmp 44) = .pointer (some ⟨b5, 1, none⟩) := (eval_z 5 (hsz 44 (by decide))).trans (hF.get 5 hn.1)
      have q0 := (blk_cell (blk_below hb5 hF.1) 1).trans (Eq.refl (some (Value.int .i64 n)))
      exact value_ (v := .int .i64 n) hw hd (w1 := W) (by simp only [Act.eval, Array.getD_eq_getD_getElem?] at e0; simp only [execOp, ho]; go_simp) (hK.out _ _ (hF.now hF.1 rfl))
    · refine step_og (Op.binOp .geq 3 (.tmp 45) (.const (.int .i64 1)) 3) (some 46) 4 true 43 [6, 4] h7e.ns (by kernel_rfl) (by kernel_rfl) rfl (by kernel_rfl) (fun o ho hd hw0 l xs W hF hl hn K hK => ?_)
      have eg : (putZ a h7e.ns 0 xs).eval (.tmp 43) = .bool true := (eval_z 4 (hsz 43 (by decide))).trans (hF.get 4 hn.2.1)
      have hw := hw0 (putZ a h7e.ns 0 xs) (by rw [putZ_size]; exact hsz 43 (by decide)) eg
      have e0 : (putZ a h7e.ns 0 xs).eval (.tmp 45) = .int .i64 n := (eval_z 6 (hsz 45 (by decide))).trans (hF.get 6 hn.1)
      exact value_ (v := .bool true) hw hd (w1 := W) (by simp only [Act.eval, Array.getD_eq_getD_getElem?] at e0; simp only [execOp, ho]; first | (go_simp; done) | (simp [hd1]; done) | (simp [hd2]; done) | (go_simp; simp [hd1]; done) | (go_simp; simp [hd2]; done)) (hK.out _ _ (hF.now hF.1 rfl))
    · refine step_op (Op.pick (.tmp 43) (.tmp 46) (.const (.bool false))) (some 47) [4, 7] h7e.ns (by kernel_rfl) rfl (by kernel_rfl) (fun o ho hd hw l xs W hF hl hn K hK => ?_)
      have e0 : (putZ a h7e.ns 0 xs).eval (.tmp 43) = .bool true := (eval_z 4 (hsz 43 (by decide))).trans (hF.get 4 hn.1)
      have e1 : (putZ a h7e.ns 0 xs).eval (.tmp 46) = .bool true := (eval_z 7 (hsz 46 (by decide))).trans (hF.get 7 hn.2.1)
      exact value_ (v := .bool true) (hw _) hd (w1 := W) (by simp only [Act.eval, Array.getD_eq_getD_getElem?] at e0 e1; simp only [execOp, ho]; go_simp) (hK.out _ _ (hF.now hF.1 rfl))
    · refine step_op (Op.move (.tmp 47)) (some 48) [8, 4] h7e.ns (by kernel_rfl) rfl (by kernel_rfl) (fun o ho hd hw l xs W hF hl hn K hK => ?_)
      have e1 : (putZ a h7e.ns 0 xs).eval (.tmp 47) = xs 8 := eval_z 8 (hsz 47 (by decide))
      exact value_ (v := xs 8) (hw _) hd (w1 := W) (by simp only [execOp, ho, e1]; go_simp) (hK.out _ _ (hF.now hF.1 (hF.get 8 hn.1)))
    · refine step_og (Op.fieldAddr 33 (.tmp 5) 1) (some 49) 9 true 48 [9] h7e.ns (by kernel_rfl) (by kernel_rfl) rfl (by kernel_rfl) (fun o ho hd hw0 l xs W hF hl hn K hK => ?_)
      have eg : (putZ a h7e.ns 0 xs).eval (.tmp 48) = .bool true := (eval_z 9 (hsz 48 (by decide))).trans (hF.get 9 hn.1)
      have hw := hw0 (putZ a h7e.ns 0 xs) (by rw [putZ_size]; exact hsz 48 (by decide)) eg
      have e1 := eval_o (xs := xs) (ns := h7e.ns) h5
      exact value_ (v := .pointer (some ⟨b5, 1, none⟩)) hw hd (w1 := W) (by simp only [execOp, ho, e1]; go_simp) (hK.out _ _ (hF.now hF.1 rfl))
    · refine step_og (Op.load 3 (.tmp 49)) (some 50) 9 true 48 [10, 9] h7e.ns (by kernel_rfl) (by kernel_rfl) rfl (by kernel_rfl) (fun o ho hd hw0 l xs W hF hl hn K hK => ?_)
      have eg : (putZ a h7e.ns 0 xs).eval (.tmp 48) = .bool true := (eval_z 9 (hsz 48 (by decide))).trans (hF.get 9 hn.2.1)
      have hw := hw0 (putZ a h7e.ns 0 xs) (by rw [putZ_size]; exact hsz 48 (by decide)) eg
      have e0 : (putZ a h7e.ns 0 xs).eval (.tmp 49) = .pointer (some ⟨b5, 1, none⟩) := (eval_z 10 (hsz 49 (by decide))).trans (hF.get 10 hn.1)
      have q0 := (blk_cell (blk_below hb5 hF.1) 1).trans (Eq.refl (some (Value.int .i64 n)))
      exact value_ (v := .int .i64 n) hw hd (w1 := W) (by simp only [Act.eval, Array.getD_eq_getD_getElem?] at e0; simp only [execOp, ho]; go_simp) (hK.out _ _ (hF.now hF.1 rfl))
    · refine step_og (Op.fieldAddr 28 (.tmp 3) 10) (some 51) 9 true 48 [9] h7e.ns (by kernel_rfl) (by kernel_rfl) rfl (by kernel_rfl) (fun o ho hd hw0 l xs W hF hl hn K hK => ?_)
      have eg : (putZ a h7e.ns 0 xs).eval (.tmp 48) = .bool true := (eval_z 9 (hsz 48 (by decide))).trans (hF.get 9 hn.1)
      have hw := hw0 (putZ a h7e.ns 0 xs) (by rw [putZ_size]; exact hsz 48 (by decide)) eg
      have e1 := eval_o (xs := xs) (ns := h7e.ns) h3
      exact value_ (v := .pointer (some ⟨b3, 10, none⟩)) hw hd (w1 := W) (by simp only [execOp, ho, e1]; go_simp) (hK.out _ _ (hF.now hF.1 rfl))
    · refine step_og (Op.load 26 (.tmp 51)) (some 52) 9 true 48 [12, 9] h7e.ns (by kernel_rfl) (by kernel_rfl) rfl (by kernel_rfl) (fun o ho hd hw0 l xs W hF hl hn K hK => ?_)
      have eg : (putZ a h7e.ns 0 xs).eval (.tmp 48) = .bool true := (eval_z 9 (hsz 48 (by decide))).trans (hF.get 9 hn.2.1)
      have hw := hw0 (putZ a h7e.ns 0 xs) (by rw [putZ_size]; exact hsz 48 (by decide)) eg
      have e0 : (putZ a h7e.ns 0 xs).eval (.tmp 51) = .pointer (some ⟨b3, 10, none⟩) := (eval_z 12 (hsz 51 (by decide))).trans (hF.get 12 hn.1)
      have q0 := (blk_cell (blk_below hb3 hF.1) 10).trans hc10
      exact value_ (v := .slice (some ad) m10 c10) hw hd (w1 := W) (by simp only [Act.eval, Array.getD_eq_getD_getElem?] at e0; simp only [execOp, ho]; go_simp) (hK.out _ _ (hF.now hF.1 rfl))
    · refine step_og (Op.call { callee := .builtin .len, args := #[.tmp 52], argTypes := #[26] }) (some 53) 9 true 48 [13, 9] h7e.ns (by kernel_rfl) (by kernel_rfl) rfl (by kernel_rfl) (fun o ho hd hw0 l xs W hF hl hn K hK => ?_)
      have eg : (putZ a h7e.ns 0 xs).eval (.tmp 48) = .bool true := (eval_z 9 (hsz 48 (by decide))).trans (hF.get 9 hn.2.1)
      have hw := hw0 (putZ a h7e.ns 0 xs) (by rw [putZ_size]; exact hsz 48 (by decide)) eg
      have e0 : (putZ a h7e.ns 0 xs).eval (.tmp 52) = .slice (some ad) m10 c10 := (eval_z 13 (hsz 52 (by decide))).trans (hF.get 13 hn.1)
      exact value_ (v := .int .i64 (m10 : Nat)) hw hd (w1 := W) (by simp only [Act.eval, Array.getD_eq_getD_getElem?] at e0; simp only [execOp, ho]; go_simp) (hK.out _ _ (hF.now hF.1 rfl))
    · refine step_og (Op.binOp .leq 3 (.tmp 50) (.tmp 53) 3) (some 54) 9 true 48 [11, 14, 9] h7e.ns (by kernel_rfl) (by kernel_rfl) rfl (by kernel_rfl) (fun o ho hd hw0 l xs W hF hl hn K hK => ?_)
      have eg : (putZ a h7e.ns 0 xs).eval (.tmp 48) = .bool true := (eval_z 9 (hsz 48 (by decide))).trans (hF.get 9 hn.2.2.1)
      have hw := hw0 (putZ a h7e.ns 0 xs) (by rw [putZ_size]; exact hsz 48 (by decide)) eg
      have e0 : (putZ a h7e.ns 0 xs).eval (.tmp 50) = .int .i64 n := (eval_z 11 (hsz 50 (by decide))).trans (hF.get 11 hn.1)
      have e1 : (putZ a h7e.ns 0 xs).eval (.tmp 53) = .int .i64 (m10 : Nat) := (eval_z 14 (hsz 53 (by decide))).trans (hF.get 14 hn.2.1)
      exact value_ (v := .bool true) hw hd (w1 := W) (by simp only [Act.eval, Array.getD_eq_getD_getElem?] at e0 e1; simp only [execOp, ho]; first | (go_simp; done) | (simp [hd1]; done) | (simp [hd2]; done) | (go_simp; simp [hd1]; done) | (go_simp; simp [hd2]; done)) (hK.out _ _ (hF.now hF.1 rfl))
    · refine step_op (Op.pick (.tmp 48) (.tmp 54) (.const (.bool false))) (some 55) [9, 15] h7e.ns (by kernel_rfl) rfl (by kernel_rfl) (fun o ho hd hw l xs W hF hl hn K hK => ?_)
      have e0 : (putZ a h7e.ns 0 xs).eval (.tmp 48) = .bool true := (eval_z 9 (hsz 48 (by decide))).trans (hF.get 9 hn.1)
      have e1 : (putZ a h7e.ns 0 xs).eval (.tmp 54) = .bool true := (eval_z 15 (hsz 54 (by decide))).trans (hF.get 15 hn.2.1)
      exact value_ (v := .bool true) (hw _) hd (w1 := W) (by simp only [Act.eval, Array.getD_eq_getD_getElem?] at e0 e1; simp only [execOp, ho]; go_simp) (hK.out _ _ (hF.now hF.1 rfl))
    · refine step_op (Op.move (.tmp 55)) (some 56) [16, 9] h7e.ns (by kernel_rfl) rfl (by kernel_rfl) (fun o ho hd hw l xs W hF hl hn K hK => ?_)
      have e1 : (putZ a h7e.ns 0 xs).eval (.tmp 55) = xs 16 := eval_z 16 (hsz 55 (by decide))
      exact value_ (v := xs 16) (hw _) hd (w1 := W) (by simp only [execOp, ho, e1]; go_simp) (hK.out _ _ (hF.now hF.1 (hF.get 16 hn.1)))
    · refine step_og (Op.fieldAddr 28 (.tmp 3) 10) (some 57) 17 true 56 [17] h7e.ns (by kernel_rfl) (by kernel_rfl) rfl (by kernel_rfl) (fun o ho hd hw0 l xs W hF hl hn K hK => ?_)
      have eg : (putZ a h7e.ns 0 xs).eval (.tmp 56) = .bool true := (eval_z 17 (hsz 56 (by decide))).trans (hF.get 17 hn.1)
      have hw := hw0 (putZ a h7e.ns 0 xs) (by rw [putZ_size]; exact hsz 56 (by decide)) eg
      have e1 := eval_o (xs := xs) (ns := h7e.ns) h3
      exact value_ (v := .pointer (some ⟨b3, 10, none⟩)) hw hd (w1 := W) (by simp only [execOp, ho, e1]; go_simp) (hK.out _ _ (hF.now hF.1 rfl))
    · refine step_og (Op.load 26 (.tmp 57)) (some 58) 17 true 56 [18, 17] h7e.ns (by kernel_rfl) (by kernel_rfl) rfl (by kernel_rfl) (fun o ho hd hw0 l xs W hF hl hn K hK => ?_)
      have eg : (putZ a h7e.ns 0 xs).eval (.tmp 56) = .bool true := (eval_z 17 (hsz 56 (by decide))).trans (hF.get 17 hn.2.1)
      have hw := hw0 (putZ a h7e.ns 0 xs) (by rw [putZ_size]; exact hsz 56 (by decide)) eg
      have e0 : (putZ a h7e.ns 0 xs).eval (.tmp 57) = .pointer (some ⟨b3, 10, none⟩) := (eval_z 18 (hsz 57 (by decide))).trans (hF.get 18 hn.1)
      have q0 := (blk_cell (blk_below hb3 hF.1) 10).trans hc10
      exact value_ (v := .slice (some ad) m10 c10) hw hd (w1 := W) (by simp only [Act.eval, Array.getD_eq_getD_getElem?] at e0; simp only [execOp, ho]; go_simp) (hK.out _ _ (hF.now hF.1 rfl))
    · refine step_og (Op.fieldAddr 33 (.tmp 5) 1) (some 59) 17 true 56 [17] h7e.ns (by kernel_rfl) (by kernel_rfl) rfl (by kernel_rfl) (fun o ho hd hw0 l xs W hF hl hn K hK => ?_)
      have eg : (putZ a h7e.ns 0 xs).eval (.tmp 56) = .bool true := (eval_z 17 (hsz 56 (by decide))).trans (hF.get 17 hn.1)
      have hw := hw0 (putZ a h7e.ns 0 xs) (by rw [putZ_size]; exact hsz 56 (by decide)) eg
      have e1 := eval_o (xs := xs) (ns := h7e.ns) h5
      exact value_ (v := .pointer (some ⟨b5, 1, none⟩)) hw hd (w1 := W) (by simp only [execOp, ho, e1]; go_simp) (hK.out _ _ (hF.now hF.1 rfl))
    · refine step_og (Op.load 3 (.tmp 59)) (some 60) 17 true 56 [20, 17] h7e.ns (by kernel_rfl) (by kernel_rfl) rfl (by kernel_rfl) (fun o ho hd hw0 l xs W hF hl hn K hK => ?_)
      have eg : (putZ a h7e.ns 0 xs).eval (.tmp 56) = .bool true := (eval_z 17 (hsz 56 (by decide))).trans (hF.get 17 hn.2.1)
      have hw := hw0 (putZ a h7e.ns 0 xs) (by rw [putZ_size]; exact hsz 56 (by decide)) eg
      have e0 : (putZ a h7e.ns 0 xs).eval (.tmp 59) = .pointer (some ⟨b5, 1, none⟩) := (eval_z 20 (hsz 59 (by decide))).trans (hF.get 20 hn.1)
      have q0 := (blk_cell (blk_below hb5 hF.1) 1).trans (Eq.refl (some (Value.int .i64 n)))
      exact value_ (v := .int .i64 n) hw hd (w1 := W) (by simp only [Act.eval, Array.getD_eq_getD_getElem?] at e0; simp only [execOp, ho]; go_simp) (hK.out _ _ (hF.now hF.1 rfl))
    · refine step_og (Op.binOp .sub 3 (.tmp 60) (.const (.int .i64 1)) 3) (some 61) 17 true 56 [21, 17] h7e.ns (by kernel_rfl) (by kernel_rfl) rfl (by kernel_rfl) (fun o ho hd hw0 l xs W hF hl hn K hK => ?_)
      have eg : (putZ a h7e.ns 0 xs).eval (.tmp 56) = .bool true := (eval_z 17 (hsz 56 (by decide))).trans (hF.get 17 hn.2.1)
      have hw := hw0 (putZ a h7e.ns 0 xs) (by rw [putZ_size]; exact hsz 56 (by decide)) eg
      have e0 : (putZ a h7e.ns 0 xs).eval (.tmp 60) = .int .i64 n := (eval_z 21 (hsz 60 (by decide))).trans (hF.get 21 hn.1)
      exact value_ (v := .int .i64 (i : Nat)) hw hd (w1 := W) (by simp only [Act.eval, Array.getD_eq_getD_getElem?] at e0; simp only [execOp, ho]; first | (go_simp; done) | (go_simp; rw [hwn]; done) | (go_simp; rw [hwk]; done) | (go_simp; simp [hwn, hwk]; done)) (hK.out _ _ (hF.now hF.1 rfl))
    · refine step_og (Op.indexAddr 26 (.tmp 58) (.tmp 61)) (some 62) 17 true 56 [19, 22, 17] h7e.ns (by kernel_rfl) (by kernel_rfl) rfl (by kernel_rfl) (fun o ho hd hw0 l xs W hF hl hn K hK => ?_)
      have eg : (putZ a h7e.ns 0 xs).eval (.tmp 56) = .bool true := (eval_z 17 (hsz 56 (by decide))).trans (hF.get 17 hn.2.2.1)
      have hw := hw0 (putZ a h7e.ns 0 xs) (by rw [putZ_size]; exact hsz 56 (by decide)) eg
      have e0 : (putZ a h7e.ns 0 xs).eval (.tmp 58) = .slice (some ad) m10 c10 := (eval_z 19 (hsz 58 (by decide))).trans (hF.get 19 hn.1)
      have e1 : (putZ a h7e.ns 0 xs).eval (.tmp 61) = .int .i64 (i : Nat) := (eval_z 22 (hsz 61 (by decide))).trans (hF.get 22 hn.2.1)
      exact value_ (v := .pointer (some (ad.add (i * 3)))) hw hd (w1 := W) (by simp only [Act.eval, Array.getD_eq_getD_getElem?] at e0 e1; simp only [execOp, ho]; go_simp) (hK.out _ _ (hF.now hF.1 rfl))
    · refine step_og (Op.load 30 (.tmp 62)) (some 63) 17 true 56 [23, 17] h7e.ns (by kernel_rfl) (by kernel_rfl) rfl (by kernel_rfl) (fun o ho hd hw0 l xs W hF hl hn K hK => ?_)
      have eg : (putZ a h7e.ns 0 xs).eval (.tmp 56) = .bool true := (eval_z 17 (hsz 56 (by decide))).trans (hF.get 17 hn.2.1)
      have hw := hw0 (putZ a h7e.ns 0 xs) (by rw [putZ_size]; exact hsz 56 (by decide)) eg
      have e0 : (putZ a h7e.ns 0 xs).eval (.tmp 62) = .pointer (some (ad.add (i * 3))) := (eval_z 23 (hsz 62 (by decide))).trans (hF.get 23 hn.1)
      obtain ⟨q0, q1, q2⟩ := hx W hF.1
      exact value_ (v := .agg #[.string x.f0, .string x.f1, .string x.f2]) hw hd (w1 := W) (by simp only [Act.eval, Array.getD_eq_getD_getElem?] at e0; simp only [execOp, ho]; go_simp) (hK.out _ _ (hF.now hF.1 rfl))
    · refine step_og (Op.load 30 (.tmp 4)) (some 64) 17 true 56 [17] h7e.ns (by kernel_rfl) (by kernel_rfl) rfl (by kernel_rfl) (fun o ho hd hw0 l xs W hF hl hn K hK => ?_)
      have eg : (putZ a h7e.ns 0 xs).eval (.tmp 56) = .bool true := (eval_z 17 (hsz 56 (by decide))).trans (hF.get 17 hn.1)
      have hw := hw0 (putZ a h7e.ns 0 xs) (by rw [putZ_size]; exact hsz 56 (by decide)) eg
      have e1 := eval_o (xs := xs) (ns := h7e.ns) h4
      exact load_c hw hd ho b4 e1 (blk_below hb4 hF.1) Tryd.underlying30 rfl (by kernel_rfl) (hK.out _ _ (hF.now hF.1 (rfl)))
    · refine step_og (Op.binOp .eql 30 (.tmp 63) (.tmp 64) 30) (some 65) 17 true 56 [24, 25, 17] h7e.ns (by kernel_rfl) (by kernel_rfl) rfl (by kernel_rfl) (fun o ho hd hw0 l xs W hF hl hn K hK => ?_)
      have eg : (putZ a h7e.ns 0 xs).eval (.tmp 56) = .bool true := (eval_z 17 (hsz 56 (by decide))).trans (hF.get 17 hn.2.2.1)
      have hw := hw0 (putZ a h7e.ns 0 xs) (by rw [putZ_size]; exact hsz 56 (by decide)) eg
      have e0 : (putZ a h7e.ns 0 xs).eval (.tmp 63) = .agg #[.string x.f0, .string x.f1, .string x.f2] := (eval_z 24 (hsz 63 (by decide))).trans (hF.get 24 hn.1)
      have e1 : (putZ a h7e.ns 0 xs).eval (.tmp 64) = .agg #[.string t.f0, .string t.f1, .string t.f2] := (eval_z 25 (hsz 64 (by decide))).trans (hF.get 25 hn.2.1)
      exact value_ (v := .bool (x.f0.toList == t.f0.toList && (x.f1.toList == t.f1.toList && (x.f2.toList == t.f2.toList)))) hw hd (w1 := W) (by simp only [Act.eval, Array.getD_eq_getD_getElem?] at e0 e1; simp only [execOp, ho]; go_simp) (hK.out _ _ (hF.now hF.1 rfl))
    · refine step_op (Op.pick (.tmp 56) (.tmp 65) (.const (.bool false))) (some 66) [17, 26] h7e.ns (by kernel_rfl) rfl (by kernel_rfl) (fun o ho hd hw l xs W hF hl hn K hK => ?_)
      have e0 : (putZ a h7e.ns 0 xs).eval (.tmp 56) = .bool true := (eval_z 17 (hsz 56 (by decide))).trans (hF.get 17 hn.1)
      have e1 : (putZ a h7e.ns 0 xs).eval (.tmp 65) = .bool (x.f0.toList == t.f0.toList && (x.f1.toList == t.f1.toList && (x.f2.toList == t.f2.toList))) := (eval_z 26 (hsz 65 (by decide))).trans (hF.get 26 hn.2.1)
      exact value_ (v := .bool (x.f0.toList == t.f0.toList && (x.f1.toList == t.f1.toList && (x.f2.toList == t.f2.toList)))) (hw _) hd (w1 := W) (by simp only [Act.eval, Array.getD_eq_getD_getElem?] at e0 e1; simp only [execOp, ho]; go_simp) (hK.out _ _ (hF.now hF.1 rfl))
    · refine step_op (Op.assign (.tmp 66)) (some 6) [27, 17, 0, 1, 2, 3, 4, 5, 6, 7, 8, 9, 10, 11, 12, 13, 14, 15, 16, 17, 18, 19, 20, 21, 22, 23, 24, 25, 26, 27] h7e.ns (by kernel_rfl) rfl (by kernel_rfl) (fun o ho hd hw l xs W hF hl hn K hK => ?_)
      have e1 : (putZ a h7e.ns 0 xs).eval (.tmp 66) = xs 27 := eval_z 27 (hsz 66 (by decide))
      exact value_ (v := xs 27) (hw _) hd (w1 := W) (by simp only [execOp, ho, e1]; go_simp) (hK.out _ _ (hF.now hF.1 (hF.get 27 hn.1)))
abbrev h15a.ns : List (Option Tmp) := [some 112, some 113, some 114, some 115, some 116, some 117, some 118, some 119, some 120, some 121, some 122, some 123, some 124, some 125, some 126, some 127, some 128, some 129, some 130, some 131, some 6]
def h15a.T : Bool × List (List Nat × List Nat) := (true, [([], []), ([0], [0]), ([], []), ([2], [2]), ([], []), ([4], [4]), ([], []), ([6], [6]), ([1, 3, 5, 7, 1], [1, 3, 5, 7]), ([8, 8], [8]), ([9], [9]), ([10, 9, 9], [9, 10]), ([9], [9]), ([12, 9], [9, 12]), ([9], [9]), ([14, 9], [9, 14]), ([9], [9]), ([16, 9], [9, 16]), ([11, 13, 15, 17, 11, 9], [9, 11, 13, 15, 17]), ([9, 18], [9, 18]), ([19, 18, 0, 1, 2, 3, 4, 5, 6, 7, 8, 9, 10, 11, 12, 13, 14, 15, 16, 17, 18, 19], [19])])
theorem h15a.tab : rtab .any (opsOf Tryd.f22 15) = h15a.T := by kernel_rfl
def h15a.V (p : Pol) (t : Tri) (u : Rule) (C0 : Array Value) (vd n : Int) (A2 A3 A6 : Option Addr) (ws wt : List ByteArray) (d2 d3 m6 d6 b3 b4 b5 b9 : Nat) (bw : Bool) : Nat → Value → World → Prop
  | 0 => IsV (.agg C0)
  | 1 => PaV (p.f5 ++ p.f6)
  | 2 => IsV (.pointer (some ⟨b5, 2, none⟩))
  | 3 => IsV (.slice A2 ws.length d2)
  | 4 => IsV (.pointer (some ⟨b4, 0, none⟩))
  | 5 => IsV (.string t.f0)
  | 6 => IsV (.pointer (some ⟨b9, 1, none⟩))
  | 7 => IsV (.string u.f1)
  | 8 => IsV (.bool false)
  | 9 => IsV (.bool false)
  | 10 => IsV (undef)
  | 11 => IsV (undef)
  | 12 => IsV (undef)
  | 13 => IsV (undef)
  | 14 => IsV (undef)
  | 15 => IsV (undef)
  | 16 => IsV (undef)
  | 17 => IsV (undef)
  | 18 => IsV (undef)
  | 19 => IsV (.bool false)
  | 20 => IsV (.bool false)
  | _ => fun _ _ => True
theorem h15a.mono {p : Pol} {t : Tri} {u : Rule} {C0 : Array Value} {vd n : Int} {A2 A3 A6 : Option Addr} {ws wt : List ByteArray} {d2 d3 m6 d6 b3 b4 b5 b9 : Nat} {bw : Bool} : ∀ (j_ : Nat) {v : Value} {W W' : World}, h15a.V p t u C0 vd n A2 A3 A6 ws wt d2 d3 m6 d6 b3 b4 b5 b9 bw j_ v W → Below W.heap.size W W' → h15a.V p t u C0 vd n A2 A3 A6 ws wt d2 d3 m6 d6 b3 b4 b5 b9 bw j_ v W'
  | 0, _, _, _, h, hb => h
  | 1, _, _, _, h, hb => PaV.mono h hb
  | 2, _, _, _, h, hb => h
  | 3, _, _, _, h, hb => h
  | 4, _, _, _, h, hb => h
  | 5, _, _, _, h, hb => h
  | 6, _, _, _, h, hb => h
  | 7, _, _, _, h, hb => h
  | 8, _, _, _, h, hb => h
  | 9, _, _, _, h, hb => h
  | 10, _, _, _, h, hb => h
  | 11, _, _, _, h, hb => h
  | 12, _, _, _, h, hb => h
  | 13, _, _, _, h, hb => h
  | 14, _, _, _, h, hb => h
  | 15, _, _, _, h, hb => h
  | 16, _, _, _, h, hb => h
  | 17, _, _, _, h, hb => h
  | 18, _, _, _, h, hb => h
  | 19, _, _, _, h, hb => h
  | 20, _, _, _, h, hb => h
  | n + 21, _, _, _, _, _ => trivial
set_option maxRecDepth 100000 in
set_option maxHeartbeats 2000000 in
theorem h15a.region {Q : Exit → Act → World → Prop} {id : Nat} {a : Act} {w : World} (p : Pol) (t : Tri) (u : Rule) (C0 : Array Value) (vd n : Int) (A2 A3 A6 : Option Addr) (ws wt : List ByteArray) (d2 d3 m6 d6 b3 b4 b5 b9 : Nat) (bw : Bool) (kp : k28.K w p C0.toList) (hn5 : p.f5.length + p.f6.length ≤ 16777215) (hn7 : p.f7.length + p.f8.length ≤ 16777215) (l2 : ws.length ≤ d2) (g2 : Kd.C Kd.string w A2 ws.length ws) (l3 : wt.length ≤ d3) (g3 : Kd.C Kd.string w A3 wt.length wt) (hl2 : ws.length ≤ 4611686018427387903) (hl3 : wt.length ≤ 4611686018427387903) (hw1 : wayB (p.f5 ++ p.f6) ws t.f0 u.f1 = false) (hw2 : wayB (p.f7 ++ p.f8) wt t.f1 u.f2 = bw) (hm : Tryd.prog.follows .mixedOrders = true) (hs : a.tmps.size = 150) (h3 : a.eval (.tmp 3) = .pointer (some ⟨b3, 0, none⟩)) (hb3 : w.heap[b3]? = some (Obj.cells C0 28 (0, 0)))  (h4 : a.eval (.tmp 4) = .pointer (some ⟨b4, 0, none⟩)) (hb4 : w.heap[b4]? = some (Obj.cells #[.string t.f0, .string t.f1, .string t.f2] 30 (0, 0)))  (h5 : a.eval (.tmp 5) = .pointer (some ⟨b5, 0, none⟩)) (hb5 : w.heap[b5]? = some (Obj.cells #[.int .i8 vd, .int .i64 n, .slice A2 ws.length d2, .slice A3 wt.length d3] 33 (0, 0)))  (h9 : a.eval (.tmp 9) = .pointer (some ⟨b9, 0, none⟩)) (hb9 : w.heap[b9]? = some (Obj.cells #[.bool u.f0, .string u.f1, .string u.f2, .slice A6 m6 d6, .int .i8 u.f4, .float .f64 u.f5] 48 (0, 0)))  
    (hdone : ∀ (xs : Nat → Value) (W : World), Below w.heap.size w W → IsV (.bool false) (xs 20) W → Q .normal (putZ a h15a.ns 0 xs) W) :
    (Code.region id (opsOf Tryd.f22 15) true).wp Tryd.prog Q a w := by
  refine region_pred (T := h15a.T) 21 (fun _ W => Below w.heap.size w W) (h15a.V p t u C0 vd n A2 A3 A6 ws wt d2 d3 m6 d6 b3 b4 b5 b9 bw) hm (by kernel_rfl) h15a.tab (by kernel_rfl) (by kernel_rfl) (below_drew (Below.refl _ _)) (fun _ h => h) ?hsteps ?hd
  case hd => exact fun xs W hI hV => hdone xs W hI (hV 20 (by decide))
  case hsteps =>
    have hsz : ∀ t, t < 150 → t < a.tmps.size := fun t ht => by rw [hs]; exact ht
    refine ⟨?_, ?_, ?_, ?_, ?_, ?_, ?_, ?_, ?_, ?_, ?_, ?_, ?_, ?_, ?_, ?_, ?_, ?_, ?_, ?_, ?_, trivial⟩
    · refine step_op (Op.load 28 (.tmp 3)) (some 112) [] h15a.ns (by kernel_rfl) rfl (by kernel_rfl) (fun o ho hd hw l xs W hF hl hn K hK => ?_)
      have e1 := eval_o (xs := xs) (ns := h15a.ns) h3
      exact load_c (hw _) hd ho b3 e1 (blk_below hb3 hF.1) Tryd.underlying28 rfl (pol_size kp) (hK.out _ _ (hF.now hF.1 (rfl)))
    · refine step_op (Op.call { callee := .value (.func 54), args := #[.tmp 112], argTypes := #[28] }) (some 113) [0] h15a.ns (by kernel_rfl) rfl (by kernel_rfl) (fun o ho hd hw l xs W hF hl hn K hK => ?_)
      have e0 : (putZ a h15a.ns 0 xs).eval (.tmp 112) = .agg C0 := (eval_z 0 (hsz 112 (by decide))).trans (hF.get 0 hn.1)
      refine goes_ Tryd.func54 (by kernel_rfl) rfl #[.agg C0] (hw _) hd ho (by simp only [List.map_toArray, List.map_cons, List.map_nil, e0]) ?_
      refine (whos_v p C0 W (k28.K_below hF.1 kp) hn5).mono ?_
      rintro e W' ⟨v, rfl, hv, hb⟩
      exact ⟨_, rfl, hK.out _ _ (hF.up (hF.1.trans (hb.mono hF.1.size)) (fun j v _ _ h => h15a.mono j h hb) (hv))⟩
    · refine step_op (Op.fieldAddr 33 (.tmp 5) 2) (some 114) [] h15a.ns (by kernel_rfl) rfl (by kernel_rfl) (fun o ho hd hw l xs W hF hl hn K hK => ?_)
      have e1 := eval_o (xs := xs) (ns := h15a.ns) h5
      exact value_ (v := .pointer (some ⟨b5, 2, none⟩)) (hw _) hd (w1 := W) (by simp only [execOp, ho, e1]; go_simp) (hK.out _ _ (hF.now hF.1 rfl))
    · refine step_op (Op.load 22 (.tmp 114)) (some 115) [2] h15a.ns (by kernel_rfl) rfl (by kernel_rfl) (fun o ho hd hw l xs W hF hl hn K hK => ?_)
      have e0 : (putZ a h15a.ns 0 xs).eval (.tmp 114) = .pointer (some ⟨b5, 2, none⟩) := (eval_z 2 (hsz 114 (by decide))).trans (hF.get 2 hn.1)
      have q0 := (blk_cell (blk_below hb5 hF.1) 2).trans (Eq.refl (some (Value.slice A2 ws.length d2)))
      exact value_ (v := .slice A2 ws.length d2) (hw _) hd (w1 := W) (by simp only [Act.eval, Array.getD_eq_getD_getElem?] at e0; simp only [execOp, ho]; go_simp) (hK.out _ _ (hF.now hF.1 rfl))
    · refine step_op (Op.fieldAddr 30 (.tmp 4) 0) (some 116) [] h15a.ns (by kernel_rfl) rfl (by kernel_rfl) (fun o ho hd hw l xs W hF hl hn K hK => ?_)
      have e1 := eval_o (xs := xs) (ns := h15a.ns) h4
      exact value_ (v := .pointer (some ⟨b4, 0, none⟩)) (hw _) hd (w1 := W) (by simp only [execOp, ho, e1]; go_simp) (hK.out _ _ (hF.now hF.1 rfl))
    · refine step_op (Op.load 9 (.tmp 116)) (some 117) [4] h15a.ns (by kernel_rfl) rfl (by kernel_rfl) (fun o ho hd hw l xs W hF hl hn K hK => ?_)
      have e0 : (putZ a h15a.ns 0 xs).eval (.tmp 116) = .pointer (some ⟨b4, 0, none⟩) := (eval_z 4 (hsz 116 (by decide))).trans (hF.get 4 hn.1)
      have q0 := (blk_cell (blk_below hb4 hF.1) 0).trans (Eq.refl (some (Value.string t.f0)))
      exact value_ (v := .string t.f0) (hw _) hd (w1 := W) (by simp only [Act.eval, Array.getD_eq_getD_getElem?] at e0; simp only [execOp, ho]; go_simp) (hK.out _ _ (hF.now hF.1 rfl))
    · refine step_op (Op.fieldAddr 48 (.tmp 9) 1) (some 118) [] h15a.ns (by kernel_rfl) rfl (by kernel_rfl) (fun o ho hd hw l xs W hF hl hn K hK => ?_)
      have e1 := eval_o (xs := xs) (ns := h15a.ns) h9
      exact value_ (v := .pointer (some ⟨b9, 1, none⟩)) (hw _) hd (w1 := W) (by simp only [execOp, ho, e1]; go_simp) (hK.out _ _ (hF.now hF.1 rfl))
    · refine step_op (Op.load 9 (.tmp 118)) (some 119) [6] h15a.ns (by kernel_rfl) rfl (by kernel_rfl) (fun o ho hd hw l xs W hF hl hn K hK => ?_)
      have e0 : (putZ a h15a.ns 0 xs).eval (.tmp 118) = .pointer (some ⟨b9, 1, none⟩) := (eval_z 6 (hsz 118 (by decide))).trans (hF.get 6 hn.1)
      have q0 := (blk_cell (blk_below hb9 hF.1) 1).trans (Eq.refl (some (Value.string u.f1)))
      exact value_ (v := .string u.f1) (hw _) hd (w1 := W) (by simp only [Act.eval, Array.getD_eq_getD_getElem?] at e0; simp only [execOp, ho]; go_simp) (hK.out _ _ (hF.now hF.1 rfl))
    · refine step_op (Op.call { callee := .value (.func 53), args := #[.tmp 113, .tmp 115, .tmp 117, .tmp 119], argTypes := #[24, 22, 9, 9] }) (some 120) [1, 3, 5, 7, 1] h15a.ns (by kernel_rfl) rfl (by kernel_rfl) (fun o ho hd hw l xs W hF hl hn K hK => ?_)
      obtain ⟨A_e0, c_e0, e_e0, l_e0, k_e0⟩ := hF.get 1 hn.1
      have e0 : (putZ a h15a.ns 0 xs).eval (.tmp 113) = .slice A_e0 (p.f5 ++ p.f6).length c_e0 := (eval_z 1 (hsz 113 (by decide))).trans e_e0
      have e1 : (putZ a h15a.ns 0 xs).eval (.tmp 115) = .slice A2 ws.length d2 := (eval_z 3 (hsz 115 (by decide))).trans (hF.get 3 hn.2.1)
      have e2 : (putZ a h15a.ns 0 xs).eval (.tmp 117) = .string t.f0 := (eval_z 5 (hsz 117 (by decide))).trans (hF.get 5 hn.2.2.1)
      have e3 : (putZ a h15a.ns 0 xs).eval (.tmp 119) = .string u.f1 := (eval_z 7 (hsz 119 (by decide))).trans (hF.get 7 hn.2.2.2.1)
      refine goes_ Tryd.func53 (by kernel_rfl) rfl #[.slice A_e0 (p.f5 ++ p.f6).length c_e0, .slice A2 ws.length d2, .string t.f0, .string u.f1] (hw _) hd ho (by simp only [List.map_toArray, List.map_cons, List.map_nil, e0, e1, e2, e3]) ?_
      refine (way_b (p.f5 ++ p.f6) ws t.f0 u.f1 A_e0 A2 c_e0 d2 W hw1 (by rw [List.length_append]; omega) hl2 l_e0 k_e0 l2 (Kd.C_below g2 hF.1)).mono ?_
      rintro e W' ⟨rfl, hb⟩
      exact ⟨_, rfl, hK.out _ _ (hF.up (hF.1.trans (hb.mono hF.1.size)) (fun j v _ _ h => h15a.mono j h hb) (rfl))⟩
    · refine step_op (Op.move (.tmp 120)) (some 121) [8, 8] h15a.ns (by kernel_rfl) rfl (by kernel_rfl) (fun o ho hd hw l xs W hF hl hn K hK => ?_)
      have e1 : (putZ a h15a.ns 0 xs).eval (.tmp 120) = xs 8 := eval_z 8 (hsz 120 (by decide))
      exact value_ (v := xs 8) (hw _) hd (w1 := W) (by simp only [execOp, ho, e1]; go_simp) (hK.out _ _ (hF.now hF.1 (hF.get 8 hn.1)))
    · exact step_ox (Op.load 28 (.tmp 3)) (some 122) 9 true 121 [9] h15a.ns (by kernel_rfl) (by kernel_rfl) rfl (by kernel_rfl) (fun l xs W hF hl hn => ⟨(eval_z 9 (hsz 121 (by decide))).trans (hF.get 9 hn.1), by rw [putZ_size]; exact hsz 121 (by decide), hF.now hF.1 rfl⟩)
    · exact step_ox (Op.call { callee := .value (.func 55), args := #[.tmp 122], argTypes := #[28] }) (some 123) 9 true 121 [10, 9, 9] h15a.ns (by kernel_rfl) (by kernel_rfl) rfl (by kernel_rfl) (fun l xs W hF hl hn => ⟨(eval_z 9 (hsz 121 (by decide))).trans (hF.get 9 hn.2.1), by rw [putZ_size]; exact hsz 121 (by decide), hF.now hF.1 rfl⟩)
    · exact step_ox (Op.fieldAddr 33 (.tmp 5) 3) (some 124) 9 true 121 [9] h15a.ns (by kernel_rfl) (by kernel_rfl) rfl (by kernel_rfl) (fun l xs W hF hl hn => ⟨(eval_z 9 (hsz 121 (by decide))).trans (hF.get 9 hn.1), by rw [putZ_size]; exact hsz 121 (by decide), hF.now hF.1 rfl⟩)
    · exact step_ox (Op.load 22 (.tmp 124)) (some 125) 9 true 121 [12, 9] h15a.ns (by kernel_rfl) (by kernel_rfl) rfl (by kernel_rfl) (fun l xs W hF hl hn => ⟨(eval_z 9 (hsz 121 (by decide))).trans (hF.get 9 hn.2.1), by rw [putZ_size]; exact hsz 121 (by decide), hF.now hF.1 rfl⟩)
    · exact step_ox (Op.fieldAddr 30 (.tmp 4) 1) (some 126) 9 true 121 [9] h15a.ns (by kernel_rfl) (by kernel_rfl) rfl (by kernel_rfl) (fun l xs W hF hl hn => ⟨(eval_z 9 (hsz 121 (by decide))).trans (hF.get 9 hn.1), by rw [putZ_size]; exact hsz 121 (by decide), hF.now hF.1 rfl⟩)
    · exact step_ox (Op.load 9 (.tmp 126)) (some 127) 9 true 121 [14, 9] h15a.ns (by kernel_rfl) (by kernel_rfl) rfl (by kernel_rfl) (fun l xs W hF hl hn => ⟨(eval_z 9 (hsz 121 (by decide))).trans (hF.get 9 hn.2.1), by rw [putZ_size]; exact hsz 121 (by decide), hF.now hF.1 rfl⟩)
    · exact step_ox (Op.fieldAddr 48 (.tmp 9) 2) (some 128) 9 true 121 [9] h15a.ns (by kernel_rfl) (by kernel_rfl) rfl (by kernel_rfl) (fun l xs W hF hl hn => ⟨(eval_z 9 (hsz 121 (by decide))).trans (hF.get 9 hn.1), by rw [putZ_size]; exact hsz 121 (by decide), hF.now hF.1 rfl⟩)
    · exact step_ox (Op.load 9 (.tmp 128)) (some 129) 9 true 121 [16, 9] h15a.ns (by kernel_rfl) (by kernel_rfl) rfl (by kernel_rfl) (fun l xs W hF hl hn => ⟨(eval_z 9 (hsz 121 (by decide))).trans (hF.get 9 hn.2.1), by rw [putZ_size]; exact hsz 121 (by decide), hF.now hF.1 rfl⟩)
    · exact step_ox (Op.call { callee := .value (.func 53), args := #[.tmp 123, .tmp 125, .tmp 127, .tmp 129], argTypes := #[24, 22, 9, 9] }) (some 130) 9 true 121 [11, 13, 15, 17, 11, 9] h15a.ns (by kernel_rfl) (by kernel_rfl) rfl (by kernel_rfl) (fun l xs W hF hl hn => ⟨(eval_z 9 (hsz 121 (by decide))).trans (hF.get 9 hn.2.2.2.2.2.1), by rw [putZ_size]; exact hsz 121 (by decide), hF.now hF.1 rfl⟩)
    · refine step_op (Op.pick (.tmp 121) (.tmp 130) (.const (.bool false))) (some 131) [9, 18] h15a.ns (by kernel_rfl) rfl (by kernel_rfl) (fun o ho hd hw l xs W hF hl hn K hK => ?_)
      have e0 : (putZ a h15a.ns 0 xs).eval (.tmp 121) = .bool false := (eval_z 9 (hsz 121 (by decide))).trans (hF.get 9 hn.1)
      have e1 : (putZ a h15a.ns 0 xs).eval (.tmp 130) = undef := (eval_z 18 (hsz 130 (by decide))).trans (hF.get 18 hn.2.1)
      exact value_ (v := .bool false) (hw _) hd (w1 := W) (by simp only [Act.eval, Array.getD_eq_getD_getElem?] at e0 e1; simp only [execOp, ho]; go_simp) (hK.out _ _ (hF.now hF.1 rfl))
    · refine step_op (Op.assign (.tmp 131)) (some 6) [19, 18, 0, 1, 2, 3, 4, 5, 6, 7, 8, 9, 10, 11, 12, 13, 14, 15, 16, 17, 18, 19] h15a.ns (by kernel_rfl) rfl (by kernel_rfl) (fun o ho hd hw l xs W hF hl hn K hK => ?_)
      have e1 : (putZ a h15a.ns 0 xs).eval (.tmp 131) = xs 19 := eval_z 19 (hsz 131 (by decide))
      exact value_ (v := xs 19) (hw _) hd (w1 := W) (by simp only [execOp, ho, e1]; go_simp) (hK.out _ _ (hF.now hF.1 (hF.get 19 hn.1)))
abbrev h15b.ns : List (Option Tmp) := [some 112, some 113, some 114, some 115, some 116, some 117, some 118, some 119, some 120, some 121, some 122, some 123, some 124, some 125, some 126, some 127, some 128, some 129, some 130, some 131, some 6]
def h15b.T : Bool × List (List Nat × List Nat) := (true, [([], []), ([0], [0]), ([], []), ([2], [2]), ([], []), ([4], [4]), ([], []), ([6], [6]), ([1, 3, 5, 7, 1], [1, 3, 5, 7]), ([8, 8], [8]), ([9], [9]), ([10, 9, 9], [9, 10]), ([9], [9]), ([12, 9], [9, 12]), ([9], [9]), ([14, 9], [9, 14]), ([9], [9]), ([16, 9], [9, 16]), ([11, 13, 15, 17, 11, 9], [9, 11, 13, 15, 17]), ([9, 18], [9, 18]), ([19, 18, 0, 1, 2, 3, 4, 5, 6, 7, 8, 9, 10, 11, 12, 13, 14, 15, 16, 17, 18, 19], [19])])
theorem h15b.tab : rtab .any (opsOf Tryd.f22 15) = h15b.T := by kernel_rfl
def h15b.V (p : Pol) (t : Tri) (u : Rule) (C0 : Array Value) (vd n : Int) (A2 A3 A6 : Option Addr) (ws wt : List ByteArray) (d2 d3 m6 d6 b3 b4 b5 b9 : Nat) (bw : Bool) : Nat → Value → World → Prop
  | 0 => IsV (.agg C0)
  | 1 => PaV (p.f5 ++ p.f6)
  | 2 => IsV (.pointer (some ⟨b5, 2, none⟩))
  | 3 => IsV (.slice A2 ws.length d2)
  | 4 => IsV (.pointer (some ⟨b4, 0, none⟩))
  | 5 => IsV (.string t.f0)
  | 6 => IsV (.pointer (some ⟨b9, 1, none⟩))
  | 7 => IsV (.string u.f1)
  | 8 => IsV (.bool true)
  | 9 => IsV (.bool true)
  | 10 => IsV (.agg C0)
  | 11 => PaV (p.f7 ++ p.f8)
  | 12 => IsV (.pointer (some ⟨b5, 3, none⟩))
  | 13 => IsV (.slice A3 wt.length d3)
  | 14 => IsV (.pointer (some ⟨b4, 1, none⟩))
  | 15 => IsV (.string t.f1)
  | 16 => IsV (.pointer (some ⟨b9, 2, none⟩))
  | 17 => IsV (.string u.f2)
  | 18 => IsV (.bool bw)
  | 19 => IsV (.bool bw)
  | 20 => IsV (.bool bw)
  | _ => fun _ _ => True
theorem h15b.mono {p : Pol} {t : Tri} {u : Rule} {C0 : Array Value} {vd n : Int} {A2 A3 A6 : Option Addr} {ws wt : List ByteArray} {d2 d3 m6 d6 b3 b4 b5 b9 : Nat} {bw : Bool} : ∀ (j_ : Nat) {v : Value} {W W' : World}, h15b.V p t u C0 vd n A2 A3 A6 ws wt d2 d3 m6 d6 b3 b4 b5 b9 bw j_ v W → Below W.heap.size W W' → h15b.V p t u C0 vd n A2 A3 A6 ws wt d2 d3 m6 d6 b3 b4 b5 b9 bw j_ v W'
  | 0, _, _, _, h, hb => h
  | 1, _, _, _, h, hb => PaV.mono h hb
  | 2, _, _, _, h, hb => h
  | 3, _, _, _, h, hb => h
  | 4, _, _, _, h, hb => h
  | 5, _, _, _, h, hb => h
  | 6, _, _, _, h, hb => h
  | 7, _, _, _, h, hb => h
  | 8, _, _, _, h, hb => h
  | 9, _, _, _, h, hb => h
  | 10, _, _, _, h, hb => h
  | 11, _, _, _, h, hb => PaV.mono h hb
  | 12, _, _, _, h, hb => h
  | 13, _, _, _, h, hb => h
  | 14, _, _, _, h, hb => h
  | 15, _, _, _, h, hb => h
  | 16, _, _, _, h, hb => h
  | 17, _, _, _, h, hb => h
  | 18, _, _, _, h, hb => h
  | 19, _, _, _, h, hb => h
  | 20, _, _, _, h, hb => h
  | n + 21, _, _, _, _, _ => trivial
set_option maxRecDepth 100000 in
set_option maxHeartbeats 2000000 in
theorem h15b.region {Q : Exit → Act → World → Prop} {id : Nat} {a : Act} {w : World} (p : Pol) (t : Tri) (u : Rule) (C0 : Array Value) (vd n : Int) (A2 A3 A6 : Option Addr) (ws wt : List ByteArray) (d2 d3 m6 d6 b3 b4 b5 b9 : Nat) (bw : Bool) (kp : k28.K w p C0.toList) (hn5 : p.f5.length + p.f6.length ≤ 16777215) (hn7 : p.f7.length + p.f8.length ≤ 16777215) (l2 : ws.length ≤ d2) (g2 : Kd.C Kd.string w A2 ws.length ws) (l3 : wt.length ≤ d3) (g3 : Kd.C Kd.string w A3 wt.length wt) (hl2 : ws.length ≤ 4611686018427387903) (hl3 : wt.length ≤ 4611686018427387903) (hw1 : wayB (p.f5 ++ p.f6) ws t.f0 u.f1 = true) (hw2 : wayB (p.f7 ++ p.f8) wt t.f1 u.f2 = bw) (hm : Tryd.prog.follows .mixedOrders = true) (hs : a.tmps.size = 150) (h3 : a.eval (.tmp 3) = .pointer (some ⟨b3, 0, none⟩)) (hb3 : w.heap[b3]? = some (Obj.cells C0 28 (0, 0)))  (h4 : a.eval (.tmp 4) = .pointer (some ⟨b4, 0, none⟩)) (hb4 : w.heap[b4]? = some (Obj.cells #[.string t.f0, .string t.f1, .string t.f2] 30 (0, 0)))  (h5 : a.eval (.tmp 5) = .pointer (some ⟨b5, 0, none⟩)) (hb5 : w.heap[b5]? = some (Obj.cells #[.int .i8 vd, .int .i64 n, .slice A2 ws.length d2, .slice A3 wt.length d3] 33 (0, 0)))  (h9 : a.eval (.tmp 9) = .pointer (some ⟨b9, 0, none⟩)) (hb9 : w.heap[b9]? = some (Obj.cells #[.bool u.f0, .string u.f1, .string u.f2, .slice A6 m6 d6, .int .i8 u.f4, .float .f64 u.f5] 48 (0, 0)))  
    (hdone : ∀ (xs : Nat → Value) (W : World), Below w.heap.size w W → IsV (.bool bw) (xs 20) W → Q .normal (putZ a h15b.ns 0 xs) W) :
    (Code.region id (opsOf Tryd.f22 15) true).wp Tryd.prog Q a w := by
  refine region_pred (T := h15b.T) 21 (fun _ W => Below w.heap.size w W) (h15b.V p t u C0 vd n A2 A3 A6 ws wt d2 d3 m6 d6 b3 b4 b5 b9 bw) hm (by kernel_rfl) h15b.tab (by kernel_rfl) (by kernel_rfl) (below_drew (Below.refl _ _)) (fun _ h => h) ?hsteps ?hd
  case hd => exact fun xs W hI hV => hdone xs W hI (hV 20 (by decide))
  case hsteps =>
    have hsz : ∀ t, t < 150 → t < a.tmps.size := fun t ht => by rw [hs]; exact ht
    refine ⟨?_, ?_, ?_, ?_, ?_, ?_, ?_, ?_, ?_, ?_, ?_, ?_, ?_, ?_, ?_, ?_, ?_, ?_, ?_, ?_, ?_, trivial⟩
    · refine step_op (Op.load 28 (.tmp 3)) (some 112) [] h15b.ns (by kernel_rfl) rfl (by kernel_rfl) (fun o ho hd hw l xs W hF hl hn K hK => ?_)
      have e1 := eval_o (xs := xs) (ns := h15b.ns) h3
      exact load_c (hw _) hd ho b3 e1 (blk_below hb3 hF.1) Tryd.underlying28 rfl (pol_size kp) (hK.out _ _ (hF.now hF.1 (rfl)))
    · refine step_op (Op.call { callee := .value (.func 54), args := #[.tmp 112], argTypes := #[28] }) (some 113) [0] h15b.ns (by kernel_rfl) rfl (by kernel_rfl) (fun o ho hd hw l xs W hF hl hn K hK => ?_)
      have e0 : (putZ a h15b.ns 0 xs).eval (.tmp 112) = .agg C0 := (eval_z 0 (hsz 112 (by decide))).trans (hF.get 0 hn.1)
      refine goes_ Tryd.func54 (by kernel_rfl) rfl #[.agg C0] (hw _) hd ho (by simp only [List.map_toArray, List.map_cons, List.map_nil, e0]) ?_
      refine (whos_v p C0 W (k28.K_below hF.1 kp) hn5).mono ?_
      rintro e W' ⟨v, rfl, hv, hb⟩
      exact ⟨_, rfl, hK.out _ _ (hF.up (hF.1.trans (hb.mono hF.1.size)) (fun j v _ _ h => h15b.mono j h hb) (hv))⟩
    · refine step_op (Op.fieldAddr 33 (.tmp 5) 2) (some 114) [] h15b.ns (by kernel_rfl) rfl (by kernel_rfl) (fun o ho hd hw l xs W hF hl hn K hK => ?_)
      have e1 := eval_o (xs := xs) (ns := h15b.ns) h5
      exact value_ (v := .pointer (some ⟨b5, 2, none⟩)) (hw _) hd (w1 := W) (by simp only [execOp, ho, e1]; go_simp) (hK.out _ _ (hF.now hF.1 rfl))
    · refine step_op (Op.load 22 (.tmp 114)) (some 115) [2] h15b.ns (by kernel_rfl) rfl (by kernel_rfl) (fun o ho hd hw l xs W hF hl hn K hK => ?_)
      have e0 : (putZ a h15b.ns 0 xs).eval (.tmp 114) = .pointer (some ⟨b5, 2, none⟩) := (eval_z 2 (hsz 114 (by decide))).trans (hF.get 2 hn.1)
      have q0 := (blk_cell (blk_below hb5 hF.1) 2).trans (Eq.refl (some (Value.slice A2 ws.length d2)))
      exact value_ (v := .slice A2 ws.length d2) (hw _) hd (w1 := W) (by simp only [Act.eval, Array.getD_eq_getD_getElem?] at e0; simp only [execOp, ho]; go_simp) (hK.out _ _ (hF.now hF.1 rfl))
    · refine step_op (Op.fieldAddr 30 (.tmp 4) 0) (some 116) [] h15b.ns (by kernel_rfl) rfl (by kernel_rfl) (fun o ho hd hw l xs W hF hl hn K hK => ?_)
      have e1 := eval_o (xs := xs) (ns := h15b.ns) h4
      exact value_ (v := .pointer (some ⟨b4, 0, none⟩)) (hw _) hd (w1 := W) (by simp only [execOp, ho, e1]; go_simp) (hK.out _ _ (hF.now hF.1 rfl))
    · refine step_op (Op.load 9 (.tmp 116)) (some 117) [4] h15b.ns (by kernel_rfl) rfl (by kernel_rfl) (fun o ho hd hw l xs W hF hl hn K hK => ?_)
      have e0 : (putZ a h15b.ns 0 xs).eval (.tmp 116) = .pointer (some ⟨b4, 0, none⟩) := (eval_z 4 (hsz 116 (by decide))).trans (hF.get 4 hn.1)
      have q0 := (blk_cell (blk_below hb4 hF.1) 0).trans (Eq.refl (some (Value.string t.f0)))
      exact value_ (v := .string t.f0) (hw _) hd (w1 := W) (by simp only [Act.eval, Array.getD_eq_getD_getElem?] at e0; simp only [execOp, ho]; go_simp) (hK.out _ _ (hF.now hF.1 rfl))
    · refine step_op (Op.fieldAddr 48 (.tmp 9) 1) (some 118) [] h15b.ns (by kernel_rfl) rfl (by kernel_rfl) (fun o ho hd hw l xs W hF hl hn K hK => ?_)
      have e1 := eval_o (xs := xs) (ns := h15b.ns) h9
      exact value_ (v := .pointer (some ⟨b9, 1, none⟩)) (hw _) hd (w1 := W) (by simp only [execOp, ho, e1]; go_simp) (hK.out _ _ (hF.now hF.1 rfl))
    · refine step_op (Op.load 9 (.tmp 118)) (some 119) [6] h15b.ns (by kernel_rfl) rfl (by kernel_rfl) (fun o ho hd hw l xs W hF hl hn K hK => ?_)
      have e0 : (putZ a h15b.ns 0 xs).eval (.tmp 118) = .pointer (some ⟨b9, 1, none⟩) := (eval_z 6 (hsz 118 (by decide))).trans (hF.get 6 hn.1)
      have q0 := (blk_cell (blk_below hb9 hF.1) 1).trans (Eq.refl (some (Value.string u.f1)))
      exact value_ (v := .string u.f1) (hw _) hd (w1 := W) (by simp only [Act.eval, Array.getD_eq_getD_getElem?] at e0; simp only [execOp, ho]; go_simp) (hK.out _ _ (hF.now hF.1 rfl))
    · refine step_op (Op.call { callee := .value (.func 53), args := #[.tmp 113, .tmp 115, .tmp 117, .tmp 119], argTypes := #[24, 22, 9, 9] }) (some 120) [1, 3, 5, 7, 1] h15b.ns (by kernel_rfl) rfl (by kernel_rfl) (fun o ho hd hw l xs W hF hl hn K hK => ?_)
      obtain ⟨A_e0, c_e0, e_e0, l_e0, k_e0⟩ := hF.get 1 hn.1
      have e0 : (putZ a h15b.ns 0 xs).eval (.tmp 113) = .slice A_e0 (p.f5 ++ p.f6).length c_e0 := (eval_z 1 (hsz 113 (by decide))).trans e_e0
      have e1 : (putZ a h15b.ns 0 xs).eval (.tmp 115) = .slice A2 ws.length d2 := (eval_z 3 (hsz 115 (by decide))).trans (hF.get 3 hn.2.1)
      have e2 : (putZ a h15b.ns 0 xs).eval (.tmp 117) = .string t.f0 := (eval_z 5 (hsz 117 (by decide))).trans (hF.get 5 hn.2.2.1)
      have e3 : (putZ a h15b.ns 0 xs).eval (.tmp 119) = .string u.f1 := (eval_z 7 (hsz 119 (by decide))).trans (hF.get 7 hn.2.2.2.1)
      refine goes_ Tryd.func53 (by kernel_rfl) rfl #[.slice A_e0 (p.f5 ++ p.f6).length c_e0, .slice A2 ws.length d2, .string t.f0, .string u.f1] (hw _) hd ho (by simp only [List.map_toArray, List.map_cons, List.map_nil, e0, e1, e2, e3]) ?_
      refine (way_b (p.f5 ++ p.f6) ws t.f0 u.f1 A_e0 A2 c_e0 d2 W hw1 (by rw [List.length_append]; omega) hl2 l_e0 k_e0 l2 (Kd.C_below g2 hF.1)).mono ?_
      rintro e W' ⟨rfl, hb⟩
      exact ⟨_, rfl, hK.out _ _ (hF.up (hF.1.trans (hb.mono hF.1.size)) (fun j v _ _ h => h15b.mono j h hb) (rfl))⟩
    · refine step_op (Op.move (.tmp 120)) (some 121) [8, 8] h15b.ns (by kernel_rfl) rfl (by kernel_rfl) (fun o ho hd hw l xs W hF hl hn K hK => ?_)
      have e1 : (putZ a h15b.ns 0 xs).eval (.tmp 120) = xs 8 := eval_z 8 (hsz 120 (by decide))
      exact value_ (v := xs 8) (hw _) hd (w1 := W) (by simp only [execOp, ho, e1]; go_simp) (hK.out _ _ (hF.now hF.1 (hF.get 8 hn.1)))
    · refine step_og (Op.load 28 (.tmp 3)) (some 122) 9 true 121 [9] h15b.ns (by kernel_rfl) (by kernel_rfl) rfl (by kernel_rfl) (fun o ho hd hw0 l xs W hF hl hn K hK => ?_)
      have eg : (putZ a h15b.ns 0 xs).eval (.tmp 121) = .bool true := (eval_z 9 (hsz 121 (by decide))).trans (hF.get 9 hn.1)
      have hw := hw0 (putZ a h15b.ns 0 xs) (by rw [putZ_size]; exact hsz 121 (by decide)) eg
      have e1 := eval_o (xs := xs) (ns := h15b.ns) h3
      exact load_c hw hd ho b3 e1 (blk_below hb3 hF.1) Tryd.underlying28 rfl (pol_size kp) (hK.out _ _ (hF.now hF.1 (rfl)))
    · refine step_og (Op.call { callee := .value (.func 55), args := #[.tmp 122], argTypes := #[28] }) (some 123) 9 true 121 [10, 9, 9] h15b.ns (by kernel_rfl) (by kernel_rfl) rfl (by kernel_rfl) (fun o ho hd hw0 l xs W hF hl hn K hK => ?_)
      have eg : (putZ a h15b.ns 0 xs).eval (.tmp 121) = .bool true := (eval_z 9 (hsz 121 (by decide))).trans (hF.get 9 hn.2.1)
      have hw := hw0 (putZ a h15b.ns 0 xs) (by rw [putZ_size]; exact hsz 121 (by decide)) eg
      have e0 : (putZ a h15b.ns 0 xs).eval (.tmp 122) = .agg C0 := (eval_z 10 (hsz 122 (by decide))).trans (hF.get 10 hn.1)
      refine goes_ Tryd.func55 (by kernel_rfl) rfl #[.agg C0] hw hd ho (by simp only [List.map_toArray, List.map_cons, List.map_nil, e0]) ?_
      refine (whats_v p C0 W (k28.K_below hF.1 kp) hn7).mono ?_
      rintro e W' ⟨v, rfl, hv, hb⟩
      exact ⟨_, rfl, hK.out _ _ (hF.up (hF.1.trans (hb.mono hF.1.size)) (fun j v _ _ h => h15b.mono j h hb) (hv))⟩
    · refine step_og (Op.fieldAddr 33 (.tmp 5) 3) (some 124) 9 true 121 [9] h15b.ns (by kernel_rfl) (by kernel_rfl) rfl (by kernel_rfl) (fun o ho hd hw0 l xs W hF hl hn K hK => ?_)
      have eg : (putZ a h15b.ns 0 xs).eval (.tmp 121) = .bool true := (eval_z 9 (hsz 121 (by decide))).trans (hF.get 9 hn.1)
      have hw := hw0 (putZ a h15b.ns 0 xs) (by rw [putZ_size]; exact hsz 121 (by decide)) eg
      have e1 := eval_o (xs := xs) (ns := h15b.ns) h5
      exact value_ (v := .pointer (some ⟨b5, 3, none⟩)) hw hd (w1 := W) (by simp only [execOp, ho, e1]; go_simp) (hK.out _ _ (hF.now hF.1 rfl))
    · refine step_og (Op.load 22 (.tmp 124)) (some 125) 9 true 121 [12, 9] h15b.ns (by kernel_rfl) (by kernel_rfl) rfl (by kernel_rfl) (fun o ho hd hw0 l xs W hF hl hn K hK => ?_)
      have eg : (putZ a h15b.ns 0 xs).eval (.tmp 121) = .bool true := (eval_z 9 (hsz 121 (by decide))).trans (hF.get 9 hn.2.1)
      have hw := hw0 (putZ a h15b.ns 0 xs) (by rw [putZ_size]; exact hsz 121 (by decide)) eg
      have e0 : (putZ a h15b.ns 0 xs).eval (.tmp 124) = .pointer (some ⟨b5, 3, none⟩) := (eval_z 12 (hsz 124 (by decide))).trans (hF.get 12 hn.1)
      have q0 := (blk_cell (blk_below hb5 hF.1) 3).trans (Eq.refl (some (Value.slice A3 wt.length d3)))
      exact value_ (v := .slice A3 wt.length d3) hw hd (w1 := W) (by simp only [Act.eval, Array.getD_eq_getD_getElem?] at e0; simp only [execOp, ho]; go_simp) (hK.out _ _ (hF.now hF.1 rfl))
    · refine step_og (Op.fieldAddr 30 (.tmp 4) 1) (some 126) 9 true 121 [9] h15b.ns (by kernel_rfl) (by kernel_rfl) rfl (by kernel_rfl) (fun o ho hd hw0 l xs W hF hl hn K hK => ?_)
      have eg : (putZ a h15b.ns 0 xs).eval (.tmp 121) = .bool true := (eval_z 9 (hsz 121 (by decide))).trans (hF.get 9 hn.1)
      have hw := hw0 (putZ a h15b.ns 0 xs) (by rw [putZ_size]; exact hsz 121 (by decide)) eg
      have e1 := eval_o (xs := xs) (ns := h15b.ns) h4
      exact value_ (v := .pointer (some ⟨b4, 1, none⟩)) hw hd (w1 := W) (by simp only [execOp, ho, e1]; go_simp) (hK.out _ _ (hF.now hF.1 rfl))
    · refine step_og (Op.load 9 (.tmp 126)) (some 127) 9 true 121 [14, 9] h15b.ns (by kernel_rfl) (by kernel_rfl) rfl (by kernel_rfl) (fun o ho hd hw0 l xs W hF hl hn K hK => ?_)
      have eg : (putZ a h15b.ns 0 xs).eval (.tmp 121) = .bool true := (eval_z 9 (hsz 121 (by decide))).trans (hF.get 9 hn.2.1)
      have hw := hw0 (putZ a h15b.ns 0 xs) (by rw [putZ_size]; exact hsz 121 (by decide)) eg
      have e0 : (putZ a h15b.ns 0 xs).eval (.tmp 126) = .pointer (some ⟨b4, 1, none⟩) := (eval_z 14 (hsz 126 (by decide))).trans (hF.get 14 hn.1)
      have q0 := (blk_cell (blk_below hb4 hF.1) 1).trans (Eq.refl (some (Value.string t.f1)))
      exact value_ (v := .string t.f1) hw hd (w1 := W) (by simp only [Act.eval, Array.getD_eq_getD_getElem?] at e0; simp only [execOp, ho]; go_simp) (hK.out _ _ (hF.now hF.1 rfl))
    · refine step_og (Op.fieldAddr 48 (.tmp 9) 2) (some 128) 9 true 121 [9] h15b.ns (by kernel_rfl) (by kernel_rfl) rfl (by kernel_rfl) (fun o ho hd hw0 l xs W hF hl hn K hK => ?_)
      have eg : (putZ a h15b.ns 0 xs).eval (.tmp 121) = .bool true := (eval_z 9 (hsz 121 (by decide))).trans (hF.get 9 hn.1)
      have hw := hw0 (putZ a h15b.ns 0 xs) (by rw [putZ_size]; exact hsz 121 (by decide)) eg
      have e1 := eval_o (xs := xs) (ns := h15b.ns) h9
      exact value_ (v := .pointer (some ⟨b9, 2, none⟩)) hw hd (w1 := W) (by simp only [execOp, ho, e1]; go_simp) (hK.out _ _ (hF.now hF.1 rfl))
    · refine step_og (Op.load 9 (.tmp 128)) (some 129) 9 true 121 [16, 9] h15b.ns (by kernel_rfl) (by kernel_rfl) rfl (by kernel_rfl) (fun o ho hd hw0 l xs W hF hl hn K hK => ?_)
      have eg : (putZ a h15b.ns 0 xs).eval (.tmp 121) = .bool true := (eval_z 9 (hsz 121 (by decide))).trans (hF.get 9 hn.2.1)
      have hw := hw0 (putZ a h15b.ns 0 xs) (by rw [putZ_size]; exact hsz 121 (by decide)) eg
      have e0 : (putZ a h15b.ns 0 xs).eval (.tmp 128) = .pointer (some ⟨b9, 2, none⟩) := (eval_z 16 (hsz 128 (by decide))).trans (hF.get 16 hn.1)
      have q0 := (blk_cell (blk_below hb9 hF.1) 2).trans (Eq.refl (some (Value.string u.f2)))
      exact value_ (v := .string u.f2) hw hd (w1 := W) (by simp only [Act.eval, Array.getD_eq_getD_getElem?] at e0; simp only [execOp, ho]; go_simp) (hK.out _ _ (hF.now hF.1 rfl))
    · refine step_og (Op.call { callee := .value (.func 53), args := #[.tmp 123, .tmp 125, .tmp 127, .tmp 129], argTypes := #[24, 22, 9, 9] }) (some 130) 9 true 121 [11, 13, 15, 17, 11, 9] h15b.ns (by kernel_rfl) (by kernel_rfl) rfl (by kernel_rfl) (fun o ho hd hw0 l xs W hF hl hn K hK => ?_)
      have eg : (putZ a h15b.ns 0 xs).eval (.tmp 121) = .bool true := (eval_z 9 (hsz 121 (by decide))).trans (hF.get 9 hn.2.2.2.2.2.1)
      have hw := hw0 (putZ a h15b.ns 0 xs) (by rw [putZ_size]; exact hsz 121 (by decide)) eg
      obtain ⟨A_e0, c_e0, e_e0, l_e0, k_e0⟩ := hF.get 11 hn.1
      have e0 : (putZ a h15b.ns 0 xs).eval (.tmp 123) = .slice A_e0 (p.f7 ++ p.f8).length c_e0 := (eval_z 11 (hsz 123 (by decide))).trans e_e0
      have e1 : (putZ a h15b.ns 0 xs).eval (.tmp 125) = .slice A3 wt.length d3 := (eval_z 13 (hsz 125 (by decide))).trans (hF.get 13 hn.2.1)
      have e2 : (putZ a h15b.ns 0 xs).eval (.tmp 127) = .string t.f1 := (eval_z 15 (hsz 127 (by decide))).trans (hF.get 15 hn.2.2.1)
      have e3 : (putZ a h15b.ns 0 xs).eval (.tmp 129) = .string u.f2 := (eval_z 17 (hsz 129 (by decide))).trans (hF.get 17 hn.2.2.2.1)
      refine goes_ Tryd.func53 (by kernel_rfl) rfl #[.slice A_e0 (p.f7 ++ p.f8).length c_e0, .slice A3 wt.length d3, .string t.f1, .string u.f2] hw hd ho (by simp only [List.map_toArray, List.map_cons, List.map_nil, e0, e1, e2, e3]) ?_
      refine (way_b (p.f7 ++ p.f8) wt t.f1 u.f2 A_e0 A3 c_e0 d3 W hw2 (by rw [List.length_append]; omega) hl3 l_e0 k_e0 l3 (Kd.C_below g3 hF.1)).mono ?_
      rintro e W' ⟨rfl, hb⟩
      exact ⟨_, rfl, hK.out _ _ (hF.up (hF.1.trans (hb.mono hF.1.size)) (fun j v _ _ h => h15b.mono j h hb) (rfl))⟩
    · refine step_op (Op.pick (.tmp 121) (.tmp 130) (.const (.bool false))) (some 131) [9, 18] h15b.ns (by kernel_rfl) rfl (by kernel_rfl) (fun o ho hd hw l xs W hF hl hn K hK => ?_)
      have e0 : (putZ a h15b.ns 0 xs).eval (.tmp 121) = .bool true := (eval_z 9 (hsz 121 (by decide))).trans (hF.get 9 hn.1)
      have e1 : (putZ a h15b.ns 0 xs).eval (.tmp 130) = .bool bw := (eval_z 18 (hsz 130 (by decide))).trans (hF.get 18 hn.2.1)
      exact value_ (v := .bool bw) (hw _) hd (w1 := W) (by simp only [Act.eval, Array.getD_eq_getD_getElem?] at e0 e1; simp only [execOp, ho]; go_simp) (hK.out _ _ (hF.now hF.1 rfl))
    · refine step_op (Op.assign (.tmp 131)) (some 6) [19, 18, 0, 1, 2, 3, 4, 5, 6, 7, 8, 9, 10, 11, 12, 13, 14, 15, 16, 17, 18, 19] h15b.ns (by kernel_rfl) rfl (by kernel_rfl) (fun o ho hd hw l xs W hF hl hn K hK => ?_)
      have e1 : (putZ a h15b.ns 0 xs).eval (.tmp 131) = xs 19 := eval_z 19 (hsz 131 (by decide))
      exact value_ (v := xs 19) (hw _) hd (w1 := W) (by simp only [execOp, ho, e1]; go_simp) (hK.out _ _ (hF.now hF.1 (hF.get 19 hn.1)))
end Go.Proofs.YteefneemmdfncaaDoor.M
