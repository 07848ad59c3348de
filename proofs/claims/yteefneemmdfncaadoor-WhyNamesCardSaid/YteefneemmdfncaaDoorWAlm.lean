import Derived.Test.YteefneemmdfncaaDoorWAll
import Derived.Laws.Rows
/- A region that draws its order and whose operations each give a value that is known ahead, in whatever world behind the first one. No condition. -/
namespace Go.Proofs.YteefneemmdfncaaDoorW.PrintAll
open Go.RowKit Go.Proofs.YteefneemmdfncaaDoorW.PrintWords Go.Proofs.YteefneemmdfncaaDoorW.PrintLast
set_option linter.unusedVariables false
section
variable {P : Program} {ops : Array Oper} {Q : Exit → Act → World → Prop}
/-- Each operation that has come up has given its value; the world is only further. -/
def CF (V : Nat → Value) (n : Nat) (w : World) (l : Nat → Bool) (xs : Nat → Value) (W : World) : Prop := Below w.heap.size w W ∧ ∀ j, j < n → l j = true → xs j = V j
theorem CF.up {V : Nat → Value} {n i : Nat} {w W W' : World} {l : Nat → Bool} {xs : Nat → Value} {v : Value} (h : CF V n w l xs W) (hb : Below W.heap.size W W') (hv : v = V i) : CF V n w (upd l i true) (upd xs i v) W' :=
  ⟨h.1.trans (hb.mono h.1.size), fun j hj hl => by
    by_cases e : j = i
    · subst e
      rw [upd_same]
      exact hv
    · rw [upd_other _ _ e] at hl ⊢
      exact h.2 j hj hl⟩
theorem CF.now {V : Nat → Value} {n i : Nat} {w W : World} {l : Nat → Bool} {xs : Nat → Value} {v : Value} (h : CF V n w l xs W) (hv : v = V i) : CF V n w (upd l i true) (upd xs i v) W := h.up (Below.refl _ _) hv
/-- The slot of an operation that has come up. -/
theorem CF.at {V : Nat → Value} {n : Nat} {w W : World} {l : Nat → Bool} {xs : Nat → Value} {a : Act} {ns : List (Option Tmp)} {t : Tmp} (h : CF V n w l xs W) (j : Nat) (hl : l j = true) (hs : t < a.tmps.size) (hj : j < n := by decide) (hA : apartB ns = true := by kernel_rfl) (hx : ns[j]? = some (some t) := by rfl) : (putZ a ns 0 xs).eval (.tmp t) = V j :=
  (eval_z j hs hA hx).trans (h.2 j hj hl)
theorem wanted_g {o : Oper} {j t : Nat} {b : Bool} {a : Act} (hg : o.guard = some (j, b)) (hd : (ops[j]?).bind (·.dst) = some t) (hv : a.eval (.tmp t) = .bool b) (ht : t < a.tmps.size) : Region.wanted o (yielded ops a.tmps) = true := by
  unfold Region.wanted
  rw [hg]
  show (yielded ops a.tmps j == some b) = true
  unfold yielded
  rw [hd]
  have h : a.tmps[t]? = some (.bool b) := by
    simp only [Act.eval, Array.getD_eq_getD_getElem?] at hv
    rw [Array.getElem?_eq_getElem ht] at hv ⊢
    simpa using hv
  simp [h]
theorem putZ_size : ∀ (ns : List (Option Tmp)) (a : Act) (k : Nat) (xs : Nat → Value), (putZ a ns k xs).tmps.size = a.tmps.size
  | [], _, _, _ => rfl
  | n :: r, a, k, xs => (putZ_size r (a.put n (xs k)) (k + 1) xs).trans (put_size a n _)
/-- A step of an operation that is guarded. -/
theorem step_og {T : List (List Nat × List Nat)} {a : Act} {F : (Nat → Bool) → (Nat → Value) → World → Prop} {i : Nat} (op : Op) (dst : Option Tmp) (g : Nat) (b : Bool) (t : Tmp) (js : List Nat) (ns : List (Option Tmp)) (hx : (ops[i]?).map (fun o => (o.op, o.dst, o.guard)) = some (op, dst, some (g, b))) (hgt : (ops[g]?).bind (·.dst) = some t) (hj : needsAt T i = js) (hns : ops.toList.map (·.dst) = ns)
    (h : ∀ o, o.op = op → o.dst = dst → (∀ a' : Act, t < a'.tmps.size → a'.eval (.tmp t) = .bool b → Region.wanted o (yielded ops a'.tmps) = true) → ∀ l xs w, F l xs w → l i = false → AllOn l js → ∀ K : Act → World → Prop, Shut (∀ v w', F (upd l i true) (upd xs i v) w' → K ((putZ a ns 0 xs).put dst v) w') →
      if Region.wanted o (yielded ops (putZ a ns 0 xs).tmps) = true then Oper.wp P o (putZ a ns 0 xs) w K Q else K ((putZ a ns 0 xs).put dst undef) w) : StepAt P ops Q T a F i := by
  intro o ho l xs w hF hl hn K hK
  rw [ho] at hx
  injection hx with hx
  injection hx with h1 h2
  injection h2 with h2 h3
  subst hns
  subst hj
  subst h2
  exact h o h1 rfl (fun a' ht hv => wanted_g h3 hgt hv ht) l xs w hF hl hn K hK
/-- A whole struct read. -/
theorem load_c {o : Oper} {N : Option Tmp} {a : Act} {w : World} {K : Act → World → Prop} {ty : TypeId} {x : Operand} (hw : Region.wanted o (yielded ops a.tmps) = true) (hd : o.dst = N) (ho : o.op = .load ty x) (g : Nat) (hx : a.eval x = .pointer (some ⟨g, 0, none⟩)) {t : TypeId} {cs : Array Value} {fr : Nat × Nat} {d : TypeDesc}
    (hg : w.heap[g]? = some (.cells cs t fr)) (hu : P.underlying ty = some d) (hdd : (match d with | .struct _ | .array _ _ => true | _ => false) = true) (hi : (P.info? ty).map (·.size) = some cs.size) (h : K (a.put N (.agg cs)) w) : if Region.wanted o (yielded ops a.tmps) = true then Oper.wp P o a w K Q else K (a.put N undef) w := by
  rw [if_pos hw]
  subst hd
  exact wp_load_row ty x ho g hx t cs fr d hg hu hdd hi h
end
end Go.Proofs.YteefneemmdfncaaDoorW.PrintAll
