import Derived.Test.YteefneemmdfncaaDoorWAlm
import Derived.Test.YteefneemmdfncaaDoorWa
/- A region that draws its order: what is known of each operation's value once it has come up. No condition. -/
namespace Go.Proofs.YteefneemmdfncaaDoorW.PrintAll
open Go.RowKit Go.Proofs.YteefneemmdfncaaDoorW.PrintWords Go.Proofs.YteefneemmdfncaaDoorW.PrintLast
set_option linter.unusedVariables false
section
variable {P : Program} {ops : Array Oper} {Q : Exit → Act → World → Prop}
def PF (I : (Nat → Bool) → World → Prop) (V : Nat → Value → World → Prop) (n : Nat) (l : Nat → Bool) (xs : Nat → Value) (W : World) : Prop := I l W ∧ ∀ j, j < n → l j = true → V j (xs j) W
theorem PF.up {I : (Nat → Bool) → World → Prop} {V : Nat → Value → World → Prop} {n i : Nat} {l : Nat → Bool} {xs : Nat → Value} {W W' : World} {v : Value} (h : PF I V n l xs W) (hI : I (upd l i true) W') (hV : ∀ j v, j < n → l j = true → V j v W → V j v W') (hv : V i v W') : PF I V n (upd l i true) (upd xs i v) W' :=
  ⟨hI, fun j hj hl => by
    by_cases e : j = i
    · subst e
      rw [upd_same]
      exact hv
    · rw [upd_other _ _ e] at hl ⊢
      exact hV j _ hj hl (h.2 j hj hl)⟩
/-- Behind an operation that leaves the world as it is. -/
theorem PF.now {I : (Nat → Bool) → World → Prop} {V : Nat → Value → World → Prop} {n i : Nat} {l : Nat → Bool} {xs : Nat → Value} {W : World} {v : Value} (h : PF I V n l xs W) (hI : I (upd l i true) W) (hv : V i v W) : PF I V n (upd l i true) (upd xs i v) W := h.up hI (fun _ _ _ _ h => h) hv
theorem PF.get {I : (Nat → Bool) → World → Prop} {V : Nat → Value → World → Prop} {n : Nat} {l : Nat → Bool} {xs : Nat → Value} {W : World} (h : PF I V n l xs W) (j : Nat) (hl : l j = true) (hj : j < n := by decide) : V j (xs j) W := h.2 j hj hl
theorem region_pred {id : Nat} {a : Act} {w : World} {T : Bool × List (List Nat × List Nat)} (n : Nat) (I : (Nat → Bool) → World → Prop) (V : Nat → Value → World → Prop) (hm : P.follows .mixedOrders = true) (hn : ops.size = n) (hT : rtab .any ops = T) (hE : elderB T.2 = true) (hA : apartB (ops.toList.map (·.dst)) = true)
    (h0 : I (fun _ => false) w.drew) (hI : ∀ {l l' : Nat → Bool} {W}, (∀ j, j < n → l j = l' j) → I l W → I l' W) (hsteps : AllUp (StepAt P ops Q T.2 a (PF I V n)) 0 n)
    (hdone : ∀ xs W, I (fun _ => true) W → (∀ j, j < n → V j (xs j) W) → Q .normal (putZ a (ops.toList.map (·.dst)) 0 xs) W) : (Code.region id ops true).wp P Q a w :=
  region_inv n hm hn hT hE hA (PF I V n) (fun xs => ⟨h0, fun j _ h => absurd h Bool.false_ne_true⟩) (fun hl h => ⟨hI hl h.1, fun j hj h2 => h.2 j hj ((hl j hj).trans h2)⟩) hsteps fun xs W h => hdone xs W h.1 fun j hj => h.2 j hj rfl
/-- The same, the invariant speaks of the values too. -/
def PX (I : (Nat → Bool) → (Nat → Value) → World → Prop) (V : Nat → Value → World → Prop) (n : Nat) (l : Nat → Bool) (xs : Nat → Value) (W : World) : Prop := I l xs W ∧ ∀ j, j < n → l j = true → V j (xs j) W
theorem PX.up {I : (Nat → Bool) → (Nat → Value) → World → Prop} {V : Nat → Value → World → Prop} {n i : Nat} {l : Nat → Bool} {xs : Nat → Value} {W W' : World} {v : Value} (h : PX I V n l xs W) (hI : I (upd l i true) (upd xs i v) W') (hV : ∀ j v, j < n → l j = true → V j v W → V j v W') (hv : V i v W') : PX I V n (upd l i true) (upd xs i v) W' :=
  ⟨hI, fun j hj hl => by
    by_cases e : j = i
    · subst e
      rw [upd_same]
      exact hv
    · rw [upd_other _ _ e] at hl ⊢
      exact hV j _ hj hl (h.2 j hj hl)⟩
theorem PX.now {I : (Nat → Bool) → (Nat → Value) → World → Prop} {V : Nat → Value → World → Prop} {n i : Nat} {l : Nat → Bool} {xs : Nat → Value} {W : World} {v : Value} (h : PX I V n l xs W) (hI : I (upd l i true) (upd xs i v) W) (hv : V i v W) : PX I V n (upd l i true) (upd xs i v) W := h.up hI (fun _ _ _ _ h => h) hv
theorem PX.get {I : (Nat → Bool) → (Nat → Value) → World → Prop} {V : Nat → Value → World → Prop} {n : Nat} {l : Nat → Bool} {xs : Nat → Value} {W : World} (h : PX I V n l xs W) (j : Nat) (hl : l j = true) (hj : j < n := by decide) : V j (xs j) W := h.2 j hj hl
end
end Go.Proofs.YteefneemmdfncaaDoorW.PrintAll
/- What a drawn region knows of a value: a policy, a list, a constant. Conditions: each theorem's own. -/
namespace Go.Proofs.YteefneemmdfncaaDoor.M
open Go.RowKit Go.Proofs.YteefneemmdfncaaDoorW.Raw Go.Proofs.YteefneemmdfncaaDoorW.PrintWords Go.Proofs.YteefneemmdfncaaDoorW.PrintLast Go.Proofs.YteefneemmdfncaaDoorW.PrintAll Go.Proofs.YteefneemmdfncaaDoor.F
set_option linter.unusedVariables false
/-- A policy that reads as it must. -/
def PolV (p : Pol) (v : Value) (W : World) : Prop := ∃ C : Array Value, v = .agg C ∧ k28.K W p C.toList
def IsV (c v : Value) (_ : World) : Prop := v = c
def TrV (l : List Tri) (v : Value) (W : World) : Prop := ∃ A c, v = .slice A l.length c ∧ l.length ≤ c ∧ Kd.C k30 W A l.length l
theorem PolV.mono {p : Pol} {v : Value} {W W' : World} (h : PolV p v W) (hb : Below W.heap.size W W') : PolV p v W' := by
  obtain ⟨C, e, h⟩ := h
  exact ⟨C, e, k28.K_below hb h⟩
theorem TrV.mono {l : List Tri} {v : Value} {W W' : World} (h : TrV l v W) (hb : Below W.heap.size W W') : TrV l v W' := by
  obtain ⟨A, c, e, h1, h⟩ := h
  exact ⟨A, c, e, h1, Kd.C_below h hb⟩
theorem pol_size {W : World} {q : Pol} {C : Array Value} (h : k28.K W q C.toList) : (Tryd.prog.info? 28).map (·.size) = some C.size := by
  have h2 := k28.K_len h
  rw [Array.length_toList] at h2
  have h3 : (Tryd.prog.info? 28).map (·.size) = some 11 := by kernel_rfl
  exact h3.trans (congrArg some ((show 11 = k28.sz from rfl).trans h2.symm))
end Go.Proofs.YteefneemmdfncaaDoor.M
/- A region that draws its order and whose last operation is a store: what is known until then, and behind it. No condition. -/
namespace Go.Proofs.YteefneemmdfncaaDoorW.PrintAll
open Go.RowKit Go.Proofs.YteefneemmdfncaaDoorW.PrintWords Go.Proofs.YteefneemmdfncaaDoorW.PrintLast
set_option linter.unusedVariables false
structure LastI (n i0 : Nat) (w : World) (St : World → Prop) (l : Nat → Bool) (W : World) : Prop where
  a : l i0 = true → ∀ j, j < n → l j = true
  b : l i0 = false → Below w.heap.size w W
  s : l i0 = true → St W
theorem LastI.start {n i0 : Nat} {w W : World} {St : World → Prop} (hb : Below w.heap.size w W) : LastI n i0 w St (fun _ => false) W :=
  ⟨fun h => absurd h Bool.false_ne_true, fun _ => hb, fun h => absurd h Bool.false_ne_true⟩
theorem LastI.same {n i0 : Nat} {w W : World} {St : World → Prop} {l l' : Nat → Bool} (h0 : i0 < n) (hl : ∀ j, j < n → l j = l' j) (h : LastI n i0 w St l W) : LastI n i0 w St l' W :=
  ⟨fun h1 j hj => (hl j hj).symm.trans (h.a ((hl i0 h0).trans h1) j hj), fun h1 => h.b ((hl i0 h0).trans h1), fun h1 => h.s ((hl i0 h0).trans h1)⟩
theorem LastI.not {n i0 : Nat} {w W : World} {St : World → Prop} {l : Nat → Bool} (h : LastI n i0 w St l W) {j : Nat} (hl : l j = false) (hj : j < n) : l i0 = false := by
  cases hq : l i0 with
  | false => rfl
  | true => exact absurd (h.a hq j hj) (by rw [hl]; decide)
theorem LastI.below {n i0 : Nat} {w W : World} {St : World → Prop} {l : Nat → Bool} (h : LastI n i0 w St l W) {j : Nat} (hl : l j = false) (hj : j < n) : Below w.heap.size w W := h.b (h.not hl hj)
theorem LastI.up {n i0 : Nat} {w W W' : World} {St : World → Prop} {l : Nat → Bool} (h : LastI n i0 w St l W) {j : Nat} (hl : l j = false) (hj : j < n) (hne : j ≠ i0) (hb : Below W.heap.size W W') : LastI n i0 w St (upd l j true) W' := by
  have h0 := h.not hl hj
  refine ⟨fun h1 => ?_, fun _ => (h.b h0).trans (hb.mono (h.b h0).size), fun h1 => ?_⟩
  · rw [upd_other _ _ (Ne.symm hne), h0] at h1
    cases h1
  · rw [upd_other _ _ (Ne.symm hne), h0] at h1
    cases h1
theorem LastI.store {n i0 : Nat} {w W' : World} {St : World → Prop} {l : Nat → Bool} (ha : ∀ j, j < n → j ≠ i0 → l j = true) (hs : St W') : LastI n i0 w St (upd l i0 true) W' :=
  ⟨fun _ j hj => by
    by_cases e : j = i0
    · subst e; exact upd_same _ _ _
    · rw [upd_other _ _ e]; exact ha j hj e,
   fun h => absurd ((upd_same l i0 true).symm.trans h) (by decide), fun _ => hs⟩
end Go.Proofs.YteefneemmdfncaaDoorW.PrintAll
