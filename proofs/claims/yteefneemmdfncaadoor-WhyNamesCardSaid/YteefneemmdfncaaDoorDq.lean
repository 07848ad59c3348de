import Derived.Test.YteefneemmdfncaaDoorWf
import Derived.Test.YteefneemmdfncaaDoorWa
/- A region that draws its order and whose last operation is a store into what the region itself made: what is known until then, and behind it. No condition. -/
namespace Go.Proofs.YteefneemmdfncaaDoorW.PrintAll
open Go.RowKit Go.Proofs.YteefneemmdfncaaDoorW.PrintWords Go.Proofs.YteefneemmdfncaaDoorW.PrintLast
set_option linter.unusedVariables false
def LF (I : (Nat → Bool) → World → Prop) (V : Nat → Value → World → Prop) (n i0 : Nat) (St : (Nat → Value) → World → Prop) (l : Nat → Bool) (xs : Nat → Value) (W : World) : Prop := (l i0 = false → PF I V n l xs W) ∧ (l i0 = true → (∀ j, j < n → l j = true) ∧ St xs W)
section
variable {P : Program} {ops : Array Oper} {Q : Exit → Act → World → Prop}
theorem stepAt_last {I : (Nat → Bool) → World → Prop} {V : Nat → Value → World → Prop} {n i0 : Nat} {St : (Nat → Value) → World → Prop} {T : List (List Nat × List Nat)} {a : Act} {i : Nat} (hne : i ≠ i0) (hi : i < n) (h : StepAt P ops Q T a (PF I V n) i) : StepAt P ops Q T a (LF I V n i0 St) i := by
  intro o ho l xs w hF hl hn K hK
  have hl0 : l i0 = false := by
    cases hq : l i0 with
    | false => rfl
    | true => exact absurd ((hF.2 hq).1 i hi) (by rw [hl]; decide)
  refine h o ho l xs w (hF.1 hl0) hl hn K (fun v w' h2 => hK v w' ⟨fun _ => h2, fun h1 => ?_⟩)
  rw [upd_other _ _ (Ne.symm hne), hl0] at h1
  cases h1
theorem region_lastP {id : Nat} {a : Act} {w : World} {T : Bool × List (List Nat × List Nat)} (n i0 : Nat) (hi0 : i0 < n) (I : (Nat → Bool) → World → Prop) (V : Nat → Value → World → Prop) (St : (Nat → Value) → World → Prop) (hm : P.follows .mixedOrders = true) (hn : ops.size = n) (hT : rtab .any ops = T) (hE : elderB T.2 = true) (hA : apartB (ops.toList.map (·.dst)) = true)
    (h0 : I (fun _ => false) w.drew) (hI : ∀ {l l' : Nat → Bool} {W}, (∀ j, j < n → l j = l' j) → I l W → I l' W) (hsteps : AllUp (StepAt P ops Q T.2 a (LF I V n i0 St)) 0 n)
    (hdone : ∀ xs W, St xs W → Q .normal (putZ a (ops.toList.map (·.dst)) 0 xs) W) : (Code.region id ops true).wp P Q a w :=
  region_inv n hm hn hT hE hA (LF I V n i0 St) (fun xs => ⟨fun _ => ⟨h0, fun j _ h => absurd h Bool.false_ne_true⟩, fun h => absurd h Bool.false_ne_true⟩)
    (fun hl h => ⟨fun h1 => ⟨hI hl (h.1 ((hl i0 hi0).trans h1)).1, fun j hj h2 => (h.1 ((hl i0 hi0).trans h1)).2 j hj ((hl j hj).trans h2)⟩, fun h1 => ⟨fun j hj => (hl j hj).symm.trans ((h.2 ((hl i0 hi0).trans h1)).1 j hj), (h.2 ((hl i0 hi0).trans h1)).2⟩⟩)
    hsteps fun xs W h => hdone xs W (h.2 rfl).2
/-- The last store. -/
theorem LF.store {I : (Nat → Bool) → World → Prop} {V : Nat → Value → World → Prop} {n i0 : Nat} {St : (Nat → Value) → World → Prop} {l : Nat → Bool} {xs : Nat → Value} {W : World} {v : Value} (ha : ∀ j, j < n → j ≠ i0 → l j = true) (hs : St (upd xs i0 v) W) : LF I V n i0 St (upd l i0 true) (upd xs i0 v) W :=
  ⟨fun h => absurd ((upd_same l i0 true).symm.trans h) (by decide), fun _ => ⟨fun j hj => by
    by_cases e : j = i0
    · subst e; exact upd_same _ _ _
    · rw [upd_other _ _ e]; exact ha j hj e, hs⟩⟩
end
theorem eval_const (a : Act) (v : Value) : a.eval (.const v) = v := rfl
/-- A slice of so many. -/
def SlV (n : Nat) (v : Value) (_ : World) : Prop := ∃ A c, v = .slice A n c
/-- A block that a region made. -/
def NewV (B : Nat) (cs : Array Value) (t : Nat) (v : Value) (W : World) : Prop := ∃ g, v = .pointer (some ⟨g, 0, none⟩) ∧ B ≤ g ∧ W.heap[g]? = some (.cells cs t (0, 0))
theorem NewV.mono {B : Nat} {cs : Array Value} {t : Nat} {v : Value} {W W' : World} (h : NewV B cs t v W) (hb : Below W.heap.size W W') : NewV B cs t v W' := by
  obtain ⟨g, e, h1, h2⟩ := h
  exact ⟨g, e, h1, blk_below h2 hb⟩
end Go.Proofs.YteefneemmdfncaaDoorW.PrintAll
/- A block of literals reads as the list. Conditions: each theorem's own. -/
namespace Go.Proofs.YteefneemmdfncaaDoor.M
open Go.RowKit Go.Proofs.YteefneemmdfncaaDoorW.Raw Go.Proofs.YteefneemmdfncaaDoorW.PrintWords Go.Proofs.YteefneemmdfncaaDoor.F
set_option linter.unusedVariables false
theorem row_C {α : Type} {d : Kd α} {w : World} {b t : Nat} {cells : Array Value} {xs : List α} (h : w.heap[b]? = some (.cells cells t (0, 0))) (hl : cells.size = xs.length * d.sz) (hm : xs.length ≤ 9223372036854775807)
    (hK : ∀ j p, xs[j]? = some p → d.K w p ((cells.toList.drop (j * d.sz)).take d.sz)) : d.C w (some ⟨b, 0, none⟩) xs.length xs := by
  refine ⟨rfl, hm, fun _ => ⟨_, rfl, fun j p hj => ⟨_, ?_, hK j p hj, fun i u hu => ?_⟩⟩⟩
  · have hjl := (List.getElem?_eq_some_iff.1 hj).1
    rw [List.length_take, List.length_drop, Array.length_toList, hl]
    have : (j + 1) * d.sz ≤ xs.length * d.sz := Nat.mul_le_mul_right _ hjl
    rw [Nat.succ_mul] at this
    omega
  · have h1 := blk_cell h (j * d.sz + i)
    have h2 : cells[j * d.sz + i]? = some u := by
      rw [List.getElem?_take] at hu
      split at hu
      · rw [List.getElem?_drop, Array.getElem?_toList] at hu
        exact hu
      · cases hu
    rw [h2] at h1
    have ha : (⟨b, 0, none⟩ : Addr).add (j * d.sz + i) = ⟨b, j * d.sz + i, none⟩ := by
      generalize j * d.sz + i = q
      unfold Addr.add
      by_cases hq : q = 0
      · subst hq; rfl
      · simp [hq]
    rw [ha]
    exact h1
theorem str_C {w : World} {b t : Nat} {xs : List ByteArray} (h : w.heap[b]? = some (.cells (xs.map Value.string).toArray t (0, 0))) (hm : xs.length ≤ 9223372036854775807) : Kd.C Kd.string w (some ⟨b, 0, none⟩) xs.length xs := by
  refine row_C (d := Kd.string) h (by simp [Kd.string, Kd.scalar]) hm (fun j p hj => ?_)
  show _ = [Value.string p]
  have hjl := (List.getElem?_eq_some_iff.1 hj).1
  have hp := (List.getElem?_eq_some_iff.1 hj).2
  simp only [Kd.string, Kd.scalar, Nat.mul_one]
  rw [List.take_one, List.head?_drop, List.getElem?_map, hj]
  rfl
end Go.Proofs.YteefneemmdfncaaDoor.M
