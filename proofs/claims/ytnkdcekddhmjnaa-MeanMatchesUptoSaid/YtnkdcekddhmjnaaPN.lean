/- The document's Matches and Allows (gatehouseref08) are mean's, plainly. Conditions: no list, and no rule's list of actions, is longer than 1048576. -/
import Derived.Test.YtnkdcekddhmjnaaPM
import Derived.Test.YtnkdcekddhmjnaaF7
namespace Go.Proofs.Ytnkdcekddhmjnaa.M
open Go.RowKit Go.Proofs.YtnkdcekddhmjnaaW.PrintWords Go.Proofs.Ytnkdcekddhmjnaa.F
set_option linter.unusedVariables false
theorem memB_same {l m : List ByteArray} (h : ∀ x, x ∈ l ↔ x ∈ m) (x : ByteArray) : memB l x = memB m x := by
  rw [Bool.eq_iff_iff, memB_iff, memB_iff]
  exact h x
theorem rmatch_j0 (p : Pol) (r : Rule) (t : Tri) (tr : Nat) (hs : Sz p) (h3 : r.f3.length ≤ 1048576) :
    Evt (fun k => gatehouseref08_Matches.j0 k tr false p.f0 p.f1 p.f2 p.f3 p.f4 p.f5 p.f6 p.f7 p.f8 p.f9 p.f10 r.f0 r.f1 r.f2 r.f3 r.f4 r.f5 t.f0 t.f1 t.f2) (speakB r tr (upS p t.f0) (upO p t.f1) && namesB r t.f2) := by
  obtain ⟨L1, e1, l1, m1⟩ := rups_f p.f5 p.f6 t.f0 hs.l5 hs.l6
  obtain ⟨L2, e2, l2, m2⟩ := rups_f p.f7 p.f8 t.f1 hs.l7 hs.l8
  have e3 := rabout_f r L1 tr L2 l1 l2
  have es : speakB r tr L1 L2 = speakB r tr (upS p t.f0) (upO p t.f1) := by
    unfold speakB
    rw [memB_same m1, memB_same m2]
    rfl
  rw [es] at e3
  have e4 := rin_f r.f3 t.f2 (by omega)
  refine (Evt.bind e1 (f := fun k a => (gatehouseref08_Ups.f k p.f7 p.f8 t.f1).bind fun b => (gatehouseref08_about.f k r.f0 r.f1 r.f2 r.f3 r.f4 r.f5 a tr b).bind fun c => (gatehouseref08_in.f k r.f3 t.f2).bind fun d => (if c = true then (if (r.f3.length : Int) = 0 then (some true) else (some d)) else (some false))) ?_).step fun k => ?_
  · refine Evt.bind e2 (f := fun k b => (gatehouseref08_about.f k r.f0 r.f1 r.f2 r.f3 r.f4 r.f5 L1 tr b).bind fun c => (gatehouseref08_in.f k r.f3 t.f2).bind fun d => (if c = true then (if (r.f3.length : Int) = 0 then (some true) else (some d)) else (some false))) ?_
    refine Evt.bind e3 (f := fun k c => (gatehouseref08_in.f k r.f3 t.f2).bind fun d => (if c = true then (if (r.f3.length : Int) = 0 then (some true) else (some d)) else (some false))) ?_
    refine Evt.bind e4 (f := fun k d => (if (speakB r tr (upS p t.f0) (upO p t.f1)) = true then (if (r.f3.length : Int) = 0 then (some true) else (some d)) else (some false))) (Evt.now fun _ => ?_)
    unfold namesB
    cases speakB r tr (upS p t.f0) (upO p t.f1) with
    | false => rfl
    | true =>
      rw [if_pos rfl, Bool.true_and]
      cases hr : r.f3 with
      | nil => rfl
      | cons a l => rw [if_neg (by simp; omega)]; rfl
  · simp only [gatehouseref08_Matches.j0]
    rw [if_neg (by simp)]
theorem rmatch_no (p : Pol) (r : Rule) (t : Tri) (tr : Nat) : Evt (fun k => gatehouseref08_Matches.j0 k tr true p.f0 p.f1 p.f2 p.f3 p.f4 p.f5 p.f6 p.f7 p.f8 p.f9 p.f10 r.f0 r.f1 r.f2 r.f3 r.f4 r.f5 t.f0 t.f1 t.f2) false := by
  refine Evt.now fun k => ?_
  simp only [gatehouseref08_Matches.j0]
  rw [if_pos trivial]
theorem rmatch_f (p : Pol) (r : Rule) (t : Tri) (hs : Sz p) (h3 : r.f3.length ≤ 1048576) : Evt (fun k => gatehouseref08_Matches.f k p.f0 p.f1 p.f2 p.f3 p.f4 p.f5 p.f6 p.f7 p.f8 p.f9 p.f10 r.f0 r.f1 r.f2 r.f3 r.f4 r.f5 t.f0 t.f1 t.f2) (matchB p r t) := by
  have e1 := rtrust_f p t.f0 hs
  have e2 := rin_f p.f3 t.f1 (by have := hs.l3; omega)
  have e3 := rin_f p.f0 t.f2 (by have := hs.l0; omega)
  refine Evt.bind e1 (f := fun k a => (gatehouseref08_in.f k p.f3 t.f1).bind fun b => (gatehouseref08_in.f k p.f0 t.f2).bind fun c => (if a.2 = true then (if b = true then (gatehouseref08_Matches.j0 k a.1 (!c) p.f0 p.f1 p.f2 p.f3 p.f4 p.f5 p.f6 p.f7 p.f8 p.f9 p.f10 r.f0 r.f1 r.f2 r.f3 r.f4 r.f5 t.f0 t.f1 t.f2) else (gatehouseref08_Matches.j0 k a.1 true p.f0 p.f1 p.f2 p.f3 p.f4 p.f5 p.f6 p.f7 p.f8 p.f9 p.f10 r.f0 r.f1 r.f2 r.f3 r.f4 r.f5 t.f0 t.f1 t.f2)) else (gatehouseref08_Matches.j0 k a.1 true p.f0 p.f1 p.f2 p.f3 p.f4 p.f5 p.f6 p.f7 p.f8 p.f9 p.f10 r.f0 r.f1 r.f2 r.f3 r.f4 r.f5 t.f0 t.f1 t.f2))) ?_
  refine Evt.bind e2 (f := fun k b => (gatehouseref08_in.f k p.f0 t.f2).bind fun c => (if (match trustOf p.f1 t.f0 with | none => ((0 : Nat), false) | some tr => (tr, true)).2 = true then (if b = true then (gatehouseref08_Matches.j0 k (match trustOf p.f1 t.f0 with | none => ((0 : Nat), false) | some tr => (tr, true)).1 (!c) p.f0 p.f1 p.f2 p.f3 p.f4 p.f5 p.f6 p.f7 p.f8 p.f9 p.f10 r.f0 r.f1 r.f2 r.f3 r.f4 r.f5 t.f0 t.f1 t.f2) else (gatehouseref08_Matches.j0 k (match trustOf p.f1 t.f0 with | none => ((0 : Nat), false) | some tr => (tr, true)).1 true p.f0 p.f1 p.f2 p.f3 p.f4 p.f5 p.f6 p.f7 p.f8 p.f9 p.f10 r.f0 r.f1 r.f2 r.f3 r.f4 r.f5 t.f0 t.f1 t.f2)) else (gatehouseref08_Matches.j0 k (match trustOf p.f1 t.f0 with | none => ((0 : Nat), false) | some tr => (tr, true)).1 true p.f0 p.f1 p.f2 p.f3 p.f4 p.f5 p.f6 p.f7 p.f8 p.f9 p.f10 r.f0 r.f1 r.f2 r.f3 r.f4 r.f5 t.f0 t.f1 t.f2))) ?_
  refine Evt.bind e3 (f := fun k c => (if (match trustOf p.f1 t.f0 with | none => ((0 : Nat), false) | some tr => (tr, true)).2 = true then (if memB p.f3 t.f1 = true then (gatehouseref08_Matches.j0 k (match trustOf p.f1 t.f0 with | none => ((0 : Nat), false) | some tr => (tr, true)).1 (!c) p.f0 p.f1 p.f2 p.f3 p.f4 p.f5 p.f6 p.f7 p.f8 p.f9 p.f10 r.f0 r.f1 r.f2 r.f3 r.f4 r.f5 t.f0 t.f1 t.f2) else (gatehouseref08_Matches.j0 k (match trustOf p.f1 t.f0 with | none => ((0 : Nat), false) | some tr => (tr, true)).1 true p.f0 p.f1 p.f2 p.f3 p.f4 p.f5 p.f6 p.f7 p.f8 p.f9 p.f10 r.f0 r.f1 r.f2 r.f3 r.f4 r.f5 t.f0 t.f1 t.f2)) else (gatehouseref08_Matches.j0 k (match trustOf p.f1 t.f0 with | none => ((0 : Nat), false) | some tr => (tr, true)).1 true p.f0 p.f1 p.f2 p.f3 p.f4 p.f5 p.f6 p.f7 p.f8 p.f9 p.f10 r.f0 r.f1 r.f2 r.f3 r.f4 r.f5 t.f0 t.f1 t.f2))) ?_
  unfold matchB
  cases trustOf p.f1 t.f0 with
  | none => exact (rmatch_no p r t 0).same fun k => if_neg (by simp)
  | some tr =>
    cases memB p.f3 t.f1 with
    | false => exact (rmatch_no p r t tr).same fun k => by rw [if_pos rfl, if_neg (by simp)]
    | true =>
      cases memB p.f0 t.f2 with
      | false => exact (rmatch_no p r t tr).same fun k => by rw [if_pos rfl, if_pos rfl]; rfl
      | true =>
        have h := rmatch_j0 p r t tr hs h3
        rw [Bool.and_comm] at h
        exact h.same fun k => by rw [if_pos rfl, if_pos rfl]; rfl
end Go.Proofs.Ytnkdcekddhmjnaa.M
