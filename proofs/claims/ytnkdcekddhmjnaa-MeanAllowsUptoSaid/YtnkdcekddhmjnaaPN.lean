/- The document's Matches and Allows (gatehouseref08) are mean's, plainly. Conditions: no list, and no rule's list of actions, is longer than 1048576. -/
import Derived.Test.YtnkdcekddhmjnaaPM
import Derived.Test.YtnkdcekddhmjnaaF7
namespace Go.Proofs.Ytnkdcekddhmjnaa.M
open Go.RowKit Go.Proofs.YtnkdcekddhmjnaaW.PrintWords Go.Proofs.Ytnkdcekddhmjnaa.F
set_option linter.unusedVariables false
theorem memB_same {l m : List ByteArray} (h : ∀ x, x ∈ l ↔ x ∈ m) (x : ByteArray) : memB l x = memB m x := by
  rw [Bool.eq_iff_iff, memB_iff, memB_iff]
  exact h x
theorem rmatch_j0 (p : Pol) (r : Rule) (t : Tri) (tr : Nat) (hs : Sz p) (h3 : r.f3.length ≤ 1048576) :
    Evt (fun k => gatehouseref08_Matches.j0 k tr false p.f0 p.f1 p.f2 p.f3 p.f4 p.f5 p.f6 p.f7 p.f8 p.f9 p.f10 r.f0 r.f1 r.f2 r.f3 r.f4 r.f5 t.f0 t.f1 t.f2) (speakB r tr (upS p t.f0) (upO p t.f1) && namesB r t.f2) := by
  obtain ⟨L1, e1, l1, m1⟩ := rups_f p.f5 p.f6 t.f0 hs.l5 hs.l6
  obtain ⟨L2, e2, l2, m2⟩ := rups_f p.f7 p.f8 t.f1 hs.l7 hs.l8
  have e3 := rabout_f r L1 tr L2 l1 l2
  have es : speakB r tr L1 L2 = speakB r tr (upS p t.f0) (upO p t.f1) := by
    unfold speakB
    rw [memB_same m1, memB_same m2]
    rfl
  rw [es] at e3
  have e4 := rin_f r.f3 t.f2 (by omega)
  refine (Evt.bind e1 (f := fun k a => (gatehouseref08_Ups.f k p.f7 p.f8 t.f1).bind fun b => (gatehouseref08_about.f k r.f0 r.f1 r.f2 r.f3 r.f4 r.f5 a tr b).bind fun c => (gatehouseref08_in.f k r.f3 t.f2).bind fun d => (if c = true then (if (r.f3.length : Int) = 0 then (some true) else (some d)) else (some false))) ?_).step fun k => ?_
  · refine Evt.bind e2 (f := fun k b => (gatehouseref08_about.f k r.f0 r.f1 r.f2 r.f3 r.f4 r.f5 L1 tr b).bind fun c => (gatehouseref08_in.f k r.f3 t.f2).bind fun d => (if c = true then (if (r.f3.length : Int) = 0 then (some true) else (some d)) else (some false))) ?_
    refine Evt.bind e3 (f := fun k c => (gatehouseref08_in.f k r.f3 t.f2).bind fun d => (if c = true then (if (r.f3.length : Int) = 0 then (some true) else (some d)) else (some false))) ?_
    refine Evt.bind e4 (f := fun k d => (if (speakB r tr (upS p t.f0) (upO p t.f1)) = true then (if (r.f3.length : Int) = 0 then (some true) else (some d)) else (some false))) (Evt.now fun _ => ?_)
    unfold namesB
    cases speakB r tr (upS p t.f0) (upO p t.f1) with
    | false => rfl
    | true =>
      rw [if_pos rfl, Bool.true_and]
      cases hr : r.f3 with
      | nil => rfl
      | cons a l => rw [if_neg (by simp; omega)]; rfl
  · simp only [gatehouseref08_Matches.j0]
    rw [if_neg (by simp)]
theorem rmatch_no (p : Pol) (r : Rule) (t : Tri) (tr : Nat) : Evt (fun k => gatehouseref08_Matches.j0 k tr true p.f0 p.f1 p.f2 p.f3 p.f4 p.f5 p.f6 p.f7 p.f8 p.f9 p.f10 r.f0 r.f1 r.f2 r.f3 r.f4 r.f5 t.f0 t.f1 t.f2) false := by
  refine Evt.now fun k => ?_
  simp only [gatehouseref08_Matches.j0]
  rw [if_pos trivial]
theorem rmatch_f (p : Pol) (r : Rule) (t : Tri) (hs : Sz p) (h3 : r.f3.length ≤ 1048576) : Evt (fun k => gatehouseref08_Matches.f k p.f0 p.f1 p.f2 p.f3 p.f4 p.f5 p.f6 p.f7 p.f8 p.f9 p.f10 r.f0 r.f1 r.f2 r.f3 r.f4 r.f5 t.f0 t.f1 t.f2) (matchB p r t) := by
  have e1 := rtrust_f p t.f0 hs
  have e2 := rin_f p.f3 t.f1 (by have := hs.l3; omega)
  have e3 := rin_f p.f0 t.f2 (by have := hs.l0; omega)
  refine Evt.bind e1 (f := fun k a => (gatehouseref08_in.f k p.f3 t.f1).bind fun b => (gatehouseref08_in.f k p.f0 t.f2).bind fun c => (if a.2 = true then (if b = true then (gatehouseref08_Matches.j0 k a.1 (!c) p.f0 p.f1 p.f2 p.f3 p.f4 p.f5 p.f6 p.f7 p.f8 p.f9 p.f10 r.f0 r.f1 r.f2 r.f3 r.f4 r.f5 t.f0 t.f1 t.f2) else (gatehouseref08_Matches.j0 k a.1 true p.f0 p.f1 p.f2 p.f3 p.f4 p.f5 p.f6 p.f7 p.f8 p.f9 p.f10 r.f0 r.f1 r.f2 r.f3 r.f4 r.f5 t.f0 t.f1 t.f2)) else (gatehouseref08_Matches.j0 k a.1 true p.f0 p.f1 p.f2 p.f3 p.f4 p.f5 p.f6 p.f7 p.f8 p.f9 p.f10 r.f0 r.f1 r.f2 r.f3 r.f4 r.f5 t.f0 t.f1 t.f2))) ?_
  refine Evt.bind e2 (f := fun k b => (gatehouseref08_in.f k p.f0 t.f2).bind fun c => (if (match trustOf p.f1 t.f0 with | none => ((0 : Nat), false) | some tr => (tr, true)).2 = true then (if b = true then (gatehouseref08_Matches.j0 k (match trustOf p.f1 t.f0 with | none => ((0 : Nat), false) | some tr => (tr, true)).1 (!c) p.f0 p.f1 p.f2 p.f3 p.f4 p.f5 p.f6 p.f7 p.f8 p.f9 p.f10 r.f0 r.f1 r.f2 r.f3 r.f4 r.f5 t.f0 t.f1 t.f2) else (gatehouseref08_Matches.j0 k (match trustOf p.f1 t.f0 with | none => ((0 : Nat), false) | some tr => (tr, true)).1 true p.f0 p.f1 p.f2 p.f3 p.f4 p.f5 p.f6 p.f7 p.f8 p.f9 p.f10 r.f0 r.f1 r.f2 r.f3 r.f4 r.f5 t.f0 t.f1 t.f2)) else (gatehouseref08_Matches.j0 k (match trustOf p.f1 t.f0 with | none => ((0 : Nat), false) | some tr => (tr, true)).1 true p.f0 p.f1 p.f2 p.f3 p.f4 p.f5 p.f6 p.f7 p.f8 p.f9 p.f10 r.f0 r.f1 r.f2 r.f3 r.f4 r.f5 t.f0 t.f1 t.f2))) ?_
  refine Evt.bind e3 (f := fun k c => (if (match trustOf p.f1 t.f0 with | none => ((0 : Nat), false) | some tr => (tr, true)).2 = true then (if memB p.f3 t.f1 = true then (gatehouseref08_Matches.j0 k (match trustOf p.f1 t.f0 with | none => ((0 : Nat), false) | some tr => (tr, true)).1 (!c) p.f0 p.f1 p.f2 p.f3 p.f4 p.f5 p.f6 p.f7 p.f8 p.f9 p.f10 r.f0 r.f1 r.f2 r.f3 r.f4 r.f5 t.f0 t.f1 t.f2) else (gatehouseref08_Matches.j0 k (match trustOf p.f1 t.f0 with | none => ((0 : Nat), false) | some tr => (tr, true)).1 true p.f0 p.f1 p.f2 p.f3 p.f4 p.f5 p.f6 p.f7 p.f8 p.f9 p.f10 r.f0 r.f1 r.f2 r.f3 r.f4 r.f5 t.f0 t.f1 t.f2)) else (gatehouseref08_Matches.j0 k (match trustOf p.f1 t.f0 with | none => ((0 : Nat), false) | some tr => (tr, true)).1 true p.f0 p.f1 p.f2 p.f3 p.f4 p.f5 p.f6 p.f7 p.f8 p.f9 p.f10 r.f0 r.f1 r.f2 r.f3 r.f4 r.f5 t.f0 t.f1 t.f2))) ?_
  unfold matchB
  cases trustOf p.f1 t.f0 with
  | none => exact (rmatch_no p r t 0).same fun k => if_neg (by simp)
  | some tr =>
    cases memB p.f3 t.f1 with
    | false => exact (rmatch_no p r t tr).same fun k => by rw [if_pos rfl, if_neg (by simp)]
    | true =>
      cases memB p.f0 t.f2 with
      | false => exact (rmatch_no p r t tr).same fun k => by rw [if_pos rfl, if_pos rfl]; rfl
      | true =>
        have h := rmatch_j0 p r t tr hs h3
        rw [Bool.and_comm] at h
        exact h.same fun k => by rw [if_pos rfl, if_pos rfl]; rfl
theorem rexc_l0 (p : Pol) (t : Tri) (hs : Sz p) (d : Nat) : ∀ i : Nat, i ≤ p.f10.length → p.f10.length - i = d → Evt (fun k => gatehouseref08_excepted.l0 k (i : Int) p.f0 p.f1 p.f2 p.f3 p.f4 p.f5 p.f6 p.f7 p.f8 p.f9 p.f10 t.f0 t.f1 t.f2) ((p.f10.drop i).any fun u => eqT t u) := by
  have hl := hs.l10
  induction d with
  | zero =>
    intro i h1 hd
    rw [List.drop_of_length_le (by omega)]
    refine Evt.now fun k => ?_
    simp only [gatehouseref08_excepted.l0]
    rw [if_neg (by omega)]
    rfl
  | succ d ih =>
    intro i h1 hd
    have hlt : i < p.f10.length := by omega
    have ec : (p.f10[i].f0.toList == t.f0.toList && (p.f10[i].f1.toList == t.f1.toList && p.f10[i].f2.toList == t.f2.toList)) = eqT t p.f10[i] := by
      rw [tb, tb, tb]
      unfold eqT
      rw [Bool.and_assoc]
    rw [List.drop_eq_getElem_cons hlt]
    show Evt _ (eqT t p.f10[i] || ((p.f10.drop (i + 1)).any fun u => eqT t u))
    cases hq : eqT t p.f10[i] with
    | true =>
      refine Evt.now fun k => ?_
      simp only [gatehouseref08_excepted.l0]
      rw [if_pos (by omega), if_pos (by omega), rdTri hlt, ec, hq]
      rfl
    | false =>
      have h := ih (i + 1) (by omega) (by omega)
      refine h.step fun k => ?_
      simp only [gatehouseref08_excepted.l0]
      rw [if_pos (by omega), if_pos (by omega), rdTri hlt, ec, hq, if_neg (by simp), w1 (by omega)]
theorem rexc_f (p : Pol) (t : Tri) (hs : Sz p) : Evt (fun k => gatehouseref08_excepted.f k p.f0 p.f1 p.f2 p.f3 p.f4 p.f5 p.f6 p.f7 p.f8 p.f9 p.f10 t.f0 t.f1 t.f2) (p.f10.any fun u => eqT t u) := rexc_l0 p t hs p.f10.length 0 (Nat.zero_le _) (by omega)
theorem any_part {α : Type} (m d : α → Bool) (l : List α) : l.any m = ((l.any fun r => m r && !d r) || (l.any fun r => m r && d r)) := by
  induction l with
  | nil => rfl
  | cons a l ih =>
    rw [List.any_cons, List.any_cons, List.any_cons, ih]
    cases m a <;> cases d a <;> cases (l.any fun r => m r && !d r) <;> cases (l.any fun r => m r && d r) <;> rfl
theorem rall_eq (p : Pol) (t : Tri) : ((p.f9.any fun r => matchB p r t && !r.f0) && !(p.f9.any fun r => matchB p r t && r.f0) && !(p.f10.any fun u => eqT t u)) = allowsB p t := by
  rw [allowsB_any]
  unfold matchB
  cases trustOf p.f1 t.f0 with
  | none => simp
  | some tr =>
    cases ha : (memB p.f3 t.f1 && memB p.f0 t.f2) with
    | false => simp
    | true =>
      dsimp only
      rw [any_part (fun r => speakB r tr (upS p t.f0) (upO p t.f1) && namesB r t.f2) (fun r => r.f0)]
      have e1 : ∀ r : Rule, (true && namesB r t.f2 && speakB r tr (upS p t.f0) (upO p t.f1)) = (speakB r tr (upS p t.f0) (upO p t.f1) && namesB r t.f2) := fun r => by rw [Bool.true_and, Bool.and_comm]
      simp only [e1, Bool.and_assoc]
      generalize (p.f9.any fun r => speakB r tr (upS p t.f0) (upO p t.f1) && (namesB r t.f2 && !r.f0)) = a
      generalize (p.f9.any fun r => speakB r tr (upS p t.f0) (upO p t.f1) && (namesB r t.f2 && r.f0)) = b
      generalize (p.f10.any fun u => eqT t u) = c
      cases a <;> cases b <;> cases c <;> rfl
theorem rall_l0 (p : Pol) (t : Tri) (hs : Sz p) (d : Nat) : ∀ (i : Nat) (x5 x6 : Bool), i ≤ p.f9.length → p.f9.length - i = d →
    Evt (fun k => gatehouseref08_Allows.l0 k x5 x6 (i : Int) p.f0 p.f1 p.f2 p.f3 p.f4 p.f5 p.f6 p.f7 p.f8 p.f9 p.f10 t.f0 t.f1 t.f2) ((x5 || ((p.f9.drop i).any fun r => matchB p r t && !r.f0)) && !(x6 || ((p.f9.drop i).any fun r => matchB p r t && r.f0)) && !(p.f10.any fun u => eqT t u)) := by
  have hl := hs.l9
  induction d with
  | zero =>
    intro i x5 x6 h1 hd
    rw [List.drop_of_length_le (by omega)]
    refine (Evt.bind (rexc_f p t hs) (f := fun _ x => (if x5 = true then (if x6 = true then (some false) else (some (!x))) else (some false))) (Evt.now fun _ => ?_)).step fun k => ?_
    · generalize (p.f10.any fun u => eqT t u) = c
      cases x5 <;> cases x6 <;> cases c <;> rfl
    · simp only [gatehouseref08_Allows.l0]
      rw [if_neg (by omega)]
  | succ d ih =>
    intro i x5 x6 h1 hd
    have hlt : i < p.f9.length := by omega
    have hm := rmatch_f p p.f9[i] t hs (hs.la _ (List.getElem_mem hlt))
    rw [List.drop_eq_getElem_cons hlt, List.any_cons, List.any_cons]
    have hB : Evt (fun k => if matchB p p.f9[i] t = true then (gatehouseref08_Allows.j1 k x5 x6 (i : Int) (matchB p p.f9[i] t) (p.f9[i].f0) p.f0 p.f1 p.f2 p.f3 p.f4 p.f5 p.f6 p.f7 p.f8 p.f9 p.f10 t.f0 t.f1 t.f2) else (gatehouseref08_Allows.j1 k x5 x6 (i : Int) (matchB p p.f9[i] t) false p.f0 p.f1 p.f2 p.f3 p.f4 p.f5 p.f6 p.f7 p.f8 p.f9 p.f10 t.f0 t.f1 t.f2)) ((x5 || (matchB p p.f9[i] t && !p.f9[i].f0 || ((p.f9.drop (i + 1)).any fun r => matchB p r t && !r.f0))) && !(x6 || (matchB p p.f9[i] t && p.f9[i].f0 || ((p.f9.drop (i + 1)).any fun r => matchB p r t && r.f0))) && !(p.f10.any fun u => eqT t u)) := by
      cases matchB p p.f9[i] t with
      | false =>
        have h := ih (i + 1) x5 x6 (by omega) (by omega)
        refine (h.step (g := fun k => gatehouseref08_Allows.j1 k x5 x6 (i : Int) false false p.f0 p.f1 p.f2 p.f3 p.f4 p.f5 p.f6 p.f7 p.f8 p.f9 p.f10 t.f0 t.f1 t.f2) fun k => ?_).same fun k => if_neg (by simp)
        simp only [gatehouseref08_Allows.j1]
        rw [if_neg (by simp), if_neg (by simp), w1 (by omega)]
      | true =>
        cases hf : p.f9[i].f0 with
        | true =>
          have h := ih (i + 1) x5 true (by omega) (by omega)
          have h' : Evt (fun k => gatehouseref08_Allows.j1 k x5 x6 (i : Int) true true p.f0 p.f1 p.f2 p.f3 p.f4 p.f5 p.f6 p.f7 p.f8 p.f9 p.f10 t.f0 t.f1 t.f2) ((x5 || ((p.f9.drop (i + 1)).any fun r => matchB p r t && !r.f0)) && !(true || ((p.f9.drop (i + 1)).any fun r => matchB p r t && r.f0)) && !(p.f10.any fun u => eqT t u)) := by
            refine h.step fun k => ?_
            simp only [gatehouseref08_Allows.j1]
            rw [if_pos trivial, if_pos trivial, if_pos (by omega), if_pos (by omega), rdRule hlt, hf, if_pos rfl, w1 (by omega)]
          have e : ((x5 || (true && !true || ((p.f9.drop (i + 1)).any fun r => matchB p r t && !r.f0))) && !(x6 || (true && true || ((p.f9.drop (i + 1)).any fun r => matchB p r t && r.f0))) && !(p.f10.any fun u => eqT t u)) = ((x5 || ((p.f9.drop (i + 1)).any fun r => matchB p r t && !r.f0)) && !(true || ((p.f9.drop (i + 1)).any fun r => matchB p r t && r.f0)) && !(p.f10.any fun u => eqT t u)) := by
            cases x5 <;> cases x6 <;> simp
          rw [e]
          exact h'.same fun k => if_pos rfl
        | false =>
          have h := ih (i + 1) true x6 (by omega) (by omega)
          have h' : Evt (fun k => gatehouseref08_Allows.j1 k x5 x6 (i : Int) true false p.f0 p.f1 p.f2 p.f3 p.f4 p.f5 p.f6 p.f7 p.f8 p.f9 p.f10 t.f0 t.f1 t.f2) ((true || ((p.f9.drop (i + 1)).any fun r => matchB p r t && !r.f0)) && !(x6 || ((p.f9.drop (i + 1)).any fun r => matchB p r t && r.f0)) && !(p.f10.any fun u => eqT t u)) := by
            refine h.step fun k => ?_
            simp only [gatehouseref08_Allows.j1]
            rw [if_neg (by simp), if_pos trivial, if_pos (by omega), if_pos (by omega), rdRule hlt, hf, if_neg (by simp), w1 (by omega)]
          have e : ((x5 || (true && !false || ((p.f9.drop (i + 1)).any fun r => matchB p r t && !r.f0))) && !(x6 || (true && false || ((p.f9.drop (i + 1)).any fun r => matchB p r t && r.f0))) && !(p.f10.any fun u => eqT t u)) = ((true || ((p.f9.drop (i + 1)).any fun r => matchB p r t && !r.f0)) && !(x6 || ((p.f9.drop (i + 1)).any fun r => matchB p r t && r.f0)) && !(p.f10.any fun u => eqT t u)) := by
            cases x5 <;> simp
          rw [e]
          exact h'.same fun k => if_pos rfl
    refine (Evt.bind hm (f := fun k x => if x = true then (gatehouseref08_Allows.j1 k x5 x6 (i : Int) x (p.f9[i].f0) p.f0 p.f1 p.f2 p.f3 p.f4 p.f5 p.f6 p.f7 p.f8 p.f9 p.f10 t.f0 t.f1 t.f2) else (gatehouseref08_Allows.j1 k x5 x6 (i : Int) x false p.f0 p.f1 p.f2 p.f3 p.f4 p.f5 p.f6 p.f7 p.f8 p.f9 p.f10 t.f0 t.f1 t.f2)) hB).step fun k => ?_
    simp only [gatehouseref08_Allows.l0]
    rw [if_pos (by omega), if_pos (by omega), rdRule hlt]
theorem rallows_f (p : Pol) (t : Tri) (hs : Sz p) : Evt (fun k => gatehouseref08_Allows.f k p.f0 p.f1 p.f2 p.f3 p.f4 p.f5 p.f6 p.f7 p.f8 p.f9 p.f10 t.f0 t.f1 t.f2) (allowsB p t) := by
  have h := rall_l0 p t hs p.f9.length 0 false false (Nat.zero_le _) (by omega)
  rw [List.drop_zero, Bool.false_or, Bool.false_or, rall_eq] at h
  exact h
end Go.Proofs.Ytnkdcekddhmjnaa.M
