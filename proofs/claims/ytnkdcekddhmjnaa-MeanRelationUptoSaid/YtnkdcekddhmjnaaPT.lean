import Derived.Test.YtnkdcekddhmjnaaPN
import Derived.Test.YtnkdcekddhmjnaaF18
import Derived.Test.YtnkdcekddhmjnaaF19
/- The document's Relation, its parts plainly: first, Subjects, one, may. Conditions: no list, and no rule's list of actions, is longer than 1048576. -/
namespace Go.Proofs.Ytnkdcekddhmjnaa.M
open Go.RowKit Go.Proofs.YtnkdcekddhmjnaaW.PrintWords Go.Proofs.Ytnkdcekddhmjnaa.F
set_option linter.unusedVariables false
theorem add1_memB (L : List ByteArray) (x : ByteArray) : add1 L x = if memB L x = true then L else L ++ [x] := rfl
theorem Evt.step2 {α : Type} {g h : Nat → Option α} {r r' : α} (hh : Evt h r) (er : r = r') (e : ∀ k, g (k + 1) = h k) : Evt g r' := er ▸ hh.step e
theorem rfirst_l0 (l : List ByteArray) (hl : l.length ≤ 1048576) (d : Nat) : ∀ (i : Nat) (L : List ByteArray), i ≤ l.length → l.length - i = d → L.length ≤ i → Evt (fun k => gatehouseref08_first.l0 k l L (i : Int)) (addAll L (l.drop i)) := by
  induction d with
  | zero =>
    intro i L h1 hd hL
    rw [List.drop_of_length_le (by omega)]
    refine Evt.now fun k => ?_
    simp only [gatehouseref08_first.l0]
    rw [if_neg (by omega)]
    rfl
  | succ d ih =>
    intro i L h1 hd hL
    have hlt : i < l.length := by omega
    rw [List.drop_eq_getElem_cons hlt]
    show Evt _ (addAll (add1 L l[i]) (l.drop (i + 1)))
    have h := ih (i + 1) (add1 L l[i]) (by omega) (by omega) (by have := add1_len L l[i]; omega)
    rw [add1_memB] at h ⊢
    refine (Evt.bind (rin_f L l[i] (by omega)) (f := fun k b => if b = true then gatehouseref08_first.l0 k l L (wrap64 ((i : Int) + 1)) else if L.length < 8796093022208 then gatehouseref08_first.l0 k l (L ++ [rdOf ByteArray.empty l (i : Int)]) (wrap64 ((i : Int) + 1)) else none) ?_).step fun k => ?_
    · refine h.same fun k => ?_
      rw [w1 (by omega), rdStr hlt]
      by_cases hq : memB L l[i] = true
      · rw [if_pos hq, if_pos hq]
      · rw [if_neg hq, if_neg hq, if_pos (by omega)]
    · simp only [gatehouseref08_first.l0]
      rw [if_pos (by omega), if_pos (by omega), rdStr hlt]
theorem rfirst_f (l : List ByteArray) (hl : l.length ≤ 1048576) : Evt (fun k => gatehouseref08_first.f k l) (addAll [] l) := rfirst_l0 l hl l.length 0 [] (Nat.zero_le _) (by omega) (Nat.le_refl _)
theorem rsubj_l0 (p : Pol) (hs : Sz p) (d : Nat) : ∀ (i : Nat) (L : List ByteArray), i ≤ p.f1.length → p.f1.length - i = d → L.length ≤ i → Evt (fun k => gatehouseref08_Subjects.l0 k L (i : Int) p.f0 p.f1 p.f2 p.f3 p.f4 p.f5 p.f6 p.f7 p.f8 p.f9 p.f10) (L ++ (p.f1.drop i).map (·.f0)) := by
  have hl := hs.l1
  induction d with
  | zero =>
    intro i L h1 hd hL
    rw [List.drop_of_length_le (by omega), List.map_nil, List.append_nil]
    refine Evt.now fun k => ?_
    simp only [gatehouseref08_Subjects.l0]
    rw [if_neg (by omega)]
  | succ d ih =>
    intro i L h1 hd hL
    have hlt : i < p.f1.length := by omega
    have h := ih (i + 1) (L ++ [p.f1[i].f0]) (by omega) (by omega) (by simp; omega)
    rw [List.append_assoc] at h
    rw [List.drop_eq_getElem_cons hlt, List.map_cons]
    refine h.step fun k => ?_
    simp only [gatehouseref08_Subjects.l0]
    rw [if_pos (by omega), if_pos (by omega), if_pos (by omega), rdSub hlt, w1 (by omega)]
theorem rsubj_f (p : Pol) (hs : Sz p) : Evt (fun k => gatehouseref08_Subjects.f k p.f0 p.f1 p.f2 p.f3 p.f4 p.f5 p.f6 p.f7 p.f8 p.f9 p.f10) (p.f1.map (·.f0)) := by
  have h := rsubj_l0 p hs p.f1.length 0 [] (Nat.zero_le _) (by omega) (Nat.le_refl _)
  rw [List.drop_zero, List.nil_append] at h
  exact h
theorem rone_l0 (p : Pol) (L1 : List ByteArray) (tr : Nat) (L2 : List ByteArray) (h1 : L1.length ≤ 4194304) (h2 : L2.length ≤ 4194304) (hs : Sz p) (d : Nat) : ∀ (i : Nat) (R : List Rule), i ≤ p.f9.length → p.f9.length - i = d → R.length ≤ i →
    Evt (fun k => gatehouseref08_one.l0 k L1 tr L2 R (i : Int) p.f0 p.f1 p.f2 p.f3 p.f4 p.f5 p.f6 p.f7 p.f8 p.f9 p.f10) (R ++ (p.f9.drop i).filter fun r => speakB r tr L1 L2) := by
  have hl := hs.l9
  induction d with
  | zero =>
    intro i R hi hd hR
    rw [List.drop_of_length_le (by omega), List.filter_nil, List.append_nil]
    refine Evt.now fun k => ?_
    simp only [gatehouseref08_one.l0]
    rw [if_neg (by omega)]
  | succ d ih =>
    intro i R hi hd hR
    have hlt : i < p.f9.length := by omega
    have e := rabout_f p.f9[i] L1 tr L2 h1 h2
    rw [List.drop_eq_getElem_cons hlt, List.filter_cons]
    refine (Evt.bind e (f := fun k b => if b = true then (if R.length < 1759218604441 then gatehouseref08_one.l0 k L1 tr L2 (R ++ [p.f9[i]]) (wrap64 ((i : Int) + 1)) p.f0 p.f1 p.f2 p.f3 p.f4 p.f5 p.f6 p.f7 p.f8 p.f9 p.f10 else none) else gatehouseref08_one.l0 k L1 tr L2 R (wrap64 ((i : Int) + 1)) p.f0 p.f1 p.f2 p.f3 p.f4 p.f5 p.f6 p.f7 p.f8 p.f9 p.f10) ?_).step fun k => ?_
    · cases hq : speakB p.f9[i] tr L1 L2 with
      | true =>
        have h := ih (i + 1) (R ++ [p.f9[i]]) (by omega) (by omega) (by simp; omega)
        rw [List.append_assoc] at h
        refine h.same fun k => ?_
        rw [if_pos rfl, if_pos (by omega), w1 (by omega)]
      | false =>
        refine (ih (i + 1) R (by omega) (by omega) (by omega)).same fun k => ?_
        rw [if_neg (by simp), w1 (by omega)]
    · simp only [gatehouseref08_one.l0]
      rw [if_pos (by omega), if_pos (by omega), rdRule hlt]
theorem rone_f (p : Pol) (L1 : List ByteArray) (tr : Nat) (L2 : List ByteArray) (h1 : L1.length ≤ 4194304) (h2 : L2.length ≤ 4194304) (hs : Sz p) : Evt (fun k => gatehouseref08_one.f k p.f0 p.f1 p.f2 p.f3 p.f4 p.f5 p.f6 p.f7 p.f8 p.f9 p.f10 L1 tr L2) (p.f9.filter fun r => speakB r tr L1 L2) := rone_l0 p L1 tr L2 h1 h2 hs p.f9.length 0 [] (Nat.zero_le _) (by omega) (Nat.le_refl _)
def mayV (R : List Rule) (x ex : Bool) (a : ByteArray) : Bool := if (R.any fun r => namesB r a && r.f0) = true then false else (x || R.any fun r => namesB r a) && !ex
theorem mayV_allow (R : List Rule) (exs : List Tri) (t : Tri) : mayV R false (exs.any fun u => eqT t u) t.f2 = allowB R exs t := by
  unfold mayV allowB
  cases (R.any fun r => namesB r t.f2 && r.f0) <;> cases (R.any fun r => namesB r t.f2) <;> cases (exs.any fun u => eqT t u) <;> rfl
theorem named_or (r : Rule) (a : ByteArray) : (memB r.f3 a || ((r.f3.length : Int) == 0)) = namesB r a := by
  unfold namesB
  cases r.f3 with
  | nil => rfl
  | cons x l => cases memB (x :: l) a <;> simp <;> omega
theorem rmay_l0 (p : Pol) (R : List Rule) (t : Tri) (hs : Sz p) (hR : R.length ≤ 1048576) (hA : ∀ r ∈ R, r.f3.length ≤ 1048576) (d : Nat) : ∀ (i : Nat) (x : Bool), i ≤ R.length → R.length - i = d →
    Evt (fun k => gatehouseref08_may.l0 k R x (i : Int) p.f0 p.f1 p.f2 p.f3 p.f4 p.f5 p.f6 p.f7 p.f8 p.f9 p.f10 t.f0 t.f1 t.f2) (mayV (R.drop i) x (p.f10.any fun u => eqT t u) t.f2) := by
  induction d with
  | zero =>
    intro i x hi hd
    rw [List.drop_of_length_le (by omega)]
    refine (Evt.bind (rexc_f p t hs) (f := fun k b => if x = true then some (!b) else some false) (Evt.now fun k => ?_)).step fun k => ?_
    · cases x <;> cases (p.f10.any fun u => eqT t u) <;> rfl
    · simp only [gatehouseref08_may.l0]
      rw [if_neg (by omega)]
  | succ d ih =>
    intro i x hi hd
    have hlt : i < R.length := by omega
    have e := rin_f R[i].f3 t.f2 (by have := hA _ (List.getElem_mem hlt); omega)
    have hn := named_or R[i] t.f2
    rw [List.drop_eq_getElem_cons hlt]
    have hj : Evt (fun k => gatehouseref08_may.j1 k R x (i : Int) (namesB R[i] t.f2) p.f0 p.f1 p.f2 p.f3 p.f4 p.f5 p.f6 p.f7 p.f8 p.f9 p.f10 t.f0 t.f1 t.f2) (mayV (R[i] :: R.drop (i + 1)) x (p.f10.any fun u => eqT t u) t.f2) := by
      cases hq : namesB R[i] t.f2 with
      | true =>
        cases hd2 : R[i].f0 with
        | true =>
          refine Evt.now fun k => ?_
          simp only [gatehouseref08_may.j1]
          rw [if_pos trivial, if_pos (by omega), if_pos (by omega), rdRule hlt, hd2, if_pos rfl]
          unfold mayV
          rw [List.any_cons, hq, hd2]
          rfl
        | false =>
          refine (ih (i + 1) true (by omega) (by omega)).step2 ?_ fun k => ?_
          · unfold mayV
            rw [List.any_cons, List.any_cons, hq, hd2]
            simp
          · simp only [gatehouseref08_may.j1]
            rw [if_pos trivial, if_pos (by omega), if_pos (by omega), rdRule hlt, hd2, if_neg (by simp), w1 (by omega)]
      | false =>
        refine (ih (i + 1) x (by omega) (by omega)).step2 ?_ fun k => ?_
        · unfold mayV
          rw [List.any_cons, List.any_cons, hq]
          simp
        · simp only [gatehouseref08_may.j1]
          rw [if_neg (by simp), w1 (by omega)]
    refine (Evt.bind e (f := fun k b => if b = true then gatehouseref08_may.j1 k R x (i : Int) true p.f0 p.f1 p.f2 p.f3 p.f4 p.f5 p.f6 p.f7 p.f8 p.f9 p.f10 t.f0 t.f1 t.f2 else gatehouseref08_may.j1 k R x (i : Int) ((R[i].f3.length : Int) == 0) p.f0 p.f1 p.f2 p.f3 p.f4 p.f5 p.f6 p.f7 p.f8 p.f9 p.f10 t.f0 t.f1 t.f2) ?_).step fun k => ?_
    · refine hj.same fun k => ?_
      rw [← hn]
      cases memB R[i].f3 t.f2 with
      | true => rw [if_pos rfl, Bool.true_or]
      | false => rw [if_neg (by simp), Bool.false_or]
    · simp only [gatehouseref08_may.l0]
      rw [if_pos (by omega), if_pos (by omega), rdRule hlt]
theorem rmay_f (p : Pol) (R : List Rule) (t : Tri) (hs : Sz p) (hR : R.length ≤ 1048576) (hA : ∀ r ∈ R, r.f3.length ≤ 1048576) : Evt (fun k => gatehouseref08_may.f k p.f0 p.f1 p.f2 p.f3 p.f4 p.f5 p.f6 p.f7 p.f8 p.f9 p.f10 R t.f0 t.f1 t.f2) (allowB R p.f10 t) := by
  have h := rmay_l0 p R t hs hR hA R.length 0 false (Nat.zero_le _) (by omega)
  rw [List.drop_zero, mayV_allow] at h
  exact h
end Go.Proofs.Ytnkdcekddhmjnaa.M
