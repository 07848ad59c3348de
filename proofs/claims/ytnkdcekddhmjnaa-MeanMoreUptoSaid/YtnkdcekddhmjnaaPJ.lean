/- One rule more (MeanMore), plainly. Conditions: no list, and no rule's list of actions, is longer than 1048576. -/
import Derived.Test.YtnkdcekddhmjnaaPF
import Derived.Test.YtnkdcekddhmjnaaF11
import Derived.Test.YtnkdcekddhmjnaaPQ
import Derived.Test.YtnkdcekddhmjnaaF15
import Derived.Test.YtnkdcekddhmjnaaF14
namespace Go.Proofs.Ytnkdcekddhmjnaa.M
open Go.RowKit Go.Proofs.YtnkdcekddhmjnaaW.PrintWords Go.Proofs.Ytnkdcekddhmjnaa.F
set_option linter.unusedVariables false
theorem denied_l0 (p : Pol) (t : Tri) (hs : Sz p) (d : Nat) : ∀ i : Nat, i ≤ p.f9.length → p.f9.length - i = d →
    Evt (fun k => gatehouselaw08_denied.l0 k (i : Int) p.f0 p.f1 p.f2 p.f3 p.f4 p.f5 p.f6 p.f7 p.f8 p.f9 p.f10 t.f0 t.f1 t.f2) ((p.f9.drop i).any fun r => matchB p r t && r.f0) := by
  have h9 := hs.l9
  have hk := hs.ok
  induction d with
  | zero =>
    intro i h1 hd
    rw [List.drop_of_length_le (by omega)]
    refine Evt.now fun k => ?_
    simp only [gatehouselaw08_denied.l0]
    rw [if_neg (by omega)]
    rfl
  | succ d ih =>
    intro i h1 hd
    have hlt : i < p.f9.length := by omega
    have hdr : p.f9.drop i = p.f9[i] :: p.f9.drop (i + 1) := List.drop_eq_getElem_cons hlt
    rw [hdr, List.any_cons]
    have h := ih (i + 1) (by omega) (by omega)
    have hm := matches_f hk p.f9[i] t
    cases hq : matchB p p.f9[i] t && p.f9[i].f0 with
    | true =>
      rw [Bool.and_eq_true] at hq
      refine Evt.now fun k => ?_
      simp only [gatehouselaw08_denied.l0]
      rw [if_pos (by omega), if_pos (by omega), rdRule hlt, hm]
      refine (bind_of rfl).trans ?_
      rw [if_pos hq.2, if_pos hq.1]
      rfl
    | false =>
      rw [Bool.false_or]
      refine h.step fun k => ?_
      simp only [gatehouselaw08_denied.l0]
      rw [if_pos (by omega), if_pos (by omega), rdRule hlt, hm, w1 (by omega)]
      refine (bind_of rfl).trans ?_
      by_cases h2 : p.f9[i].f0 = true
      · rw [if_pos h2, if_neg (by rw [h2, Bool.and_true] at hq; rw [hq]; simp)]
      · rw [if_neg h2]
theorem denied_f (p : Pol) (t : Tri) (hs : Sz p) : Evt (fun k => gatehouselaw08_denied.f k p.f0 p.f1 p.f2 p.f3 p.f4 p.f5 p.f6 p.f7 p.f8 p.f9 p.f10 t.f0 t.f1 t.f2) (deniedB p t) := by
  have h := denied_l0 p t hs p.f9.length 0 (Nat.zero_le _) (by omega)
  rw [List.drop_zero] at h
  exact h
theorem more_l0 (p : Pol) (r : Rule) (hs : Sz p) (hR : okR (moreP p r) = true) (old : List Tri) (ho : ∀ t, hasB old t = allowsB p t) (hol : old.length ≤ 1048576) (l : List Tri) (hl : l.length ≤ 1048576) (d : Nat) : ∀ (i : Nat) (x9 : List Tri), i ≤ l.length → l.length - i = d → x9.length ≤ i →
    x9 ++ (l.drop i).filter (allowsB (moreP p r)) = relL (moreP p r) → Evt (fun k => gatehouselaw08_MeanMore.l0 k true old l x9 (i : Int) p.f0 p.f1 p.f2 p.f3 p.f4 p.f5 p.f6 p.f7 p.f8 p.f9 p.f10 r.f0 r.f1 r.f2 r.f3 r.f4 r.f5 p.f0 p.f1 p.f2 p.f3 p.f4 p.f5 p.f6 p.f7 p.f8 (p.f9 ++ [r]) p.f10) true := by
  have hk := hs.ok
  have h10 := hs.l10
  have hRf : mean_Relation.f p.f0 p.f1 p.f2 p.f3 p.f4 p.f5 p.f6 p.f7 p.f8 (p.f9 ++ [r]) p.f10 = some (relL (moreP p r)) := rel_f hR
  induction d with
  | zero =>
    intro i x9 h1 hd hx h
    rw [List.drop_of_length_le (by omega), List.filter_nil, List.append_nil] at h
    have he := equal_f (a := relL (moreP p r)) (b := x9) h.symm (by rw [← h]; omega)
    refine (Evt.bind he (f := fun k x => some x) (Evt.now fun k => rfl)).step fun k => ?_
    simp only [gatehouselaw08_MeanMore.l0]
    rw [if_neg (by omega), if_pos trivial, hRf]
    rfl
  | succ d ih =>
    intro i x9 h1 hd hx h
    have hlt : i < l.length := by omega
    have hdr : l.drop i = l[i] :: l.drop (i + 1) := List.drop_eq_getElem_cons hlt
    rw [hdr, List.filter_cons] at h
    have e1 := has_f old l[i] (by omega)
    have e2 := has_f p.f10 l[i] (by omega)
    have e3 := denied_f p l[i] hs
    have hm := matches_f hk r l[i]
    have key := more_allows p r l[i]
    rw [← ho] at key
    have hx10 : (p.f10.any fun u => eqT l[i] u) = hasB p.f10 l[i] := rfl
    rw [hx10] at key
    have h3 : Evt (fun k => if r.f0 = true then (if hasB old l[i] = true then (if matchB p r l[i] = true then gatehouselaw08_MeanMore.l0 k true old l x9 ((i + 1 : Nat) : Int) p.f0 p.f1 p.f2 p.f3 p.f4 p.f5 p.f6 p.f7 p.f8 p.f9 p.f10 r.f0 r.f1 r.f2 r.f3 r.f4 r.f5 p.f0 p.f1 p.f2 p.f3 p.f4 p.f5 p.f6 p.f7 p.f8 (p.f9 ++ [r]) p.f10 else if x9.length < 2932031007402 then gatehouselaw08_MeanMore.l0 k true old l (x9 ++ [l[i]]) ((i + 1 : Nat) : Int) p.f0 p.f1 p.f2 p.f3 p.f4 p.f5 p.f6 p.f7 p.f8 p.f9 p.f10 r.f0 r.f1 r.f2 r.f3 r.f4 r.f5 p.f0 p.f1 p.f2 p.f3 p.f4 p.f5 p.f6 p.f7 p.f8 (p.f9 ++ [r]) p.f10 else none) else gatehouselaw08_MeanMore.l0 k true old l x9 ((i + 1 : Nat) : Int) p.f0 p.f1 p.f2 p.f3 p.f4 p.f5 p.f6 p.f7 p.f8 p.f9 p.f10 r.f0 r.f1 r.f2 r.f3 r.f4 r.f5 p.f0 p.f1 p.f2 p.f3 p.f4 p.f5 p.f6 p.f7 p.f8 (p.f9 ++ [r]) p.f10) else (if hasB old l[i] = true then (if x9.length < 2932031007402 then gatehouselaw08_MeanMore.l0 k true old l (x9 ++ [l[i]]) ((i + 1 : Nat) : Int) p.f0 p.f1 p.f2 p.f3 p.f4 p.f5 p.f6 p.f7 p.f8 p.f9 p.f10 r.f0 r.f1 r.f2 r.f3 r.f4 r.f5 p.f0 p.f1 p.f2 p.f3 p.f4 p.f5 p.f6 p.f7 p.f8 (p.f9 ++ [r]) p.f10 else none) else if matchB p r l[i] = true then (if hasB p.f10 l[i] = true then gatehouselaw08_MeanMore.l0 k true old l x9 ((i + 1 : Nat) : Int) p.f0 p.f1 p.f2 p.f3 p.f4 p.f5 p.f6 p.f7 p.f8 p.f9 p.f10 r.f0 r.f1 r.f2 r.f3 r.f4 r.f5 p.f0 p.f1 p.f2 p.f3 p.f4 p.f5 p.f6 p.f7 p.f8 (p.f9 ++ [r]) p.f10 else (gatehouselaw08_denied.f k p.f0 p.f1 p.f2 p.f3 p.f4 p.f5 p.f6 p.f7 p.f8 p.f9 p.f10 l[i].f0 l[i].f1 l[i].f2).bind fun z => if z = true then gatehouselaw08_MeanMore.l0 k true old l x9 ((i + 1 : Nat) : Int) p.f0 p.f1 p.f2 p.f3 p.f4 p.f5 p.f6 p.f7 p.f8 p.f9 p.f10 r.f0 r.f1 r.f2 r.f3 r.f4 r.f5 p.f0 p.f1 p.f2 p.f3 p.f4 p.f5 p.f6 p.f7 p.f8 (p.f9 ++ [r]) p.f10 else if x9.length < 2932031007402 then gatehouselaw08_MeanMore.l0 k true old l (x9 ++ [l[i]]) ((i + 1 : Nat) : Int) p.f0 p.f1 p.f2 p.f3 p.f4 p.f5 p.f6 p.f7 p.f8 p.f9 p.f10 r.f0 r.f1 r.f2 r.f3 r.f4 r.f5 p.f0 p.f1 p.f2 p.f3 p.f4 p.f5 p.f6 p.f7 p.f8 (p.f9 ++ [r]) p.f10 else none) else gatehouselaw08_MeanMore.l0 k true old l x9 ((i + 1 : Nat) : Int) p.f0 p.f1 p.f2 p.f3 p.f4 p.f5 p.f6 p.f7 p.f8 p.f9 p.f10 r.f0 r.f1 r.f2 r.f3 r.f4 r.f5 p.f0 p.f1 p.f2 p.f3 p.f4 p.f5 p.f6 p.f7 p.f8 (p.f9 ++ [r]) p.f10)) true := by
      cases hd0 : r.f0 with
      | true =>
        rw [hd0, if_pos rfl] at key
        cases ha : hasB old l[i] with
        | true =>
          cases hmm : matchB p r l[i] with
          | true =>
            rw [key, ha, hmm, if_neg (by simp)] at h
            exact (ih (i + 1) x9 (by omega) (by omega) (by omega) h).same fun k => by rw [if_pos rfl, if_pos rfl, if_pos rfl, hd0]
          | false =>
            rw [key, ha, hmm, if_pos (by simp)] at h
            exact (ih (i + 1) (x9 ++ [l[i]]) (by omega) (by omega) (by simp; omega) (by rw [List.append_assoc]; exact h)).same fun k => by rw [if_pos rfl, if_pos rfl, if_neg (by simp), if_pos (by omega), hd0]
        | false =>
          rw [key, ha, if_neg (by simp)] at h
          exact (ih (i + 1) x9 (by omega) (by omega) (by omega) h).same fun k => by rw [if_pos rfl, if_neg (by simp), hd0]
      | false =>
        rw [hd0, if_neg (by simp)] at key
        cases ha : hasB old l[i] with
        | true =>
          rw [key, ha, if_pos (by simp)] at h
          exact (ih (i + 1) (x9 ++ [l[i]]) (by omega) (by omega) (by simp; omega) (by rw [List.append_assoc]; exact h)).same fun k => by rw [if_neg (by simp), if_pos rfl, if_pos (by omega), hd0]
        | false =>
          cases hmm : matchB p r l[i] with
          | false =>
            rw [key, ha, hmm, if_neg (by simp)] at h
            exact (ih (i + 1) x9 (by omega) (by omega) (by omega) h).same fun k => by rw [if_neg (by simp), if_neg (by simp), if_neg (by simp), hd0]
          | true =>
            cases hoo : hasB p.f10 l[i] with
            | true =>
              rw [key, ha, hmm, hoo, if_neg (by simp)] at h
              exact (ih (i + 1) x9 (by omega) (by omega) (by omega) h).same fun k => by rw [if_neg (by simp), if_neg (by simp), if_pos rfl, if_pos rfl, hd0]
            | false =>
              cases hdd : deniedB p l[i] with
              | true =>
                rw [key, ha, hmm, hoo, hdd, if_neg (by simp)] at h
                rw [hdd] at e3
                have h4 := ih (i + 1) x9 (by omega) (by omega) (by omega) h
                rw [hd0] at h4
                exact (Evt.bind e3 (f := fun k z => if z = true then gatehouselaw08_MeanMore.l0 k true old l x9 ((i + 1 : Nat) : Int) p.f0 p.f1 p.f2 p.f3 p.f4 p.f5 p.f6 p.f7 p.f8 p.f9 p.f10 false r.f1 r.f2 r.f3 r.f4 r.f5 p.f0 p.f1 p.f2 p.f3 p.f4 p.f5 p.f6 p.f7 p.f8 (p.f9 ++ [r]) p.f10 else if x9.length < 2932031007402 then gatehouselaw08_MeanMore.l0 k true old l (x9 ++ [l[i]]) ((i + 1 : Nat) : Int) p.f0 p.f1 p.f2 p.f3 p.f4 p.f5 p.f6 p.f7 p.f8 p.f9 p.f10 false r.f1 r.f2 r.f3 r.f4 r.f5 p.f0 p.f1 p.f2 p.f3 p.f4 p.f5 p.f6 p.f7 p.f8 (p.f9 ++ [r]) p.f10 else none) (h4.same fun k => if_pos rfl)).same fun k => by rw [if_neg (by simp), if_neg (by simp), if_pos rfl, if_neg (by simp)]
              | false =>
                rw [key, ha, hmm, hoo, hdd, if_pos (by simp)] at h
                rw [hdd] at e3
                have h4 := ih (i + 1) (x9 ++ [l[i]]) (by omega) (by omega) (by simp; omega) (by rw [List.append_assoc]; exact h)
                rw [hd0] at h4
                exact (Evt.bind e3 (f := fun k z => if z = true then gatehouselaw08_MeanMore.l0 k true old l x9 ((i + 1 : Nat) : Int) p.f0 p.f1 p.f2 p.f3 p.f4 p.f5 p.f6 p.f7 p.f8 p.f9 p.f10 false r.f1 r.f2 r.f3 r.f4 r.f5 p.f0 p.f1 p.f2 p.f3 p.f4 p.f5 p.f6 p.f7 p.f8 (p.f9 ++ [r]) p.f10 else if x9.length < 2932031007402 then gatehouselaw08_MeanMore.l0 k true old l (x9 ++ [l[i]]) ((i + 1 : Nat) : Int) p.f0 p.f1 p.f2 p.f3 p.f4 p.f5 p.f6 p.f7 p.f8 p.f9 p.f10 false r.f1 r.f2 r.f3 r.f4 r.f5 p.f0 p.f1 p.f2 p.f3 p.f4 p.f5 p.f6 p.f7 p.f8 (p.f9 ++ [r]) p.f10 else none) (h4.same fun k => by rw [if_neg (by simp), if_pos (by omega)])).same fun k => by rw [if_neg (by simp), if_neg (by simp), if_pos rfl, if_neg (by simp)]
    refine (Evt.bind e1 (f := fun k a => (mean_Matches.f p.f0 p.f1 p.f2 p.f3 p.f4 p.f5 p.f6 p.f7 p.f8 p.f9 p.f10 r.f0 r.f1 r.f2 r.f3 r.f4 r.f5 l[i].f0 l[i].f1 l[i].f2).bind fun m => (gatehouselaw08_has.f k p.f10 l[i].f0 l[i].f1 l[i].f2).bind fun o => if r.f0 = true then (if a = true then (if m = true then gatehouselaw08_MeanMore.l0 k true old l x9 ((i + 1 : Nat) : Int) p.f0 p.f1 p.f2 p.f3 p.f4 p.f5 p.f6 p.f7 p.f8 p.f9 p.f10 r.f0 r.f1 r.f2 r.f3 r.f4 r.f5 p.f0 p.f1 p.f2 p.f3 p.f4 p.f5 p.f6 p.f7 p.f8 (p.f9 ++ [r]) p.f10 else if x9.length < 2932031007402 then gatehouselaw08_MeanMore.l0 k true old l (x9 ++ [l[i]]) ((i + 1 : Nat) : Int) p.f0 p.f1 p.f2 p.f3 p.f4 p.f5 p.f6 p.f7 p.f8 p.f9 p.f10 r.f0 r.f1 r.f2 r.f3 r.f4 r.f5 p.f0 p.f1 p.f2 p.f3 p.f4 p.f5 p.f6 p.f7 p.f8 (p.f9 ++ [r]) p.f10 else none) else gatehouselaw08_MeanMore.l0 k true old l x9 ((i + 1 : Nat) : Int) p.f0 p.f1 p.f2 p.f3 p.f4 p.f5 p.f6 p.f7 p.f8 p.f9 p.f10 r.f0 r.f1 r.f2 r.f3 r.f4 r.f5 p.f0 p.f1 p.f2 p.f3 p.f4 p.f5 p.f6 p.f7 p.f8 (p.f9 ++ [r]) p.f10) else (if a = true then (if x9.length < 2932031007402 then gatehouselaw08_MeanMore.l0 k true old l (x9 ++ [l[i]]) ((i + 1 : Nat) : Int) p.f0 p.f1 p.f2 p.f3 p.f4 p.f5 p.f6 p.f7 p.f8 p.f9 p.f10 r.f0 r.f1 r.f2 r.f3 r.f4 r.f5 p.f0 p.f1 p.f2 p.f3 p.f4 p.f5 p.f6 p.f7 p.f8 (p.f9 ++ [r]) p.f10 else none) else if m = true then (if o = true then gatehouselaw08_MeanMore.l0 k true old l x9 ((i + 1 : Nat) : Int) p.f0 p.f1 p.f2 p.f3 p.f4 p.f5 p.f6 p.f7 p.f8 p.f9 p.f10 r.f0 r.f1 r.f2 r.f3 r.f4 r.f5 p.f0 p.f1 p.f2 p.f3 p.f4 p.f5 p.f6 p.f7 p.f8 (p.f9 ++ [r]) p.f10 else (gatehouselaw08_denied.f k p.f0 p.f1 p.f2 p.f3 p.f4 p.f5 p.f6 p.f7 p.f8 p.f9 p.f10 l[i].f0 l[i].f1 l[i].f2).bind fun z => if z = true then gatehouselaw08_MeanMore.l0 k true old l x9 ((i + 1 : Nat) : Int) p.f0 p.f1 p.f2 p.f3 p.f4 p.f5 p.f6 p.f7 p.f8 p.f9 p.f10 r.f0 r.f1 r.f2 r.f3 r.f4 r.f5 p.f0 p.f1 p.f2 p.f3 p.f4 p.f5 p.f6 p.f7 p.f8 (p.f9 ++ [r]) p.f10 else if x9.length < 2932031007402 then gatehouselaw08_MeanMore.l0 k true old l (x9 ++ [l[i]]) ((i + 1 : Nat) : Int) p.f0 p.f1 p.f2 p.f3 p.f4 p.f5 p.f6 p.f7 p.f8 p.f9 p.f10 r.f0 r.f1 r.f2 r.f3 r.f4 r.f5 p.f0 p.f1 p.f2 p.f3 p.f4 p.f5 p.f6 p.f7 p.f8 (p.f9 ++ [r]) p.f10 else none) else gatehouselaw08_MeanMore.l0 k true old l x9 ((i + 1 : Nat) : Int) p.f0 p.f1 p.f2 p.f3 p.f4 p.f5 p.f6 p.f7 p.f8 p.f9 p.f10 r.f0 r.f1 r.f2 r.f3 r.f4 r.f5 p.f0 p.f1 p.f2 p.f3 p.f4 p.f5 p.f6 p.f7 p.f8 (p.f9 ++ [r]) p.f10)) ((Evt.bind e2 (f := fun k o => if r.f0 = true then (if hasB old l[i] = true then (if matchB p r l[i] = true then gatehouselaw08_MeanMore.l0 k true old l x9 ((i + 1 : Nat) : Int) p.f0 p.f1 p.f2 p.f3 p.f4 p.f5 p.f6 p.f7 p.f8 p.f9 p.f10 r.f0 r.f1 r.f2 r.f3 r.f4 r.f5 p.f0 p.f1 p.f2 p.f3 p.f4 p.f5 p.f6 p.f7 p.f8 (p.f9 ++ [r]) p.f10 else if x9.length < 2932031007402 then gatehouselaw08_MeanMore.l0 k true old l (x9 ++ [l[i]]) ((i + 1 : Nat) : Int) p.f0 p.f1 p.f2 p.f3 p.f4 p.f5 p.f6 p.f7 p.f8 p.f9 p.f10 r.f0 r.f1 r.f2 r.f3 r.f4 r.f5 p.f0 p.f1 p.f2 p.f3 p.f4 p.f5 p.f6 p.f7 p.f8 (p.f9 ++ [r]) p.f10 else none) else gatehouselaw08_MeanMore.l0 k true old l x9 ((i + 1 : Nat) : Int) p.f0 p.f1 p.f2 p.f3 p.f4 p.f5 p.f6 p.f7 p.f8 p.f9 p.f10 r.f0 r.f1 r.f2 r.f3 r.f4 r.f5 p.f0 p.f1 p.f2 p.f3 p.f4 p.f5 p.f6 p.f7 p.f8 (p.f9 ++ [r]) p.f10) else (if hasB old l[i] = true then (if x9.length < 2932031007402 then gatehouselaw08_MeanMore.l0 k true old l (x9 ++ [l[i]]) ((i + 1 : Nat) : Int) p.f0 p.f1 p.f2 p.f3 p.f4 p.f5 p.f6 p.f7 p.f8 p.f9 p.f10 r.f0 r.f1 r.f2 r.f3 r.f4 r.f5 p.f0 p.f1 p.f2 p.f3 p.f4 p.f5 p.f6 p.f7 p.f8 (p.f9 ++ [r]) p.f10 else none) else if matchB p r l[i] = true then (if o = true then gatehouselaw08_MeanMore.l0 k true old l x9 ((i + 1 : Nat) : Int) p.f0 p.f1 p.f2 p.f3 p.f4 p.f5 p.f6 p.f7 p.f8 p.f9 p.f10 r.f0 r.f1 r.f2 r.f3 r.f4 r.f5 p.f0 p.f1 p.f2 p.f3 p.f4 p.f5 p.f6 p.f7 p.f8 (p.f9 ++ [r]) p.f10 else (gatehouselaw08_denied.f k p.f0 p.f1 p.f2 p.f3 p.f4 p.f5 p.f6 p.f7 p.f8 p.f9 p.f10 l[i].f0 l[i].f1 l[i].f2).bind fun z => if z = true then gatehouselaw08_MeanMore.l0 k true old l x9 ((i + 1 : Nat) : Int) p.f0 p.f1 p.f2 p.f3 p.f4 p.f5 p.f6 p.f7 p.f8 p.f9 p.f10 r.f0 r.f1 r.f2 r.f3 r.f4 r.f5 p.f0 p.f1 p.f2 p.f3 p.f4 p.f5 p.f6 p.f7 p.f8 (p.f9 ++ [r]) p.f10 else if x9.length < 2932031007402 then gatehouselaw08_MeanMore.l0 k true old l (x9 ++ [l[i]]) ((i + 1 : Nat) : Int) p.f0 p.f1 p.f2 p.f3 p.f4 p.f5 p.f6 p.f7 p.f8 p.f9 p.f10 r.f0 r.f1 r.f2 r.f3 r.f4 r.f5 p.f0 p.f1 p.f2 p.f3 p.f4 p.f5 p.f6 p.f7 p.f8 (p.f9 ++ [r]) p.f10 else none) else gatehouselaw08_MeanMore.l0 k true old l x9 ((i + 1 : Nat) : Int) p.f0 p.f1 p.f2 p.f3 p.f4 p.f5 p.f6 p.f7 p.f8 p.f9 p.f10 r.f0 r.f1 r.f2 r.f3 r.f4 r.f5 p.f0 p.f1 p.f2 p.f3 p.f4 p.f5 p.f6 p.f7 p.f8 (p.f9 ++ [r]) p.f10)) h3).same fun k => bind_of hm)).step fun k => ?_
    simp only [gatehouselaw08_MeanMore.l0]
    rw [if_pos (by omega), if_pos (by omega), rdTri hlt, w1 (by omega)]
theorem more_f (p : Pol) (r : Rule) (hs : Sz p) : Evt (fun k => gatehouselaw08_MeanMore.f k p.f0 p.f1 p.f2 p.f3 p.f4 p.f5 p.f6 p.f7 p.f8 p.f9 p.f10 r.f0 r.f1 r.f2 r.f3 r.f4 r.f5) true := by
  obtain ⟨b, hb, hc⟩ := large_f p hs.l1 hs.l3 hs.l0
  cases b with
  | true =>
    refine Evt.now fun k => ?_
    unfold gatehouselaw08_MeanMore.f
    show (gatehouselaw08_large.f p.f0 p.f1 p.f2 p.f3 p.f4 p.f5 p.f6 p.f7 p.f8 p.f9 p.f10).bind _ = _
    rw [hb]
    rfl
  | false =>
    have hcap := hc rfl
    have hk := hs.ok
    have h9 := hs.l9
    have h1 := hs.l1
    have h3 := hs.l3
    have h0 := hs.l0
    have hR : okR p = true := okR_iff.2 ⟨okB_iff.1 hk, by omega⟩
    have hRm := more_okR r hs hcap
    have hl : (relL p).length ≤ 1048576 := Nat.le_trans (rel_le p) (by omega)
    have ha : (allT p).length ≤ 1048576 := Nat.le_trans (allT_len p) (by omega)
    have hall := all_f p (by omega) (by omega) (by omega) (by omega)
    have h0 := more_l0 p r hs hRm (relL p) (hasB_rel p) hl (allT p) ha _ 0 [] (Nat.zero_le _) rfl (Nat.le_refl _) (by rw [List.drop_zero, List.nil_append, relL_eq (moreP p r)]; rfl)
    refine (Evt.bind (twin_f p hs) (f := fun k x => if x.2.2.2.2.2.2.2.2.2.1.length < 1759218604441 then (mean_Relation.f p.f0 p.f1 p.f2 p.f3 p.f4 p.f5 p.f6 p.f7 p.f8 p.f9 p.f10).bind fun o => (gatehouselaw08_all.f k p.f0 p.f1 p.f2 p.f3 p.f4 p.f5 p.f6 p.f7 p.f8 p.f9 p.f10).bind fun l => gatehouselaw08_MeanMore.l0 k true o l [] 0 p.f0 p.f1 p.f2 p.f3 p.f4 p.f5 p.f6 p.f7 p.f8 p.f9 p.f10 r.f0 r.f1 r.f2 r.f3 r.f4 r.f5 x.1 x.2.1 x.2.2.1 x.2.2.2.1 x.2.2.2.2.1 x.2.2.2.2.2.1 x.2.2.2.2.2.2.1 x.2.2.2.2.2.2.2.1 x.2.2.2.2.2.2.2.2.1 (x.2.2.2.2.2.2.2.2.2.1 ++ [r]) x.2.2.2.2.2.2.2.2.2.2 else none) ?_).same fun k => ?_
    · refine (Evt.bind hall (f := fun k l => gatehouselaw08_MeanMore.l0 k true (relL p) l [] 0 p.f0 p.f1 p.f2 p.f3 p.f4 p.f5 p.f6 p.f7 p.f8 p.f9 p.f10 r.f0 r.f1 r.f2 r.f3 r.f4 r.f5 p.f0 p.f1 p.f2 p.f3 p.f4 p.f5 p.f6 p.f7 p.f8 (p.f9 ++ [r]) p.f10) h0).same fun k => ?_
      rw [if_pos (by show p.f9.length < _; omega)]
      exact bind_of (rel_f hR)
    · unfold gatehouselaw08_MeanMore.f
      show (gatehouselaw08_large.f p.f0 p.f1 p.f2 p.f3 p.f4 p.f5 p.f6 p.f7 p.f8 p.f9 p.f10).bind _ = _
      rw [hb]
      rfl
end Go.Proofs.Ytnkdcekddhmjnaa.M
