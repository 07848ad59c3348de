/- MeanReach, plainly: a rule speaks of a triple just if ways lead to its names. Conditions: no list is longer than 1048576. -/
import Derived.Test.YtnkdcekddhmjnaaPR
import Derived.Test.YtnkdcekddhmjnaaPx
import Derived.Test.YtnkdcekddhmjnaaF18
namespace Go.Proofs.Ytnkdcekddhmjnaa.M
open Go.RowKit Go.Proofs.YtnkdcekddhmjnaaW.PrintWords Go.Proofs.Ytnkdcekddhmjnaa.F
set_option linter.unusedVariables false
def reachEnd (p : Pol) (r : Rule) (t : Tri) (who what : List ByteArray) (tr : Nat) (a x : Bool) : Option Bool :=
  if x = true then (if (who.length : Int) > 0 then (if (what.length : Int) > 0 then (if a = true then ((mean_Passes.f r.f0 r.f1 r.f2 r.f3 r.f4 r.f5 tr).bind fun b => (if true = true then ((mean_Matches.f p.f0 p.f1 p.f2 p.f3 p.f4 p.f5 p.f6 p.f7 p.f8 p.f9 p.f10 r.f0 r.f1 r.f2 r.f3 r.f4 r.f5 t.f0 t.f1 t.f2).bind fun c => (some (c == b))) else (some false))) else (if true = true then ((mean_Matches.f p.f0 p.f1 p.f2 p.f3 p.f4 p.f5 p.f6 p.f7 p.f8 p.f9 p.f10 r.f0 r.f1 r.f2 r.f3 r.f4 r.f5 t.f0 t.f1 t.f2).bind fun c => (some (c == false))) else (some false))) else (if true = true then ((mean_Matches.f p.f0 p.f1 p.f2 p.f3 p.f4 p.f5 p.f6 p.f7 p.f8 p.f9 p.f10 r.f0 r.f1 r.f2 r.f3 r.f4 r.f5 t.f0 t.f1 t.f2).bind fun c => (some (c == false))) else (some false))) else (if true = true then ((mean_Matches.f p.f0 p.f1 p.f2 p.f3 p.f4 p.f5 p.f6 p.f7 p.f8 p.f9 p.f10 r.f0 r.f1 r.f2 r.f3 r.f4 r.f5 t.f0 t.f1 t.f2).bind fun c => (some (c == false))) else (some false))) else (if true = true then ((mean_Matches.f p.f0 p.f1 p.f2 p.f3 p.f4 p.f5 p.f6 p.f7 p.f8 p.f9 p.f10 r.f0 r.f1 r.f2 r.f3 r.f4 r.f5 t.f0 t.f1 t.f2).bind fun c => (some (c == false))) else (some false))
theorem reachEnd_true {p : Pol} {r : Rule} {t : Tri} {who what : List ByteArray} {tr : Nat} {a x : Bool} (hk : okB p = true) (hm : matchB p r t = (x && decide (0 < who.length) && decide (0 < what.length) && a && passB r.f4 r.f5 tr)) : reachEnd p r t who what tr a x = some true := by
  have h1 := matches_f hk r t
  have h2 := passes_f r tr
  rw [hm] at h1
  unfold reachEnd
  by_cases hw : 0 < who.length
  · by_cases ho : 0 < what.length
    · rw [decide_eq_true hw, decide_eq_true ho] at h1
      rw [if_pos (show (who.length : Int) > 0 by omega), if_pos (show (what.length : Int) > 0 by omega), h1, h2]
      cases x <;> cases a <;> simp
    · rw [decide_eq_true hw, decide_eq_false ho] at h1
      rw [if_pos (show (who.length : Int) > 0 by omega), if_neg (show ¬(what.length : Int) > 0 by omega), h1]
      cases x <;> simp
  · rw [decide_eq_false hw] at h1
    rw [if_neg (show ¬(who.length : Int) > 0 by omega), h1]
    cases x <;> simp
theorem reach_l1 (p : Pol) (r : Rule) (t : Tri) (hs : Sz p) (h3 : r.f3.length ≤ 1048576) (who what : List ByteArray) (tr : Nat) (d : Nat) : ∀ (i : Nat) (a : Bool), i ≤ r.f3.length → r.f3.length - i = d →
    matchB p r t = (thereB p t && decide (0 < who.length) && decide (0 < what.length) && (a || memB (r.f3.drop i) t.f2) && passB r.f4 r.f5 tr) →
    Evt (fun k => gatehouselaw08_MeanReach.l1 k true who what tr a (i : Int) p.f0 p.f1 p.f2 p.f3 p.f4 p.f5 p.f6 p.f7 p.f8 p.f9 p.f10 r.f0 r.f1 r.f2 r.f3 r.f4 r.f5 t.f0 t.f1 t.f2) true := by
  induction d with
  | zero =>
    intro i a h1 hd hm
    rw [List.drop_of_length_le (by omega)] at hm
    have hm' : matchB p r t = (thereB p t && decide (0 < who.length) && decide (0 < what.length) && a && passB r.f4 r.f5 tr) := by rw [hm]; cases a <;> rfl
    have hh := reachEnd_true hs.ok hm'
    refine (Evt.bind (there_f p t hs) (f := fun _ x => reachEnd p r t who what tr a x) (Evt.now fun _ => hh)).step fun k => ?_
    simp only [gatehouselaw08_MeanReach.l1]
    rw [if_neg (by omega)]
    rfl
  | succ d ih =>
    intro i a h1 hd hm
    have hlt : i < r.f3.length := by omega
    have hdr : r.f3.drop i = r.f3[i] :: r.f3.drop (i + 1) := List.drop_eq_getElem_cons hlt
    rw [hdr] at hm
    cases a with
    | true =>
      have h := ih (i + 1) true (by omega) (by omega) (by rw [hm, Bool.true_or, Bool.true_or])
      refine (h.step (g := fun k => gatehouselaw08_MeanReach.l1 k true who what tr true (i : Int) p.f0 p.f1 p.f2 p.f3 p.f4 p.f5 p.f6 p.f7 p.f8 p.f9 p.f10 r.f0 r.f1 r.f2 r.f3 r.f4 r.f5 t.f0 t.f1 t.f2) fun k => ?_)
      simp only [gatehouselaw08_MeanReach.l1]
      rw [if_pos (by omega), if_pos trivial, w1 (by omega)]
    | false =>
      have h := ih (i + 1) (r.f3[i].toList == t.f2.toList) (by omega) (by omega) (by
        rw [hm, tb]
        rfl)
      refine (h.step (g := fun k => gatehouselaw08_MeanReach.l1 k true who what tr false (i : Int) p.f0 p.f1 p.f2 p.f3 p.f4 p.f5 p.f6 p.f7 p.f8 p.f9 p.f10 r.f0 r.f1 r.f2 r.f3 r.f4 r.f5 t.f0 t.f1 t.f2) fun k => ?_)
      simp only [gatehouselaw08_MeanReach.l1]
      rw [if_pos (by omega), if_neg (by simp), if_pos (by omega), rdStr hlt, w1 (by omega)]
theorem trust_snoc (l : List Sub) (s : Sub) (n : ByteArray) (x : Nat) : (trustOf (l ++ [s]) n).getD x = (trustOf l n).getD (if n == s.f0 then s.f1 else x) := by
  unfold trustOf
  rw [List.find?_append]
  cases l.find? fun s => n == s.f0 with
  | some y => rfl
  | none =>
    cases hq : n == s.f0 <;> simp [hq]
theorem reach_l0 (p : Pol) (r : Rule) (t : Tri) (hs : Sz p) (who what : List ByteArray) : ∀ (j : Nat) (tr : Nat), j ≤ p.f1.length →
    Evt (fun k => gatehouselaw08_MeanReach.l1 k true who what ((trustOf (p.f1.take j) t.f0).getD tr) ((r.f3.length : Int) == 0) 0 p.f0 p.f1 p.f2 p.f3 p.f4 p.f5 p.f6 p.f7 p.f8 p.f9 p.f10 r.f0 r.f1 r.f2 r.f3 r.f4 r.f5 t.f0 t.f1 t.f2) true →
    Evt (fun k => gatehouselaw08_MeanReach.l0 k true who what tr ((j : Int) - 1) p.f0 p.f1 p.f2 p.f3 p.f4 p.f5 p.f6 p.f7 p.f8 p.f9 p.f10 r.f0 r.f1 r.f2 r.f3 r.f4 r.f5 t.f0 t.f1 t.f2) true := by
  intro j
  have h1 := hs.l1
  induction j with
  | zero =>
    intro tr _ h
    refine h.step fun k => ?_
    simp only [gatehouselaw08_MeanReach.l0]
    rw [if_neg (by omega)]
    rfl
  | succ j ih =>
    intro tr hj h
    have hlt : j < p.f1.length := by omega
    have e0 : (((j + 1 : Nat) : Int) - 1) = (j : Int) := by omega
    have e1 : wrap64 ((j : Int) - 1) = (j : Int) - 1 := by unfold wrap64; omega
    rw [List.take_succ_eq_append_getElem hlt, trust_snoc] at h
    have h' := ih (if t.f0 == p.f1[j].f0 then p.f1[j].f1 else tr) (by omega) h
    refine h'.step fun k => ?_
    show gatehouselaw08_MeanReach.l0 (k + 1) true who what tr (((j + 1 : Nat) : Int) - 1) p.f0 p.f1 p.f2 p.f3 p.f4 p.f5 p.f6 p.f7 p.f8 p.f9 p.f10 r.f0 r.f1 r.f2 r.f3 r.f4 r.f5 t.f0 t.f1 t.f2 = _
    rw [e0]
    simp only [gatehouselaw08_MeanReach.l0]
    rw [if_pos (by omega), if_pos (by omega), if_pos (by omega), rdSub hlt, e1]
    by_cases hq : p.f1[j].f0 = t.f0
    · rw [if_pos (by rw [hq]), if_pos (by rw [hq]; exact (bb _ _).2 rfl)]
    · rw [if_neg (fun e => hq ((toList_iff _ _).1 e)), if_neg (fun e => hq ((bb _ _).1 e).symm)]
theorem reach_match (p : Pol) (r : Rule) (t : Tri) : matchB p r t = (thereB p t && decide (0 < (pathL (p.f5 ++ p.f6) t.f0 r.f1).length) && decide (0 < (pathL (p.f7 ++ p.f8) t.f1 r.f2).length) && (((r.f3.length : Int) == 0) || memB r.f3 t.f2) && passB r.f4 r.f5 ((trustOf p.f1 t.f0).getD 0)) := by
  have e1 : decide (0 < (pathL (p.f5 ++ p.f6) t.f0 r.f1).length) = memB (upS p t.f0) r.f1 := by
    rw [Bool.eq_iff_iff, decide_eq_true_iff, memB_iff]
    exact path_iff _ _ _
  have e2 : decide (0 < (pathL (p.f7 ++ p.f8) t.f1 r.f2).length) = memB (upO p t.f1) r.f2 := by
    rw [Bool.eq_iff_iff, decide_eq_true_iff, memB_iff]
    exact path_iff _ _ _
  have e3 : ((r.f3.length : Int) == 0) = r.f3.isEmpty := by
    cases r.f3 with
    | nil => rfl
    | cons a l => simp; omega
  rw [e1, e2, e3]
  unfold matchB thereB
  cases ht : trustOf p.f1 t.f0 with
  | none =>
    have hn : memB (namesOf p) t.f0 = false := by
      cases hq : memB (namesOf p) t.f0 with
      | false => rfl
      | true =>
        rw [memB_iff] at hq
        obtain ⟨s, hs, he⟩ := List.mem_map.1 hq
        unfold trustOf at ht
        rw [Option.map_eq_none_iff, List.find?_eq_none] at ht
        exact absurd ((bb _ _).2 he.symm) (ht s hs)
    rw [hn]
    rfl
  | some tr =>
    have hn : memB (namesOf p) t.f0 = true := by
      unfold trustOf at ht
      obtain ⟨s, hs, _⟩ := Option.map_eq_some_iff.1 ht
      rw [memB_iff]
      exact List.mem_map.2 ⟨s, List.mem_of_find?_eq_some hs, ((bb _ _).1 (List.find?_some (p := fun (s : Sub) => t.f0 == s.f0) hs)).symm⟩
    rw [hn]
    show (memB p.f3 t.f1 && memB p.f0 t.f2 && namesB r t.f2 && speakB r tr (upS p t.f0) (upO p t.f1)) = (_ && passB r.f4 r.f5 tr)
    unfold speakB namesB
    generalize memB p.f3 t.f1 = x1
    generalize memB p.f0 t.f2 = x2
    generalize memB (upS p t.f0) r.f1 = x3
    generalize memB (upO p t.f1) r.f2 = x4
    generalize (r.f3.isEmpty || memB r.f3 t.f2) = x5
    generalize passB r.f4 r.f5 tr = x6
    cases x1 <;> cases x2 <;> cases x3 <;> cases x4 <;> cases x5 <;> cases x6 <;> rfl
theorem joined_f (a b : List Pair) (ha : a.length ≤ 1048576) (hb : b.length ≤ 1048576) : gatehouselaw08_joined.f a b = some (a ++ b) := by
  unfold gatehouselaw08_joined.f
  rw [if_pos (by simp; omega)]
  show (if ([] ++ a).length + b.length < _ then _ else _) = _
  rw [if_pos (by simp; omega)]
  rfl
theorem pathf (l : List Pair) (a b : ByteArray) (h : l.length ≤ 4194304) : reach_Path.f l a b = some (pathL l a b) := if_pos h
theorem reach_f (p : Pol) (r : Rule) (t : Tri) (hs : Sz p) (h3 : r.f3.length ≤ 1048576) : Evt (fun k => gatehouselaw08_MeanReach.f k p.f0 p.f1 p.f2 p.f3 p.f4 p.f5 p.f6 p.f7 p.f8 p.f9 p.f10 r.f0 r.f1 r.f2 r.f3 r.f4 r.f5 t.f0 t.f1 t.f2) true := by
  have h1 := hs.l1
  have h5 := hs.l5
  have h6 := hs.l6
  have h7 := hs.l7
  have h8 := hs.l8
  have hA := reach_l1 p r t hs h3 (pathL (p.f5 ++ p.f6) t.f0 r.f1) (pathL (p.f7 ++ p.f8) t.f1 r.f2) ((trustOf p.f1 t.f0).getD 0) r.f3.length 0 ((r.f3.length : Int) == 0) (Nat.zero_le _) rfl (by rw [List.drop_zero]; exact reach_match p r t)
  have hB := reach_l0 p r t hs (pathL (p.f5 ++ p.f6) t.f0 r.f1) (pathL (p.f7 ++ p.f8) t.f1 r.f2) p.f1.length 0 (Nat.le_refl _) (by rw [List.take_length]; exact hA)
  refine hB.same fun k => ?_
  show (gatehouselaw08_joined.f p.f5 p.f6).bind _ = _
  rw [joined_f _ _ h5 h6]
  show (reach_Path.f (p.f5 ++ p.f6) t.f0 r.f1).bind _ = _
  rw [pathf _ _ _ (by rw [List.length_append]; omega)]
  show (gatehouselaw08_joined.f p.f7 p.f8).bind _ = _
  rw [joined_f _ _ h7 h8]
  show (reach_Path.f (p.f7 ++ p.f8) t.f1 r.f2).bind _ = _
  rw [pathf _ _ _ (by rw [List.length_append]; omega)]
  show gatehouselaw08_MeanReach.l0 k true _ _ 0 (wrap64 ((p.f1.length : Int) - 1)) p.f0 p.f1 p.f2 p.f3 p.f4 p.f5 p.f6 p.f7 p.f8 p.f9 p.f10 r.f0 r.f1 r.f2 r.f3 r.f4 r.f5 t.f0 t.f1 t.f2 = _
  rw [show wrap64 ((p.f1.length : Int) - 1) = (p.f1.length : Int) - 1 by unfold wrap64; omega]
end Go.Proofs.Ytnkdcekddhmjnaa.M
