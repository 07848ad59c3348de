/- Are a triple's names a policy's (there)? Conditions: no list, and no rule's list of actions, is longer than 1048576. -/
import Derived.Test.YtnkdcekddhmjnaaPQ
import Derived.Test.YtnkdcekddhmjnaaF18
namespace Go.Proofs.Ytnkdcekddhmjnaa.M
open Go.RowKit Go.Proofs.YtnkdcekddhmjnaaW.PrintWords Go.Proofs.Ytnkdcekddhmjnaa.F
set_option linter.unusedVariables false
theorem there_l2 (p : Pol) (t : Tri) (hs : Sz p) (x5 x6 : Bool) (d : Nat) : ∀ (i : Nat) (x7 : Bool), i ≤ p.f0.length → p.f0.length - i = d →
    Evt (fun k => gatehouselaw08_there.l2 k x5 x6 x7 (i : Int) p.f0 p.f1 p.f2 p.f3 p.f4 p.f5 p.f6 p.f7 p.f8 p.f9 p.f10 t.f0 t.f1 t.f2) (x5 && x6 && (x7 || memB (p.f0.drop i) t.f2)) := by
  have h0 := hs.l0
  induction d with
  | zero =>
    intro i x7 h1 hd
    rw [List.drop_of_length_le (by omega)]
    refine Evt.now fun k => ?_
    simp only [gatehouselaw08_there.l2]
    rw [if_neg (by omega)]
    cases x5 <;> cases x6 <;> cases x7 <;> rfl
  | succ d ih =>
    intro i x7 h1 hd
    have hlt : i < p.f0.length := by omega
    have hdr : p.f0.drop i = p.f0[i] :: p.f0.drop (i + 1) := List.drop_eq_getElem_cons hlt
    rw [hdr]
    cases x7 with
    | true =>
      have h := ih (i + 1) true (by omega) (by omega)
      refine (h.step (g := fun k => gatehouselaw08_there.l2 k x5 x6 true (i : Int) p.f0 p.f1 p.f2 p.f3 p.f4 p.f5 p.f6 p.f7 p.f8 p.f9 p.f10 t.f0 t.f1 t.f2) fun k => ?_)
      simp only [gatehouselaw08_there.l2]
      rw [if_pos (by omega), if_pos trivial, w1 (by omega)]
    | false =>
      have h := ih (i + 1) (p.f0[i].toList == t.f2.toList) (by omega) (by omega)
      have e : (p.f0[i].toList == t.f2.toList || memB (p.f0.drop (i + 1)) t.f2) = (false || memB (p.f0[i] :: p.f0.drop (i + 1)) t.f2) := by
        rw [tb]
        rfl
      rw [e] at h
      refine (h.step (g := fun k => gatehouselaw08_there.l2 k x5 x6 false (i : Int) p.f0 p.f1 p.f2 p.f3 p.f4 p.f5 p.f6 p.f7 p.f8 p.f9 p.f10 t.f0 t.f1 t.f2) fun k => ?_)
      simp only [gatehouselaw08_there.l2]
      rw [if_pos (by omega), if_neg (by simp), if_pos (by omega), rdStr hlt, w1 (by omega)]
theorem there_l1 (p : Pol) (t : Tri) (hs : Sz p) (x5 x7 : Bool) (d : Nat) : ∀ (i : Nat) (x6 : Bool), i ≤ p.f3.length → p.f3.length - i = d →
    Evt (fun k => gatehouselaw08_there.l1 k x5 x6 x7 (i : Int) p.f0 p.f1 p.f2 p.f3 p.f4 p.f5 p.f6 p.f7 p.f8 p.f9 p.f10 t.f0 t.f1 t.f2) (x5 && (x6 || memB (p.f3.drop i) t.f1) && (x7 || memB p.f0 t.f2)) := by
  have h0 := hs.l3
  induction d with
  | zero =>
    intro i x6 h1 hd
    rw [List.drop_of_length_le (by omega)]
    have h := there_l2 p t hs x5 x6 p.f0.length 0 x7 (Nat.zero_le _) (by omega)
    rw [List.drop_zero] at h
    have e : (x6 || memB [] t.f1) = x6 := by cases x6 <;> rfl
    rw [e]
    refine h.step fun k => ?_
    simp only [gatehouselaw08_there.l1]
    rw [if_neg (by omega)]
    rfl
  | succ d ih =>
    intro i x6 h1 hd
    have hlt : i < p.f3.length := by omega
    have hdr : p.f3.drop i = p.f3[i] :: p.f3.drop (i + 1) := List.drop_eq_getElem_cons hlt
    rw [hdr]
    cases x6 with
    | true =>
      have h := ih (i + 1) true (by omega) (by omega)
      refine (h.step (g := fun k => gatehouselaw08_there.l1 k x5 true x7 (i : Int) p.f0 p.f1 p.f2 p.f3 p.f4 p.f5 p.f6 p.f7 p.f8 p.f9 p.f10 t.f0 t.f1 t.f2) fun k => ?_)
      simp only [gatehouselaw08_there.l1]
      rw [if_pos (by omega), if_pos trivial, w1 (by omega)]
    | false =>
      have h := ih (i + 1) (p.f3[i].toList == t.f1.toList) (by omega) (by omega)
      have e : (p.f3[i].toList == t.f1.toList || memB (p.f3.drop (i + 1)) t.f1) = (false || memB (p.f3[i] :: p.f3.drop (i + 1)) t.f1) := by
        rw [tb]
        rfl
      rw [e] at h
      refine (h.step (g := fun k => gatehouselaw08_there.l1 k x5 false x7 (i : Int) p.f0 p.f1 p.f2 p.f3 p.f4 p.f5 p.f6 p.f7 p.f8 p.f9 p.f10 t.f0 t.f1 t.f2) fun k => ?_)
      simp only [gatehouselaw08_there.l1]
      rw [if_pos (by omega), if_neg (by simp), if_pos (by omega), rdStr hlt, w1 (by omega)]
theorem there_l0 (p : Pol) (t : Tri) (hs : Sz p) (x6 x7 : Bool) (d : Nat) : ∀ (i : Nat) (x5 : Bool), i ≤ p.f1.length → p.f1.length - i = d →
    Evt (fun k => gatehouselaw08_there.l0 k x5 x6 x7 (i : Int) p.f0 p.f1 p.f2 p.f3 p.f4 p.f5 p.f6 p.f7 p.f8 p.f9 p.f10 t.f0 t.f1 t.f2) ((x5 || memB ((p.f1.drop i).map (·.f0)) t.f0) && (x6 || memB p.f3 t.f1) && (x7 || memB p.f0 t.f2)) := by
  have h0 := hs.l1
  induction d with
  | zero =>
    intro i x5 h1 hd
    rw [List.drop_of_length_le (by omega)]
    have h := there_l1 p t hs x5 x7 p.f3.length 0 x6 (Nat.zero_le _) (by omega)
    rw [List.drop_zero] at h
    have e : (x5 || memB (([] : List Sub).map (·.f0)) t.f0) = x5 := by cases x5 <;> rfl
    rw [e]
    refine h.step fun k => ?_
    simp only [gatehouselaw08_there.l0]
    rw [if_neg (by omega)]
    rfl
  | succ d ih =>
    intro i x5 h1 hd
    have hlt : i < p.f1.length := by omega
    have hdr : p.f1.drop i = p.f1[i] :: p.f1.drop (i + 1) := List.drop_eq_getElem_cons hlt
    rw [hdr, List.map_cons]
    cases x5 with
    | true =>
      have h := ih (i + 1) true (by omega) (by omega)
      refine (h.step (g := fun k => gatehouselaw08_there.l0 k true x6 x7 (i : Int) p.f0 p.f1 p.f2 p.f3 p.f4 p.f5 p.f6 p.f7 p.f8 p.f9 p.f10 t.f0 t.f1 t.f2) fun k => ?_)
      simp only [gatehouselaw08_there.l0]
      rw [if_pos (by omega), if_pos trivial, w1 (by omega)]
    | false =>
      have h := ih (i + 1) (p.f1[i].f0.toList == t.f0.toList) (by omega) (by omega)
      have e : (p.f1[i].f0.toList == t.f0.toList || memB ((p.f1.drop (i + 1)).map (·.f0)) t.f0) = (false || memB (p.f1[i].f0 :: (p.f1.drop (i + 1)).map (·.f0)) t.f0) := by
        rw [tb]
        rfl
      rw [e] at h
      refine (h.step (g := fun k => gatehouselaw08_there.l0 k false x6 x7 (i : Int) p.f0 p.f1 p.f2 p.f3 p.f4 p.f5 p.f6 p.f7 p.f8 p.f9 p.f10 t.f0 t.f1 t.f2) fun k => ?_)
      simp only [gatehouselaw08_there.l0]
      rw [if_pos (by omega), if_neg (by simp), if_pos (by omega), rdSub hlt, w1 (by omega)]
theorem there_f (p : Pol) (t : Tri) (hs : Sz p) : Evt (fun k => gatehouselaw08_there.f k p.f0 p.f1 p.f2 p.f3 p.f4 p.f5 p.f6 p.f7 p.f8 p.f9 p.f10 t.f0 t.f1 t.f2) (thereB p t) := by
  have h := there_l0 p t hs false false p.f1.length 0 false (Nat.zero_le _) (by omega)
  rw [List.drop_zero] at h
  exact h
end Go.Proofs.Ytnkdcekddhmjnaa.M
