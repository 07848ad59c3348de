import Derived.Test.YteefneemmdfncaaDoorWq
import Derived.Test.YteefneemmdfncaaDoorF5
/- why.way: do names lead along pairs? Conditions: each theorem's own. -/
namespace Go.Proofs.YteefneemmdfncaaDoor.M
open Go.RowKit Go.Proofs.YteefneemmdfncaaDoorW.Raw Go.Proofs.YteefneemmdfncaaDoorW.PrintWords Go.Proofs.YteefneemmdfncaaDoor.F
set_option linter.unusedVariables false
theorem rdPair {l : List Pair} {i : Nat} (h : i < l.length) : rd_T97 l (i : Int) = l[i] := by simp [rd_T97, List.getD_eq_getElem?_getD, h]
theorem pairIx_ev (l : List Pair) (a b : ByteArray) (hl : l.length ≤ 4611686018427387903) (d : Nat) : ∀ i : Nat, i ≤ l.length → l.length - i = d → ∃ r : Int, Evt (fun k => api_Pair_101.l0 k l (l.length : Int) (i : Int) a b) r ∧ decide (r ≥ 0) = (l.drop i).any fun p => p.f0 == a && p.f1 == b := by
  induction d with
  | zero =>
    intro i h1 hd
    refine ⟨-1, Evt.now fun k => ?_, ?_⟩
    · simp only [api_Pair_101.l0]
      rw [if_neg (by omega)]
    · rw [List.drop_of_length_le (by omega)]
      rfl
  | succ d ih =>
    intro i h1 hd
    have hlt : i < l.length := by omega
    have hdr : l.drop i = l[i] :: l.drop (i + 1) := List.drop_eq_getElem_cons hlt
    have hc : ∀ k, api_Pair_101.l0 (k + 1) l (l.length : Int) (i : Int) a b = if (l[i].f0 == a && l[i].f1 == b) = true then some (i : Int) else api_Pair_101.l0 k l (l.length : Int) ((i + 1 : Nat) : Int) a b := fun k => by
      simp only [api_Pair_101.l0]
      rw [if_pos (by omega), if_pos (by omega), if_pos (by omega), rdPair hlt, w1 (by omega), tb, tb]
    cases hq : (l[i].f0 == a && l[i].f1 == b) with
    | true =>
      refine ⟨(i : Int), Evt.now fun k => ?_, ?_⟩
      · rw [hc, hq, if_pos rfl]
      · rw [hdr, List.any_cons, hq, Bool.true_or]
        exact decide_eq_true (by omega)
    | false =>
      obtain ⟨r, h3, h4⟩ := ih (i + 1) (by omega) (by omega)
      refine ⟨r, h3.step fun k => ?_, ?_⟩
      · rw [hc, hq, if_neg (by decide)]
      · rw [h4, hdr, List.any_cons, hq, Bool.false_or]
theorem contP_ev (l : List Pair) (a b : ByteArray) (hl : l.length ≤ 4611686018427387903) : Evt (fun k => api_Pair_81.f k l a b) (l.any fun p => p.f0 == a && p.f1 == b) := by
  obtain ⟨r, ⟨k0, h1⟩, h2⟩ := pairIx_ev l a b hl l.length 0 (Nat.zero_le _) (by omega)
  refine ⟨k0, fun k hk => ?_⟩
  have h3 : api_Pair_101.l0 k l (l.length : Int) ((0 : Nat) : Int) a b = some r := h1 k hk
  rw [List.drop_zero] at h2
  show ((api_Pair_101.l0 k l (l.length : Int) ((0 : Nat) : Int) a b).bind fun t => some (decide (t ≥ 0))) = _
  rw [h3, ← h2]
  rfl
theorem way_l0 (ps : List Pair) (l : List ByteArray) (hp : ps.length ≤ 4611686018427387903) (hl : l.length ≤ 4611686018427387903) (d : Nat) : ∀ i : Nat, i + 1 ≤ l.length → l.length - (i + 1) = d → Evt (fun k => why_way.l0 k ps l ((i + 1 : Nat) : Int)) (chainB ps (l.drop i)) := by
  induction d with
  | zero =>
    intro i h1 hd
    have hdr : l.drop i = [l[i]] := by rw [List.drop_eq_getElem_cons (by omega), List.drop_of_length_le (by omega)]
    rw [hdr]
    refine Evt.now fun k => ?_
    simp only [why_way.l0]
    rw [if_neg (by omega)]
    rfl
  | succ d ih =>
    intro i h1 hd
    have hlt : i + 1 < l.length := by omega
    have hdr : l.drop i = l[i] :: l[i + 1] :: l.drop (i + 2) := by rw [List.drop_eq_getElem_cons (by omega), List.drop_eq_getElem_cons hlt]
    have hdr2 : l.drop (i + 1) = l[i + 1] :: l.drop (i + 2) := List.drop_eq_getElem_cons hlt
    have hch : chainB ps (l.drop i) = ((ps.any fun p => p.f0 == l[i] && p.f1 == l[i + 1]) && chainB ps (l.drop (i + 1))) := by rw [hdr, hdr2]; rfl
    have hc := contP_ev ps l[i] l[i + 1] hp
    have h2 := ih (i + 1) (by omega) (by omega)
    have hw : wrap64 (((i + 1 : Nat) : Int) - 1) = (i : Int) := by unfold wrap64; omega
    rw [hch]
    refine Evt.step (Evt.bind (f := fun k t => if t = true then why_way.l0 k ps l ((i + 1 + 1 : Nat) : Int) else some false) hc ?_) fun k => ?_
    · cases hq : (ps.any fun p => p.f0 == l[i] && p.f1 == l[i + 1]) with
      | true =>
        refine h2.same fun k => ?_
        rw [if_pos rfl]
      | false => exact ⟨0, fun k _ => by show (if false = true then why_way.l0 k ps l ((i + 1 + 1 : Nat) : Int) else some false) = _; rw [if_neg (by decide)]; rfl⟩
    · simp only [why_way.l0]
      rw [if_pos (by omega), hw, if_pos (by omega), if_pos (by omega), if_pos (by omega), rdStr (by omega), rdStr hlt, w1 (by omega)]
theorem way_f (ps : List Pair) (l : List ByteArray) (a b : ByteArray) (hp : ps.length ≤ 4611686018427387903) (hl : l.length ≤ 4611686018427387903) : Evt (fun k => why_way.f k ps l a b) (wayB ps l a b) := by
  have htrue : Evt (fun k => why_way.j0 k ps l true) false := Evt.now fun k => by simp only [why_way.j0]; rw [if_pos trivial]
  cases hl0 : l with
  | nil =>
    subst hl0
    refine htrue.same fun k => ?_
    unfold why_way.f
    rw [if_pos (by simp)]
  | cons n r =>
    rw [← hl0]
    have hpos : 0 < l.length := by rw [hl0]; simp
    have hhd : l.head? = some l[0] := by subst hl0; rfl
    have hlst : l.getLast? = some (l[l.length - 1]) := by rw [List.getLast?_eq_getElem?, List.getElem?_eq_getElem (by omega)]
    have hwb : wayB ps l a b = (l[0] == a && (l[l.length - 1] == b && chainB ps l)) := by unfold wayB; rw [hhd, hlst]
    have hw : wrap64 ((l.length : Int) - 1) = ((l.length - 1 : Nat) : Int) := by unfold wrap64; omega
    have h0 : rdOf ByteArray.empty l 0 = l[0] := rdStr (i := 0) hpos
    have hf : ∀ k, why_way.f k ps l a b = if l[0].toList = a.toList then why_way.j0 k ps l (l[l.length - 1].toList != b.toList) else why_way.j0 k ps l true := fun k => by
      unfold why_way.f
      rw [if_neg (by omega), if_pos (by omega), h0, hw]
      by_cases e : l[0].toList = a.toList
      · rw [if_pos e, if_pos e, if_pos (by omega), if_pos (by omega), rdStr (by omega)]
      · rw [if_neg e, if_neg e]
    rw [hwb]
    cases ha : (l[0] == a) with
    | false =>
      refine htrue.same fun k => ?_
      rw [hf, if_neg (fun e => by rw [(bb _ _).2 ((toList_iff _ _).1 e)] at ha; cases ha)]
    | true =>
      have ha' := (toList_iff _ _).2 ((bb _ _).1 ha)
      have hne : (l[l.length - 1].toList != b.toList) = !(l[l.length - 1] == b) := by unfold bne; rw [tb']
      rw [Bool.true_and]
      cases hb : (l[l.length - 1] == b) with
      | false =>
        refine htrue.same fun k => ?_
        rw [hf, if_pos ha', hne, hb]
        rfl
      | true =>
        rw [Bool.true_and]
        refine ((way_l0 ps l hp hl (l.length - 1) 0 (by omega) rfl).step (g := fun k => why_way.j0 k ps l false) fun k => ?_).same fun k => ?_
        · simp only [why_way.j0]
          rw [if_neg (by decide)]
          rfl
        · rw [hf, if_pos ha', hne, hb]
          rfl
theorem way_k (ps : List Pair) (l : List ByteArray) (a b : ByteArray) (A0 A1 : Option Addr) (c0 c1 : Nat) (w : World) (hp : ps.length ≤ 4611686018427387903) (hl : l.length ≤ 4611686018427387903) (h0 : ps.length ≤ c0) (g0 : Kd.C k97 w A0 ps.length ps) (h1 : l.length ≤ c1) (g1 : Kd.C Kd.string w A1 l.length l) :
    Calls Tryd.prog 53 #[.slice A0 ps.length c0, .slice A1 l.length c1, .string a, .string b] w fun e w' => e = .returned (.bool (wayB ps l a b)) ∧ Below w.heap.size w w' := by
  obtain ⟨k, hk⟩ := way_f ps l a b hp hl
  exact why_way.calls k A0 c0 ps A1 c1 l a b _ w g0 h0 g1 h1 (hk k (Nat.le_refl _))
end Go.Proofs.YteefneemmdfncaaDoor.M
