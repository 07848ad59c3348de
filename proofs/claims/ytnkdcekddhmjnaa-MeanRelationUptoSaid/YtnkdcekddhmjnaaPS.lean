import Derived.Test.YtnkdcekddhmjnaaPF
import Derived.Test.YtnkdcekddhmjnaaF4
/- A list with a mark behind it is what it was (asLong, asPairs, equals), plainly. Conditions: no list is longer than 1048576. -/
namespace Go.Proofs.Ytnkdcekddhmjnaa.M
open Go.RowKit Go.Proofs.YtnkdcekddhmjnaaW.PrintWords Go.Proofs.Ytnkdcekddhmjnaa.F
set_option linter.unusedVariables false
abbrev mark : ByteArray := ⟨#[35]⟩
theorem rdIn {l : List ByteArray} {m : List ByteArray} {i : Nat} (h : i < l.length) : rdOf ByteArray.empty (l ++ m) (i : Int) = l[i] := by
  rw [rdStr (by rw [List.length_append]; omega), List.getElem_append_left h]
theorem asLong_l0 (l : List ByteArray) (hl : l.length ≤ 4194304) (d : Nat) : ∀ i : Nat, i ≤ l.length → l.length - i = d → Evt (fun k => gatehouselaw08_asLong.l0 k (l ++ [mark]) l (i : Int)) true := by
  induction d with
  | zero =>
    intro i h1 hd
    refine Evt.now fun k => ?_
    simp only [gatehouselaw08_asLong.l0]
    rw [if_neg (by omega)]
  | succ d ih =>
    intro i h1 hd
    have hlt : i < l.length := by omega
    refine (ih (i + 1) (by omega) (by omega)).step fun k => ?_
    simp only [gatehouselaw08_asLong.l0]
    rw [if_pos (by omega), if_pos (by omega), if_pos (by rw [List.length_append]; omega), rdIn hlt, rdStr hlt, if_pos rfl, w1 (by omega)]
theorem asLong_f (l : List ByteArray) (hl : l.length ≤ 4194304) : Evt (fun k => gatehouselaw08_asLong.f k (l ++ [mark]) l) true := by
  have h := asLong_l0 l hl l.length 0 (Nat.zero_le _) (by omega)
  have hj : Evt (fun k => gatehouselaw08_asLong.j0 k (l ++ [mark]) l false) true := by
    refine h.step fun k => ?_
    simp only [gatehouselaw08_asLong.j0]
    rw [if_neg (by simp)]
    rfl
  refine hj.same fun k => ?_
  unfold gatehouselaw08_asLong.f
  have e : (rdOf ByteArray.empty (l ++ [mark]) (l.length : Int)).toList = ([35] : List UInt8) := by
    rw [rdStr (by rw [List.length_append, List.length_singleton]; omega), List.getElem_append_right (Nat.le_refl _)]
    simp only [Nat.sub_self, List.getElem_cons_zero]
    kernel_rfl
  rw [if_pos (by rw [w1 (by omega), List.length_append]; rfl), if_pos (by omega), if_pos (by rw [List.length_append, List.length_singleton]; omega), e]
  rfl
theorem asPairs_l0 (l : List Pair) (q : Pair) (hl : l.length ≤ 4194304) (d : Nat) : ∀ i : Nat, i ≤ l.length → l.length - i = d → Evt (fun k => gatehouselaw08_asPairs.l0 k (l ++ [q]) l (i : Int)) true := by
  have rd1 : ∀ {l : List Pair} {i : Nat} (h : i < l.length), rd_T86 l (i : Int) = l[i] := fun h => by simp [rd_T86, List.getD_eq_getElem?_getD, h]
  induction d with
  | zero =>
    intro i h1 hd
    refine Evt.now fun k => ?_
    simp only [gatehouselaw08_asPairs.l0]
    rw [if_neg (by omega)]
  | succ d ih =>
    intro i h1 hd
    have hlt : i < l.length := by omega
    refine (ih (i + 1) (by omega) (by omega)).step fun k => ?_
    simp only [gatehouselaw08_asPairs.l0]
    rw [if_pos (by omega), if_pos (by omega), if_pos (by rw [List.length_append]; omega), rd1 (l := l ++ [q]) (by rw [List.length_append]; omega), List.getElem_append_left hlt, rd1 hlt, if_neg (by simp), w1 (by omega)]
theorem asPairs_f (l : List Pair) (hl : l.length ≤ 4194304) : Evt (fun k => gatehouselaw08_asPairs.f k (l ++ [⟨mark, ⟨#[]⟩⟩]) l) true := by
  have rd1 : ∀ {l : List Pair} {i : Nat} (h : i < l.length), rd_T86 l (i : Int) = l[i] := fun h => by simp [rd_T86, List.getD_eq_getElem?_getD, h]
  have h := asPairs_l0 l ⟨mark, ⟨#[]⟩⟩ hl l.length 0 (Nat.zero_le _) (by omega)
  have hj : Evt (fun k => gatehouselaw08_asPairs.j0 k (l ++ [⟨mark, ⟨#[]⟩⟩]) l false) true := by
    refine h.step fun k => ?_
    simp only [gatehouselaw08_asPairs.j0]
    rw [if_neg (by simp)]
    rfl
  refine hj.same fun k => ?_
  unfold gatehouselaw08_asPairs.f
  have e : rd_T86 (l ++ [(⟨mark, ⟨#[]⟩⟩ : Pair)]) (l.length : Int) = ⟨mark, ⟨#[]⟩⟩ := by
    rw [rd1 (l := l ++ [(⟨mark, ⟨#[]⟩⟩ : Pair)]) (by rw [List.length_append, List.length_singleton]; omega), List.getElem_append_right (Nat.le_refl _)]
    simp only [Nat.sub_self, List.getElem_cons_zero]
  rw [if_pos (by rw [w1 (by omega), List.length_append]; rfl), if_pos (by omega), if_pos (by rw [List.length_append, List.length_singleton]; omega), e]
  have e1 : mark.toList = ([35] : List UInt8) := by kernel_rfl
  have e2 : (⟨#[]⟩ : ByteArray).toList = ([] : List UInt8) := by kernel_rfl
  show gatehouselaw08_asPairs.j0 k _ l (!(mark.toList == ([35] : List UInt8)) || (!((⟨#[]⟩ : ByteArray).toList == ([] : List UInt8)))) = _
  rw [e1, e2]
  rfl
theorem longer_f (l : List ByteArray) (hl : l.length ≤ 1048576) : gatehouselaw08_longer.f l = some (l ++ [mark]) := by
  unfold gatehouselaw08_longer.f
  rw [if_pos (by simp; omega)]
  show (if ([] ++ l).length < _ then _ else _) = _
  rw [if_pos (by simp; omega)]
  rfl
theorem pairs_f (l : List Pair) (hl : l.length ≤ 1048576) : gatehouselaw08_pairs.f l = some (l ++ [⟨mark, ⟨#[]⟩⟩]) := by
  unfold gatehouselaw08_pairs.f
  rw [if_pos (by simp; omega)]
  show (if ([] ++ l).length < _ then _ else _) = _
  rw [if_pos (by simp; omega)]
  rfl
end Go.Proofs.Ytnkdcekddhmjnaa.M
