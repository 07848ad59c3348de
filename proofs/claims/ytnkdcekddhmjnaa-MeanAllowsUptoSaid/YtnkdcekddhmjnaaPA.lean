/- What a policy's relation is: the product of the names, each once, of which what is allowed. Conditions: none.
What the statements' own functions compute (has, equal, all, vast, large), for enough rounds. Conditions: each theorem's own. -/
import Derived.Test.YtnkdcekddhmjnaaSC
import Derived.Test.YtnkdcekddhmjnaaF0
import Derived.Test.YtnkdcekddhmjnaaF1
import Derived.Test.YtnkdcekddhmjnaaF7
import Derived.Test.YtnkdcekddhmjnaaF12
import Derived.Test.YtnkdcekddhmjnaaAx
namespace Go.Proofs.Ytnkdcekddhmjnaa.M
open Go.RowKit Go.Proofs.YtnkdcekddhmjnaaW.Raw Go.Proofs.YtnkdcekddhmjnaaW.PrintWords Go.Proofs.Ytnkdcekddhmjnaa.F
set_option linter.unusedVariables false
open Classical in
noncomputable def ad {α : Type} (xs : List α) (x : α) : List α := if x ∈ xs then xs else xs ++ [x]
noncomputable def dd {α : Type} (xs : List α) : List α := xs.foldl ad []
end Go.Proofs.Ytnkdcekddhmjnaa.M
namespace Go.Proofs.Ytnkdcekddhmjnaa.M
open Go.RowKit Go.Proofs.YtnkdcekddhmjnaaW.Raw Go.Proofs.YtnkdcekddhmjnaaW.PrintWords Go.Proofs.Ytnkdcekddhmjnaa.F
set_option linter.unusedVariables false
/-- From some rounds on. -/
def Evt {α : Type} (g : Nat → Option α) (r : α) : Prop := ∃ k0, ∀ k, k0 ≤ k → g k = some r
theorem Evt.now {α : Type} {g : Nat → Option α} {r : α} (h : ∀ k, g (k + 1) = some r) : Evt g r := ⟨1, fun k hk => by obtain ⟨j, rfl⟩ : ∃ j, k = j + 1 := ⟨k - 1, by omega⟩; exact h j⟩
theorem Evt.step {α : Type} {g h : Nat → Option α} {r : α} (hh : Evt h r) (e : ∀ k, g (k + 1) = h k) : Evt g r := by
  obtain ⟨k0, hk⟩ := hh
  refine ⟨k0 + 1, fun k hl => ?_⟩
  obtain ⟨j, rfl⟩ : ∃ j, k = j + 1 := ⟨k - 1, by omega⟩
  rw [e]; exact hk j (by omega)
theorem Evt.same {α : Type} {g h : Nat → Option α} {r : α} (hh : Evt h r) (e : ∀ k, g k = h k) : Evt g r := by
  obtain ⟨k0, hk⟩ := hh
  exact ⟨k0, fun k hl => by rw [e]; exact hk k hl⟩
theorem Evt.bind {α β : Type} {g : Nat → Option α} {a : α} {f : Nat → α → Option β} {r : β} (h1 : Evt g a) (h2 : Evt (fun k => f k a) r) : Evt (fun k => (g k).bind fun x => f k x) r := by
  obtain ⟨k1, h1⟩ := h1
  obtain ⟨k2, h2⟩ := h2
  refine ⟨max k1 k2, fun k hk => ?_⟩
  show (g k).bind _ = _
  rw [h1 k (by omega)]
  exact h2 k (by omega)
theorem tb (a b : ByteArray) : (a.toList == b.toList) = (b == a) := by
  rw [Bool.eq_iff_iff, beq_iff_eq, toList_iff, bb]
  exact eq_comm
theorem rdTri {l : List Tri} {i : Nat} (h : i < l.length) : rd_T36 l (i : Int) = l[i] := by simp [rd_T36, List.getD_eq_getElem?_getD, h]
theorem rdSub {l : List Sub} {i : Nat} (h : i < l.length) : rd_T57 l (i : Int) = l[i] := by simp [rd_T57, List.getD_eq_getElem?_getD, h]
theorem rdStr {l : List ByteArray} {i : Nat} (h : i < l.length) : rdOf ByteArray.empty l (i : Int) = l[i] := by simp [rdOf, h]
theorem w1 {i : Nat} (h : i < 4611686018427387904) : wrap64 ((i : Int) + 1) = ((i + 1 : Nat) : Int) := by unfold wrap64; omega
end Go.Proofs.Ytnkdcekddhmjnaa.M
