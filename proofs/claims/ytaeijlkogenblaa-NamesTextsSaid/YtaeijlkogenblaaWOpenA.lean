/- How an array in an argument reads: its elements, by kind. No condition. -/
import Derived.Test.YtaeijlkogenblaaWOpen
import Derived.Test.YtaeijlkogenblaaWArr
import Derived.OpenShut
namespace Go.Proofs.YtaeijlkogenblaaW.Open
open Go.RowKit Go.Proofs.YtaeijlkogenblaaW.PrintWords Go.Proofs.Ytaeijlkogenblaa
open Go.Proofs.Ytaeijlkogenblaa.Rows (uptoBulk uptoBulkAll)

theorem opens_array {P : Program} {T E : TypeId} {n : Nat} {α : Type} {d : Kd α} (hs : 0 < d.sz) {g : α → Prop} {b : α → Nat} (ht : P.underlying T = some (.array n E)) (hc : P.cellsOf E = d.sz) (hc2 : P.cellsOf T = n * d.sz) (hd : Opens P E d g b) :
    Opens P T (Kd.arr n d hs) (fun xs => xs.length = n ∧ ∀ x ∈ xs, g x) (fun xs => (xs.map b).sum + 1) := ⟨fun {H enc w sp held fuel cs x} h hw => by
  obtain ⟨elems, m, rfl, rfl, hl, hel, hge⟩ := DataW.trod_array ht h
  have hW : ∀ (i : Nat) (y : DataW H × List MemPlace), elems[i]? = some y → ∀ k ∈ y.1.weights P E, k ≤ reachBytes := fun i y hy k hk => hw k (by
    simp only [DataW.weights, ht]
    exact weightsAll_get _ i y.1 (by simp [hy]) k hk)
  have key2 : ∀ i, i < n → ∃ z : α, d.K w z ((cs.drop (i * d.sz)).take d.sz) ∧ g z ∧ ∃ y, elems[i]? = some y ∧ b z ≤ uptoBulk y.1 := by
    intro i hi
    have h1 := hge i hi
    rw [List.getElem?_eq_getElem (show i < elems.length by omega), hc] at h1
    have hy := List.getElem?_eq_getElem (show i < elems.length by omega)
    obtain ⟨z, hz1, hz2, hz3⟩ := hd.out h1 (hW i _ hy)
    exact ⟨z, hz1, hz2, _, hy, hz3⟩
  have fst : ∃ zs : List α, zs.length = n ∧ ∀ i z, zs[i]? = some z → d.K w z ((cs.drop (i * d.sz)).take d.sz) ∧ g z ∧ ∃ y, elems[i]? = some y ∧ b z ≤ uptoBulk y.1 := by
    have aux : ∀ k, k ≤ n → ∃ zs : List α, zs.length = k ∧ ∀ i z, zs[i]? = some z → d.K w z ((cs.drop (i * d.sz)).take d.sz) ∧ g z ∧ ∃ y, elems[i]? = some y ∧ b z ≤ uptoBulk y.1 := by
      intro k
      induction k with
      | zero => exact fun _ => ⟨[], rfl, fun i z hz => by simp at hz⟩
      | succ k ih =>
        intro hk
        obtain ⟨zs, hz, hzs⟩ := ih (by omega)
        obtain ⟨z, hkz⟩ := key2 k (by omega)
        refine ⟨zs ++ [z], by simp [hz], fun i y hy => ?_⟩
        rcases Nat.lt_or_ge i zs.length with hi | hi
        · rw [List.getElem?_append_left hi] at hy
          exact hzs i y hy
        · rw [List.getElem?_append_right hi] at hy
          obtain rfl : i = k := by
            have : i - zs.length < 1 := by
              have := (List.getElem?_eq_some_iff.1 hy).1
              simpa using this
            omega
          rw [hz, Nat.sub_self] at hy
          simp at hy
          subst hy
          exact hkz
    exact aux n (Nat.le_refl _)
  obtain ⟨zs, hzl, hzs⟩ := fst
  refine ⟨zs, ⟨hzl, by rw [hl, hc2, hzl], fun j p hj => (hzs j p hj).1⟩, ⟨hzl, ?_⟩, ?_⟩
  · intro x hx
    obtain ⟨i, hi⟩ := List.mem_iff_getElem?.1 hx
    exact (hzs i x hi).2.1
  · have h1 := bulkAll_get (elems.map (·.1)) (fun i => ((zs[i]?).map b).getD 0) n (by simpa using hel) (fun i dd hi => by
      cases hz : zs[i]? with
      | none => simp
      | some z =>
        obtain ⟨_, _, y, hy, hb2⟩ := hzs i z hz
        simp [hy] at hi
        subst hi
        simpa using hb2)
    have h2 : (zs.map b) = (List.range n).map (fun i => ((zs[i]?).map b).getD 0) := by
      apply List.ext_getElem
      · simp [hzl]
      · intro i h3 h4
        simp at h3
        simp [List.getElem?_eq_getElem h3]
    simp only [uptoBulk]
    rw [h2]
    omega⟩
end Go.Proofs.YtaeijlkogenblaaW.Open
