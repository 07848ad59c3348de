import Derived.Test.YtcoodlncjnekoaaFr
import Derived.Test.YtcoodlncjnekoaaF6
/- The journal: Frame's law, and that the sums are those in use (alive). Conditions: none. -/
namespace Go.Proofs.Ytcoodlncjnekoaa.F
open Go.RowKit Go.Proofs.YtcoodlncjnekoaaW.PrintWords Go.Proofs.YtcoodlncjnekoaaW.PrintLast Go.Proofs.YtcoodlncjnekoaaW.PrintMore Go.Proofs.JournalPlain
set_option linter.unusedVariables false
theorem le_mono {α : Type} {f : Nat → Option α} (h : ∀ k, LeO (f k) (f (k + 1))) {r : α} {k0 : Nat} (h0 : f k0 = some r) : ∀ k, k0 ≤ k → f k = some r := by
  intro k hk
  obtain ⟨j, rfl⟩ := Nat.exists_eq_add_of_le hk
  induction j with
  | zero => exact h0
  | succ j ih => exact h _ _ (ih (by omega))
theorem alive0 : gatehouselaw22_alive.f 300 = some true := by decide +kernel
theorem alive_f (k : Nat) (hk : 300 ≤ k) : gatehouselaw22_alive.f k = some true := le_mono (f := gatehouselaw22_alive.f) gatehouselaw22_alive.mono alive0 k hk
theorem JournalNames.walk  (w : World)  :
    Calls Try.prog 8 #[] w fun e w' => e = .returned (.bool true) ∧ Below w.heap.size w w' := by
  refine (gatehouselaw22_JournalNames.calls 300 true w ?_).mono ?_
  · unfold gatehouselaw22_JournalNames.f
    rw [alive_f 300 (Nat.le_refl _)]
    rfl
  · rintro e w' ⟨rfl, h⟩
    exact ⟨rfl, h⟩
theorem agg_of {c0 : Array Value} {w : World} {x0 : S23} (hk0 : Kd.K k23 w x0 c0.toList) : c0 = #[.int .i64 x0.f0, .string x0.f1] := by
  have h := k23_open hk0
  apply Array.ext'
  rw [h]
theorem JournalFrame.walk (x0 : S23) (c0 : Array Value) (w : World) (hk0 : Kd.K k23 w x0 c0.toList) (hg0 : (Lit.int .i64 x0.f0).wf = true ∧ x0.f1.size ≤ 140737488351232) :
    Calls Try.prog 3 #[.agg c0] w fun e w' => e = .returned (.bool true) ∧ Below w.heap.size w w' := by
  obtain rfl := agg_of hk0
  obtain ⟨k, hk⟩ := JournalFrame_pure x0.f0 x0.f1
  refine (gatehouselaw22_JournalFrame.calls k _ _ true w hk).mono ?_
  rintro e w' ⟨rfl, h⟩
  exact ⟨rfl, h⟩
end Go.Proofs.Ytcoodlncjnekoaa.F
