/- NamesTexts: the walk in the row's form. Conditions: the scripts read as they must. -/
import Derived.Test.YtaeijlkogenblaaTh
import Derived.Test.YtaeijlkogenblaaOpensA
namespace Go.Proofs.Ytaeijlkogenblaa.Nf
open Go.RowKit Go.Proofs.YtaeijlkogenblaaW.PrintWords
set_option linter.unusedVariables false
theorem NamesTexts.walk (x0 : (List S50)) (v0 : Value) (x1 : (List S50)) (v1 : Value) (w : World) (hk0 : Kd.K (Kd.slice 50 k50) w x0 [v0]) (hg0 : (x0.length * 64 ≤ 140737488351232 ∧ x0.length ≤ 9223372036854775807 ∧ ∀ x_ ∈ x0, g50 x_)) (hk1 : Kd.K (Kd.slice 50 k50) w x1 [v1]) (hg1 : (x1.length * 64 ≤ 140737488351232 ∧ x1.length ≤ 9223372036854775807 ∧ ∀ x_ ∈ x1, g50 x_)) :
    Calls Try.prog 5 #[v0, v1] w fun e w' => e = .returned (.bool true) ∧ Below w.heap.size w w' := by
  obtain ⟨A, c, e, hl, hC⟩ := hk0
  injection e with e _
  subst e
  obtain ⟨A1, c1, e1, hl1, hC1⟩ := hk1
  injection e1 with e1 _
  subst e1
  exact Nt.texts_walk x0 x1 A A1 c c1 w hC hC1 hg0.1 hg1.1 (fun x hx => (hg0.2.2 x hx).2.2.2.2.1) (fun x hx => (hg1.2.2 x hx).2.2.2.2.1)
end Go.Proofs.Ytaeijlkogenblaa.Nf
