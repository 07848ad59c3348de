/- NamesPairs: the walk in the row's form. Conditions: the script reads as it must. -/
import Derived.Test.YtaeijlkogenblaaNy
import Derived.Test.YtaeijlkogenblaaOpensA
namespace Go.Proofs.Ytaeijlkogenblaa.Nf
open Go.RowKit Go.Proofs.YtaeijlkogenblaaW.PrintWords
set_option linter.unusedVariables false
theorem NamesPairs.walk (x0 : (List S50)) (v0 : Value) (w : World) (hk0 : Kd.K (Kd.slice 50 k50) w x0 [v0]) (hg0 : (x0.length * 64 ≤ 140737488351232 ∧ x0.length ≤ 9223372036854775807 ∧ ∀ x_ ∈ x0, g50 x_)) :
    Calls Try.prog 7 #[v0] w fun e w' => e = .returned (.bool true) ∧ Below w.heap.size w w' := by
  obtain ⟨A, c, e, hl, hC⟩ := hk0
  injection e with e _
  subst e
  exact Np.pairs_walk x0 A c w hl hC
end Go.Proofs.Ytaeijlkogenblaa.Nf
