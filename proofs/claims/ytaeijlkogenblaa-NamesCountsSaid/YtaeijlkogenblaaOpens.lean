/- How the arguments of these laws read: by kind, sized. No condition. -/
import Derived.Test.YtaeijlkogenblaaF0
import Derived.Test.YtaeijlkogenblaaWOpen
namespace Go.Proofs.Ytaeijlkogenblaa.F
open Go.RowKit Go.Proofs.YtaeijlkogenblaaW.PrintWords Go.Proofs.YtaeijlkogenblaaW.Open
set_option linter.unusedVariables false

theorem opens9 : Opens Try.prog 9 Kd.string (fun x => x.size ≤ 140737488351232) (fun x => (x.size + 1)) := opens_string Try.underlying9
theorem opens22 : Opens Try.prog 22 (Kd.slice 9 Kd.string) (fun x => (x.length * 16 ≤ 140737488351232 ∧ x.length ≤ 9223372036854775807 ∧ ∀ x_ ∈ x, x_.size ≤ 140737488351232)) (fun x => ((x.map (fun x_ => (x_.size + 1))).sum + 1)) := opens_slice 16 Try.underlying22 (by kernel_rfl) (by kernel_rfl) opens9
end Go.Proofs.Ytaeijlkogenblaa.F
