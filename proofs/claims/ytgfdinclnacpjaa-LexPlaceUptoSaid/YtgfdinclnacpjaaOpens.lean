/- How the arguments of these laws read: by kind, sized. No condition. -/
import Derived.Test.YtgfdinclnacpjaaF0
import Derived.Test.YtgfdinclnacpjaaWOpen
namespace Go.Proofs.Ytgfdinclnacpjaa.F
open Go.RowKit Go.Proofs.YtgfdinclnacpjaaW.PrintWords Go.Proofs.YtgfdinclnacpjaaW.Open
set_option linter.unusedVariables false

theorem opens9 : Opens Try.prog 9 Kd.string (fun x => x.size ≤ 140737488351232) (fun x => (x.size + 1)) := opens_string Try.underlying9
theorem opens3 : Opens Try.prog 3 (Kd.int .i64) (fun x => (Lit.int .i64 x).wf = true) (fun x => 1) := opens_int Try.underlying3
end Go.Proofs.Ytgfdinclnacpjaa.F
