/- How the arguments of these laws read: by kind, sized. No condition. -/
import Derived.Test.YtcoodlncjnekoaaF0
import Derived.Test.YtcoodlncjnekoaaWOpen
namespace Go.Proofs.Ytcoodlncjnekoaa.F
open Go.RowKit Go.Proofs.YtcoodlncjnekoaaW.PrintWords Go.Proofs.YtcoodlncjnekoaaW.Open
set_option linter.unusedVariables false

theorem opens3 : Opens Try.prog 3 (Kd.int .i64) (fun x => (Lit.int .i64 x).wf = true) (fun x => 1) := opens_int Try.underlying3
theorem opens9 : Opens Try.prog 9 Kd.string (fun x => x.size ≤ 140737488351232) (fun x => (x.size + 1)) := opens_string Try.underlying9
def g23 (x : S23) : Prop := (Lit.int .i64 x.f0).wf = true ∧ (x.f1.size ≤ 140737488351232)
def b23 (x : S23) : Nat := (1 + ((x.f1.size + 1))) + 1
theorem opens23 : Opens Try.prog 23 k23 g23 b23 := opens_struct (fun x : S23 => (x.f0, x.f1)) (fun a => ⟨a.1, a.2⟩) (fun _ => rfl) Try.underlying23 (by kernel_rfl) (opensF_cons rfl (by kernel_rfl) opens3 (opensF_one rfl (by kernel_rfl) opens9))
theorem opens28 : Opens Try.prog 28 (Kd.slice 23 k23) (fun x => (x.length * 24 ≤ 140737488351232 ∧ x.length ≤ 9223372036854775807 ∧ ∀ x_ ∈ x, g23 x_)) (fun x => ((x.map (fun x_ => b23 x_)).sum + 1)) := opens_slice 24 Try.underlying28 (by kernel_rfl) (by kernel_rfl) opens23
end Go.Proofs.Ytcoodlncjnekoaa.F
