import Derived.Test.YtcoodlncjnekoaaH0
import Derived.Test.YtcoodlncjnekoaaWOpen
/- How the arguments of these laws read: by kind, sized. No condition. -/
namespace Go.Proofs.Ytcoodlncjnekoaa.H
open Go.RowKit Go.Proofs.YtcoodlncjnekoaaW.PrintWords Go.Proofs.YtcoodlncjnekoaaW.Open
set_option linter.unusedVariables false

theorem opens9 : Opens Try.prog 9 Kd.string (fun x => x.size ≤ 140737488351232) (fun x => (x.size + 1)) := opens_string Try.underlying9
theorem opens3 : Opens Try.prog 3 (Kd.int .i64) (fun x => (Lit.int .i64 x).wf = true) (fun x => 1) := opens_int Try.underlying3
def g66 (x : S66) : Prop := x.f0.size ≤ 140737488351232 ∧ ((Lit.int .i64 x.f1).wf = true)
def b66 (x : S66) : Nat := ((x.f0.size + 1) + (1)) + 1
theorem opens66 : Opens Try.prog 66 k66 g66 b66 := opens_struct (fun x : S66 => (x.f0, x.f1)) (fun a => ⟨a.1, a.2⟩) (fun _ => rfl) Try.underlying66 (by kernel_rfl) (opensF_cons rfl (by kernel_rfl) opens9 (opensF_one rfl (by kernel_rfl) opens3))
def g23 (x : S23) : Prop := (Lit.int .i64 x.f0).wf = true ∧ (x.f1.size ≤ 140737488351232)
def b23 (x : S23) : Nat := (1 + ((x.f1.size + 1))) + 1
theorem opens23 : Opens Try.prog 23 k23 g23 b23 := opens_struct (fun x : S23 => (x.f0, x.f1)) (fun a => ⟨a.1, a.2⟩) (fun _ => rfl) Try.underlying23 (by kernel_rfl) (opensF_cons rfl (by kernel_rfl) opens3 (opensF_one rfl (by kernel_rfl) opens9))
def g76 (x : S76) : Prop := (Lit.int .i64 x.f0).wf = true ∧ (g23 x.f1)
def b76 (x : S76) : Nat := (1 + (b23 x.f1)) + 1
theorem opens76 : Opens Try.prog 76 k76 g76 b76 := opens_struct (fun x : S76 => (x.f0, x.f1)) (fun a => ⟨a.1, a.2⟩) (fun _ => rfl) Try.underlying76 (by kernel_rfl) (opensF_cons rfl (by kernel_rfl) opens3 (opensF_one rfl (by kernel_rfl) opens23))
theorem opens67 : Opens Try.prog 67 (Kd.slice 76 k76) (fun x => (x.length * 32 ≤ 140737488351232 ∧ x.length ≤ 9223372036854775807 ∧ ∀ x_ ∈ x, g76 x_)) (fun x => ((x.map (fun x_ => b76 x_)).sum + 1)) := opens_slice 32 Try.underlying67 (by kernel_rfl) (by kernel_rfl) opens76
end Go.Proofs.Ytcoodlncjnekoaa.H
