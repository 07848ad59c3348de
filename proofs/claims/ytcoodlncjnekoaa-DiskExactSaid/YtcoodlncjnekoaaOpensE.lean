/- How the arguments of these laws read: by kind, sized. No condition. -/
import Derived.Test.YtcoodlncjnekoaaG0
import Derived.Test.YtcoodlncjnekoaaWOpen
namespace Go.Proofs.Ytcoodlncjnekoaa.G
open Go.RowKit Go.Proofs.YtcoodlncjnekoaaW.PrintWords Go.Proofs.YtcoodlncjnekoaaW.Open
set_option linter.unusedVariables false

theorem opens3 : Opens Try.prog 3 (Kd.int .i64) (fun x => (Lit.int .i64 x).wf = true) (fun x => 1) := opens_int Try.underlying3
theorem opens4 : Opens Try.prog 4 Kd.bool (fun x => True) (fun x => 1) := opens_bool Try.underlying4
theorem opens9 : Opens Try.prog 9 Kd.string (fun x => x.size ≤ 140737488351232) (fun x => (x.size + 1)) := opens_string Try.underlying9
def g46 (x : S46) : Prop := (Lit.int .i64 x.f0).wf = true ∧ (True ∧ (x.f2.size ≤ 140737488351232))
def b46 (x : S46) : Nat := (1 + (1 + ((x.f2.size + 1)))) + 1
theorem opens46 : Opens Try.prog 46 k46 g46 b46 := opens_struct (fun x : S46 => (x.f0, x.f1, x.f2)) (fun a => ⟨a.1, a.2.1, a.2.2⟩) (fun _ => rfl) Try.underlying46 (by kernel_rfl) (opensF_cons rfl (by kernel_rfl) opens3 (opensF_cons rfl (by kernel_rfl) opens4 (opensF_one rfl (by kernel_rfl) opens9)))
theorem opens35 : Opens Try.prog 35 (Kd.slice 46 k46) (fun x => (x.length * 32 ≤ 140737488351232 ∧ x.length ≤ 9223372036854775807 ∧ ∀ x_ ∈ x, g46 x_)) (fun x => ((x.map (fun x_ => b46 x_)).sum + 1)) := opens_slice 32 Try.underlying35 (by kernel_rfl) (by kernel_rfl) opens46
def g50 (x : S50) : Prop := (Lit.int .i64 x.f0).wf = true ∧ ((Lit.int .i64 x.f1).wf = true ∧ (x.f2.size ≤ 140737488351232 ∧ ((Lit.int .i64 x.f3).wf = true)))
def b50 (x : S50) : Nat := (1 + (1 + ((x.f2.size + 1) + (1)))) + 1
theorem opens50 : Opens Try.prog 50 k50 g50 b50 := opens_struct (fun x : S50 => (x.f0, x.f1, x.f2, x.f3)) (fun a => ⟨a.1, a.2.1, a.2.2.1, a.2.2.2⟩) (fun _ => rfl) Try.underlying50 (by kernel_rfl) (opensF_cons rfl (by kernel_rfl) opens3 (opensF_cons rfl (by kernel_rfl) opens3 (opensF_cons rfl (by kernel_rfl) opens9 (opensF_one rfl (by kernel_rfl) opens3))))
theorem opens36 : Opens Try.prog 36 (Kd.slice 50 k50) (fun x => (x.length * 40 ≤ 140737488351232 ∧ x.length ≤ 9223372036854775807 ∧ ∀ x_ ∈ x, g50 x_)) (fun x => ((x.map (fun x_ => b50 x_)).sum + 1)) := opens_slice 40 Try.underlying36 (by kernel_rfl) (by kernel_rfl) opens50
end Go.Proofs.Ytcoodlncjnekoaa.G
