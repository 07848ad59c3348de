/- How the arguments of the laws over scripts read. No condition. -/
import Derived.Test.YtaeijlkogenblaaNf
import Derived.Test.YtaeijlkogenblaaWOpenA
namespace Go.Proofs.Ytaeijlkogenblaa.Nf
open Go.RowKit Go.Proofs.YtaeijlkogenblaaW.PrintWords Go.Proofs.YtaeijlkogenblaaW.Open
set_option linter.unusedVariables false
abbrev S50 := Stp
def k50 : Kd S50 := Kd.iso kSt (fun x => (x.1, x.2))
def g50 (x : S50) : Prop := (Lit.int .i64 x.1).wf = true ∧ x.2.1.size ≤ 140737488351232 ∧ True ∧ (x.2.2.2.1.length = 2 ∧ ∀ x_ ∈ x.2.2.2.1, (Lit.int .i64 x_).wf = true) ∧ (Lit.int .i64 x.2.2.2.2.1).wf = true ∧ (Lit.int .i64 x.2.2.2.2.2).wf = true
def b50 (x : S50) : Nat := (1 + ((x.2.1.size + 1) + (1 + (((x.2.2.2.1.map (fun _ => 1)).sum + 1) + (1 + 1))))) + 1
theorem opens3 : Opens Try.prog 3 (Kd.int .i64) (fun x => (Lit.int .i64 x).wf = true) (fun _ => 1) := opens_int Try.underlying3
theorem opens9 : Opens Try.prog 9 Kd.string (fun x => x.size ≤ 140737488351232) (fun x => (x.size + 1)) := opens_string Try.underlying9
theorem opens47 : Opens Try.prog 47 Kd.float (fun _ => True) (fun _ => 1) := opens_float Try.underlying47
theorem opensArr : Opens Try.prog 48 (Kd.arr 2 (Kd.int .i64) (by decide)) (fun xs => xs.length = 2 ∧ ∀ x ∈ xs, (Lit.int .i64 x).wf = true) (fun xs => (xs.map (fun _ => 1)).sum + 1) := opens_array (by decide) Try.underlying48 (by kernel_rfl) (by kernel_rfl) opens3
theorem opens50 : Opens Try.prog 50 k50 g50 b50 := opens_struct (fun x : S50 => (x.1, x.2)) (fun a => a) (fun _ => rfl) Try.underlying50 (by kernel_rfl)
  (opensF_cons rfl (by kernel_rfl) opens3 (opensF_cons rfl (by kernel_rfl) opens9 (opensF_cons rfl (by kernel_rfl) opens47 (opensF_cons rfl (by kernel_rfl) opensArr (opensF_cons rfl (by kernel_rfl) opens3 (opensF_one rfl (by kernel_rfl) opens3))))))
theorem opens38 : Opens Try.prog 38 (Kd.slice 50 k50) (fun x => (x.length * 64 ≤ 140737488351232 ∧ x.length ≤ 9223372036854775807 ∧ ∀ x_ ∈ x, g50 x_)) (fun x => ((x.map (fun x_ => b50 x_)).sum + 1)) := opens_slice 64 Try.underlying38 (by kernel_rfl) (by kernel_rfl) opens50
end Go.Proofs.Ytaeijlkogenblaa.Nf
