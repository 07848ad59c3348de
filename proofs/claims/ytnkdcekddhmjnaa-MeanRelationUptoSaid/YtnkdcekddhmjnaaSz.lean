import Derived.Test.YtnkdcekddhmjnaaPF
import Derived.Test.YtnkdcekddhmjnaaOpens
/- Sizes of a policy's lists out of its bulk. Conditions: each theorem's own. -/
namespace Go.Proofs.Ytnkdcekddhmjnaa.F
open Go.RowKit Go.Proofs.YtnkdcekddhmjnaaW.PrintWords
set_option linter.unusedVariables false
theorem sum_ge {α : Type} (f : α → Nat) (h : ∀ x, 1 ≤ f x) : ∀ l : List α, l.length ≤ (l.map f).sum := by
  intro l
  induction l with
  | nil => exact Nat.le_refl _
  | cons x l ih =>
    rw [List.map_cons, List.sum_cons, List.length_cons]
    have := h x
    omega
theorem sum_mem {α : Type} (f : α → Nat) {x : α} : ∀ {l : List α}, x ∈ l → f x ≤ (l.map f).sum := by
  intro l
  induction l with
  | nil => intro h; cases h
  | cons y l ih =>
    intro h
    rw [List.map_cons, List.sum_cons]
    rcases List.mem_cons.1 h with rfl | h
    · omega
    · have := ih h; omega
theorem acts_le (r : S27) : r.f3.length ≤ b27 r := by
  have s := sum_ge (fun x_ : ByteArray => (x_.size + 1)) (fun _ => Nat.le_add_left _ _) r.f3
  unfold b27
  omega
theorem sz_of (p : S34) (hb : b34 p ≤ 1048576) : M.Sz p := by
  have s0 := sum_ge (fun x_ : ByteArray => (x_.size + 1)) (fun _ => Nat.le_add_left _ _) p.f0
  have s1 := sum_ge (fun x_ : S57 => b57 x_) (fun _ => Nat.le_add_left _ _) p.f1
  have s2 := sum_ge (fun x_ : ByteArray => (x_.size + 1)) (fun _ => Nat.le_add_left _ _) p.f2
  have s3 := sum_ge (fun x_ : ByteArray => (x_.size + 1)) (fun _ => Nat.le_add_left _ _) p.f3
  have s4 := sum_ge (fun x_ : ByteArray => (x_.size + 1)) (fun _ => Nat.le_add_left _ _) p.f4
  have s5 := sum_ge (fun x_ : S86 => b86 x_) (fun _ => Nat.le_add_left _ _) p.f5
  have s6 := sum_ge (fun x_ : S86 => b86 x_) (fun _ => Nat.le_add_left _ _) p.f6
  have s7 := sum_ge (fun x_ : S86 => b86 x_) (fun _ => Nat.le_add_left _ _) p.f7
  have s8 := sum_ge (fun x_ : S86 => b86 x_) (fun _ => Nat.le_add_left _ _) p.f8
  have s9 := sum_ge (fun x_ : S27 => b27 x_) (fun _ => Nat.le_add_left _ _) p.f9
  have s10 := sum_ge (fun x_ : S36 => b36 x_) (fun _ => Nat.le_add_left _ _) p.f10
  have sa : ∀ r ∈ p.f9, b27 r ≤ (p.f9.map (fun x_ : S27 => b27 x_)).sum := fun r hr => sum_mem (fun x_ : S27 => b27 x_) hr
  unfold b34 at hb
  exact ⟨by omega, by omega, by omega, by omega, by omega, by omega, by omega, by omega, by omega, by omega, by omega, fun r hr => by have := sa r hr; have := acts_le r; omega⟩
end Go.Proofs.Ytnkdcekddhmjnaa.F
