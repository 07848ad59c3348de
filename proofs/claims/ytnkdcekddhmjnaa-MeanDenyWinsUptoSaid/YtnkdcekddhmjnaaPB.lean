/- Denials override, plainly: of policies alone. Conditions: none. -/
import Derived.Test.YtnkdcekddhmjnaaPA
namespace Go.Proofs.Ytnkdcekddhmjnaa.M
open Go.RowKit Go.Proofs.YtnkdcekddhmjnaaW.Raw Go.Proofs.YtnkdcekddhmjnaaW.PrintWords Go.Proofs.Ytnkdcekddhmjnaa.F
set_option linter.unusedVariables false
/-- The rules alone that deny (that do not), made rules that allow; without excepts. -/
def onlyR (d : Bool) (rs : List Rule) : List Rule := (rs.filter fun r => r.f0 == d).map fun r => { r with f0 := false }
def onlyP (p : Pol) (d : Bool) : Pol := { p with f9 := onlyR d p.f9, f10 := [] }
theorem any_only {d : Bool} {rs : List Rule} {q : Rule → Bool} (hq : ∀ r b, q { r with f0 := b } = q r) : (onlyR d rs).any q = rs.any fun r => r.f0 == d && q r := by
  unfold onlyR
  rw [List.any_map, List.any_filter]
  congr 1
  funext r
  simp [hq]
theorem any_about (p : Pol) (tr : Nat) (us uo : List ByteArray) (q : Rule → Bool) : (aboutL p tr us uo).any q = p.f9.any fun r => speakB r tr us uo && q r := List.any_filter
theorem only_allT (p : Pol) (d : Bool) : allT (onlyP p d) = allT p := rfl
/-- What a policy of rules that all allow, without excepts, allows. -/
theorem allows_only (p : Pol) (d : Bool) (t : Tri) : allowsB (onlyP p d) t = match trustOf p.f1 t.f0 with
    | none => false
    | some tr => memB p.f3 t.f1 && memB p.f0 t.f2 && p.f9.any fun r => r.f0 == d && (speakB r tr (upS p t.f0) (upO p t.f1) && namesB r t.f2) := by
  unfold allowsB
  show (match trustOf p.f1 t.f0 with | none => false | some tr => _) = _
  cases trustOf p.f1 t.f0 with
  | none => rfl
  | some tr =>
    show (memB p.f3 t.f1 && memB p.f0 t.f2 && allowB (aboutL (onlyP p d) tr (upS p t.f0) (upO p t.f1)) [] t) = _
    unfold allowB
    rw [any_about, any_about]
    show (memB p.f3 t.f1 && memB p.f0 t.f2 && ((onlyR d p.f9).any _ && !((onlyR d p.f9).any _) && !(List.any [] _))) = _
    rw [any_only (q := fun r => speakB r tr (upS p t.f0) (upO p t.f1) && namesB r t.f2) (fun _ _ => rfl)]
    have h0 : (onlyR d p.f9).any (fun r => speakB r tr (upS p t.f0) (upO p t.f1) && (namesB r t.f2 && r.f0)) = false := by
      rw [List.any_eq_false]
      intro r hr
      unfold onlyR at hr
      obtain ⟨r', _, rfl⟩ := List.mem_map.1 hr
      simp
    rw [h0]
    simp
/-- 8.3: denials override. -/
theorem deny_wins (p : Pol) (t : Tri) : allowsB p t = (allowsB (onlyP p false) t && !(allowsB (onlyP p true) t) && !(p.f10.any fun u => eqT t u)) := by
  rw [allows_only, allows_only]
  unfold allowsB
  cases trustOf p.f1 t.f0 with
  | none => rfl
  | some tr =>
    show (memB p.f3 t.f1 && memB p.f0 t.f2 && allowB (aboutL p tr (upS p t.f0) (upO p t.f1)) p.f10 t) = _
    unfold allowB
    rw [any_about, any_about]
    cases memB p.f3 t.f1 <;> cases memB p.f0 t.f2 <;> try rfl
    simp only [Bool.true_and]
    rw [Bool.eq_iff_iff]
    simp only [Bool.and_eq_true, Bool.not_eq_true', List.any_eq_true, List.any_eq_false, beq_iff_eq]
    constructor
    · rintro ⟨⟨⟨r, hr, h1, h2⟩, hd⟩, hx⟩
      refine ⟨⟨⟨r, hr, ?_, h1, h2⟩, fun r' hr' h => hd r' hr' ⟨h.2.1, h.2.2, h.1⟩⟩, hx⟩
      cases hq : r.f0 with
      | false => rfl
      | true => exact absurd ⟨h1, h2, hq⟩ (hd r hr)
    · rintro ⟨⟨⟨r, hr, h0, h1, h2⟩, hd⟩, hx⟩
      exact ⟨⟨⟨r, hr, h1, h2⟩, fun r' hr' h => hd r' hr' ⟨h.2.2, h.1, h.2.1⟩⟩, hx⟩
end Go.Proofs.Ytnkdcekddhmjnaa.M
