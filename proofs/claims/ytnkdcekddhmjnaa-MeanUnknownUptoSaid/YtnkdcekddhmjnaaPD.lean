/- One rule more; a name that is not there; the order of rules, pairs and excepts: plainly. Conditions: each theorem's own. -/
import Derived.Test.YtnkdcekddhmjnaaPC
namespace Go.Proofs.Ytnkdcekddhmjnaa.M
open Go.RowKit Go.Proofs.YtnkdcekddhmjnaaW.Raw Go.Proofs.YtnkdcekddhmjnaaW.PrintWords Go.Proofs.Ytnkdcekddhmjnaa.F
set_option linter.unusedVariables false
def moreP (p : Pol) (r : Rule) : Pol := { p with f9 := p.f9 ++ [r] }
def thereB (p : Pol) (t : Tri) : Bool := memB (namesOf p) t.f0 && memB p.f3 t.f1 && memB p.f0 t.f2
theorem thereB_iff {p : Pol} {t : Tri} : thereB p t = true ↔ t ∈ allT p := by
  unfold thereB
  rw [mem_allT, Bool.and_eq_true, Bool.and_eq_true, memB_iff, memB_iff, memB_iff]
  exact ⟨fun ⟨⟨h1, h2⟩, h3⟩ => ⟨h1, h2, h3⟩, fun ⟨h1, h2, h3⟩ => ⟨⟨h1, h2⟩, h3⟩⟩
/-- 8.3: a name that is not there. -/
theorem unknown_allows {p : Pol} {t : Tri} (h : thereB p t = false) : allowsB p t = false := by
  cases hq : allowsB p t with
  | false => rfl
  | true => rw [thereB_iff.2 (allowsB_mem hq)] at h; cases h
theorem matchB_mem {p : Pol} {r : Rule} {t : Tri} (h : matchB p r t = true) : t ∈ allT p := by
  rw [mem_allT]
  unfold matchB at h
  cases hq : trustOf p.f1 t.f0 with
  | none => rw [hq] at h; cases h
  | some tr =>
    rw [hq] at h
    simp only [Bool.and_eq_true] at h
    refine ⟨?_, memB_iff.1 h.1.1.1, memB_iff.1 h.1.1.2⟩
    unfold trustOf at hq
    obtain ⟨s, hs, _⟩ := Option.map_eq_some_iff.1 hq
    have h1 := List.mem_of_find?_eq_some hs
    have h2 := List.find?_some hs
    rw [(bb _ _).1 h2]
    exact List.mem_map_of_mem h1
theorem unknown_matches {p : Pol} {r : Rule} {t : Tri} (h : thereB p t = false) : matchB p r t = false := by
  cases hq : matchB p r t with
  | false => rfl
  | true => rw [thereB_iff.2 (matchB_mem hq)] at h; cases h
end Go.Proofs.Ytnkdcekddhmjnaa.M
