/- One rule more; a name that is not there; the order of rules, pairs and excepts: plainly. Conditions: each theorem's own. -/
import Derived.Test.YtnkdcekddhmjnaaPC
namespace Go.Proofs.Ytnkdcekddhmjnaa.M
open Go.RowKit Go.Proofs.YtnkdcekddhmjnaaW.Raw Go.Proofs.YtnkdcekddhmjnaaW.PrintWords Go.Proofs.Ytnkdcekddhmjnaa.F
set_option linter.unusedVariables false
theorem allowsB_any (p : Pol) (t : Tri) : allowsB p t = match trustOf p.f1 t.f0 with
    | none => false
    | some tr => memB p.f3 t.f1 && memB p.f0 t.f2 && ((p.f9.any fun r => speakB r tr (upS p t.f0) (upO p t.f1) && namesB r t.f2) && !(p.f9.any fun r => speakB r tr (upS p t.f0) (upO p t.f1) && (namesB r t.f2 && r.f0)) && !(p.f10.any fun u => eqT t u)) := by
  unfold allowsB
  cases trustOf p.f1 t.f0 with
  | none => rfl
  | some tr =>
    show (memB p.f3 t.f1 && memB p.f0 t.f2 && allowB (aboutL p tr (upS p t.f0) (upO p t.f1)) p.f10 t) = _
    unfold allowB
    rw [any_about, any_about]
theorem any_same {α : Type} {l l' : List α} (h : ∀ x, x ∈ l ↔ x ∈ l') (f : α → Bool) : l.any f = l'.any f := by
  rw [Bool.eq_iff_iff, List.any_eq_true, List.any_eq_true]
  exact ⟨fun ⟨x, hx, e⟩ => ⟨x, (h x).1 hx, e⟩, fun ⟨x, hx, e⟩ => ⟨x, (h x).2 hx, e⟩⟩
/-- 8.2, 8.3: the order says nothing, nor do things that stand there twice. -/
theorem order_allows {p q : Pol} (h0 : q.f0 = p.f0) (h1 : q.f1 = p.f1) (h3 : q.f3 = p.f3) (hs : ∀ x, x ∈ q.f5 ++ q.f6 ↔ x ∈ p.f5 ++ p.f6) (ho : ∀ x, x ∈ q.f7 ++ q.f8 ↔ x ∈ p.f7 ++ p.f8) (h9 : ∀ x, x ∈ q.f9 ↔ x ∈ p.f9) (h10 : ∀ x, x ∈ q.f10 ↔ x ∈ p.f10) (t : Tri) : allowsB q t = allowsB p t := by
  rw [allowsB_any, allowsB_any, h0, h1, h3]
  have e : ∀ r tr, speakB r tr (upS q t.f0) (upO q t.f1) = speakB r tr (upS p t.f0) (upO p t.f1) := fun r tr => by
    unfold speakB upS upO
    rw [memB_upL hs, memB_upL ho]
  cases trustOf p.f1 t.f0 with
  | none => rfl
  | some tr => simp only [e, any_same h9, any_same h10]
theorem order_rel {p q : Pol} (h0 : q.f0 = p.f0) (h1 : q.f1 = p.f1) (h3 : q.f3 = p.f3) (hs : ∀ x, x ∈ q.f5 ++ q.f6 ↔ x ∈ p.f5 ++ p.f6) (ho : ∀ x, x ∈ q.f7 ++ q.f8 ↔ x ∈ p.f7 ++ p.f8) (h9 : ∀ x, x ∈ q.f9 ↔ x ∈ p.f9) (h10 : ∀ x, x ∈ q.f10 ↔ x ∈ p.f10) : relL q = relL p := by
  rw [relL_eq, relL_eq, show allT q = allT p from by unfold allT namesOf; rw [h0, h1, h3]]
  exact List.filter_congr fun t _ => order_allows h0 h1 h3 hs ho h9 h10 t
end Go.Proofs.Ytnkdcekddhmjnaa.M
