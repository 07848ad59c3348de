/- One rule more; a name that is not there; the order of rules, pairs and excepts: plainly. Conditions: each theorem's own. -/
import Derived.Test.YtnkdcekddhmjnaaPC
namespace Go.Proofs.Ytnkdcekddhmjnaa.M
open Go.RowKit Go.Proofs.YtnkdcekddhmjnaaW.Raw Go.Proofs.YtnkdcekddhmjnaaW.PrintWords Go.Proofs.Ytnkdcekddhmjnaa.F
set_option linter.unusedVariables false
def moreP (p : Pol) (r : Rule) : Pol := { p with f9 := p.f9 ++ [r] }
def deniedB (p : Pol) (t : Tri) : Bool := p.f9.any fun r => matchB p r t && r.f0
theorem allowsB_any (p : Pol) (t : Tri) : allowsB p t = match trustOf p.f1 t.f0 with
    | none => false
    | some tr => memB p.f3 t.f1 && memB p.f0 t.f2 && ((p.f9.any fun r => speakB r tr (upS p t.f0) (upO p t.f1) && namesB r t.f2) && !(p.f9.any fun r => speakB r tr (upS p t.f0) (upO p t.f1) && (namesB r t.f2 && r.f0)) && !(p.f10.any fun u => eqT t u)) := by
  unfold allowsB
  cases trustOf p.f1 t.f0 with
  | none => rfl
  | some tr =>
    show (memB p.f3 t.f1 && memB p.f0 t.f2 && allowB (aboutL p tr (upS p t.f0) (upO p t.f1)) p.f10 t) = _
    unfold allowB
    rw [any_about, any_about]
/-- 8.6: one rule more. -/
theorem more_allows (p : Pol) (r : Rule) (t : Tri) : allowsB (moreP p r) t = if r.f0 = true then allowsB p t && !(matchB p r t) else allowsB p t || (matchB p r t && !(p.f10.any fun u => eqT t u) && !(deniedB p t)) := by
  rw [allowsB_any, allowsB_any]
  unfold deniedB matchB
  show (match trustOf p.f1 t.f0 with | none => false | some tr => memB p.f3 t.f1 && memB p.f0 t.f2 && (((p.f9 ++ [r]).any fun r => speakB r tr (upS p t.f0) (upO p t.f1) && namesB r t.f2) && !((p.f9 ++ [r]).any fun r => speakB r tr (upS p t.f0) (upO p t.f1) && (namesB r t.f2 && r.f0)) && !(p.f10.any fun u => eqT t u))) = _
  cases trustOf p.f1 t.f0 with
  | none => simp
  | some tr =>
    simp only [List.any_append, List.any_cons, List.any_nil, Bool.or_false]
    cases memB p.f3 t.f1 with
    | false => simp
    | true =>
      cases memB p.f0 t.f2 with
      | false => simp
      | true =>
        simp only [Bool.true_and]
        have e : (p.f9.any fun r' => (namesB r' t.f2 && speakB r' tr (upS p t.f0) (upO p t.f1)) && r'.f0) = p.f9.any fun r' => speakB r' tr (upS p t.f0) (upO p t.f1) && (namesB r' t.f2 && r'.f0) := by
          congr 1
          funext r'
          cases namesB r' t.f2 <;> cases speakB r' tr (upS p t.f0) (upO p t.f1) <;> cases r'.f0 <;> rfl
        rw [e]
        generalize (p.f9.any fun r' => speakB r' tr (upS p t.f0) (upO p t.f1) && namesB r' t.f2) = A
        generalize (p.f9.any fun r' => speakB r' tr (upS p t.f0) (upO p t.f1) && (namesB r' t.f2 && r'.f0)) = D
        generalize (p.f10.any fun u => eqT t u) = X
        generalize speakB r tr (upS p t.f0) (upO p t.f1) = a
        generalize namesB r t.f2 = b
        generalize r.f0 = d
        cases A <;> cases D <;> cases X <;> cases a <;> cases b <;> cases d <;> rfl
end Go.Proofs.Ytnkdcekddhmjnaa.M
