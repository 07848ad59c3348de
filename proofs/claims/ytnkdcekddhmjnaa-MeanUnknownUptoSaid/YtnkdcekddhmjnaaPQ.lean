/- mean.Matches and mean.Allows, as they are asked; the policy with one more rule. Conditions: no list, and no rule's list of actions, is longer than 1048576. -/
import Derived.Test.YtnkdcekddhmjnaaPF
namespace Go.Proofs.Ytnkdcekddhmjnaa.M
open Go.RowKit Go.Proofs.YtnkdcekddhmjnaaW.PrintWords Go.Proofs.Ytnkdcekddhmjnaa.F
set_option linter.unusedVariables false
theorem more_okR {p : Pol} (r : Rule) (hs : Sz p) (hcap : p.f1.length * (p.f3.length * p.f0.length) ≤ 65536) : okR (moreP p r) = true := by
  have hk := okB_iff.1 hs.ok
  have h9 := hs.l9
  exact okR_iff.2 ⟨⟨hk.1, hk.2, by show (p.f9 ++ [r]).length ≤ _; simp; omega, Nat.le_trans hs.l0 (by omega), Nat.le_trans hs.l1 (by omega), Nat.le_trans hs.l3 (by omega)⟩, by show p.f1.length * (p.f3.length * p.f0.length) ≤ _; omega⟩
end Go.Proofs.Ytnkdcekddhmjnaa.M
