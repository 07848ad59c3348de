/- What mean.Relation asks for: sides in a list; about, of a policy that lies in an elder world; once; slices.IndexFunc. Conditions: each theorem's own.
mean.Relation, as plain functions; and what is in it. Conditions: each theorem's own.
mean.Relation, walked. Conditions: the policy reads as it must; its lists are not longer than 16777216, nor is the product of the three.
mean.Mask, walked. Conditions: the policy reads as it must; its lists are not longer than 16777216.
What sizes a policy may have, as a truth that is asked for. Conditions: none. -/
import Derived.Test.YtnkdcekddhmjnaaSB
import Derived.Test.YtnkdcekddhmjnaaF7
import Derived.Laws.BitsAllLaws
namespace Go.Proofs.Ytnkdcekddhmjnaa.M
open Go.RowKit Go.Proofs.YtnkdcekddhmjnaaW.Raw Go.Proofs.YtnkdcekddhmjnaaW.PrintWords Go.Proofs.Ytnkdcekddhmjnaa.F
set_option linter.unusedVariables false
attribute [local go_sem] run_store_float
structure Sd where
  n : ByteArray
  t : Nat
  us : List ByteArray
instance : Inhabited Sd := ⟨⟨ByteArray.empty, 0, []⟩⟩
end Go.Proofs.Ytnkdcekddhmjnaa.M
namespace Go.Proofs.Ytnkdcekddhmjnaa.M
open Go.RowKit Go.Proofs.YtnkdcekddhmjnaaW.Raw Go.Proofs.YtnkdcekddhmjnaaW.PrintWords Go.Proofs.Ytnkdcekddhmjnaa.F
set_option linter.unusedVariables false
end Go.Proofs.Ytnkdcekddhmjnaa.M
namespace Go.Proofs.Ytnkdcekddhmjnaa.M
open Go.RowKit Go.Proofs.YtnkdcekddhmjnaaW.Raw Go.Proofs.YtnkdcekddhmjnaaW.PrintWords Go.Proofs.Ytnkdcekddhmjnaa.F
set_option linter.unusedVariables false
attribute [local go_sem] run_store_float
end Go.Proofs.Ytnkdcekddhmjnaa.M
namespace Go.Proofs.Ytnkdcekddhmjnaa.M
open Go.RowKit Go.Proofs.YtnkdcekddhmjnaaW.Raw Go.Proofs.YtnkdcekddhmjnaaW.PrintWords Go.Proofs.Ytnkdcekddhmjnaa.F
set_option linter.unusedVariables false
attribute [local go_sem] run_store_float
end Go.Proofs.Ytnkdcekddhmjnaa.M
namespace Go.Proofs.Ytnkdcekddhmjnaa.M
open Go.RowKit Go.Proofs.YtnkdcekddhmjnaaW.Raw Go.Proofs.YtnkdcekddhmjnaaW.PrintWords Go.Proofs.Ytnkdcekddhmjnaa.F
set_option linter.unusedVariables false
def okB (p : Pol) : Bool := decide (p.f5.length + p.f6.length ≤ 16777215) && decide (p.f7.length + p.f8.length ≤ 16777215) && decide (p.f9.length ≤ 16777216) && decide (p.f0.length ≤ 16777216) && decide (p.f1.length ≤ 16777216) && decide (p.f3.length ≤ 16777216)
theorem okB_iff {p : Pol} : okB p = true ↔ OkP p := by
  simp only [okB, Bool.and_eq_true, decide_eq_true_eq]
  exact ⟨fun ⟨⟨⟨⟨⟨h1, h2⟩, h3⟩, h4⟩, h5⟩, h6⟩ => ⟨h1, h2, h3, h4, h5, h6⟩, fun h => ⟨⟨⟨⟨⟨h.s, h.o⟩, h.r⟩, h.a⟩, h.u⟩, h.b⟩⟩
end Go.Proofs.Ytnkdcekddhmjnaa.M
