import Derived.Test.YteefneemmdfncaaWRaw
import Derived.Test.YteefneemmdfncaaF7
/- Triples as a map's keys. No condition. -/
namespace Go.Proofs.Yteefneemmdfncaa.M
open Go.RowKit Go.Proofs.YteefneemmdfncaaW.Raw Go.Proofs.YteefneemmdfncaaW.PrintWords Go.Proofs.Yteefneemmdfncaa.F
set_option linter.unusedVariables false
abbrev keyT (t : S30) : Value := .agg #[.string t.f0, .string t.f1, .string t.f2]
def keyE (a b : S30) : Bool := a.f0.toList == b.f0.toList && (a.f1.toList == b.f1.toList && (a.f2.toList == b.f2.toList))
theorem key_tri : Key Try.prog 30 keyT keyE := by
  refine key_asked Try.underlying30 (fun w b x => ?_) (fun x y => rfl) (fun w x y => ?_)
  · have h0 : (part 9 #[Value.string x.f0, Value.string x.f1, Value.string x.f2] 0).run Try.prog w = .ok (.string x.f0) w := by first | (go_simp; done) | (go_simp; rfl)
    have h1 : (part 9 #[Value.string x.f0, Value.string x.f1, Value.string x.f2] 1).run Try.prog w = .ok (.string x.f1) w := by first | (go_simp; done) | (go_simp; rfl)
    have h2 : (part 9 #[Value.string x.f0, Value.string x.f1, Value.string x.f2] 2).run Try.prog w = .ok (.string x.f2) w := by first | (go_simp; done) | (go_simp; rfl)
    have hc : ∀ v : Value, (Instr.checkKey b 9999 9 v).run Try.prog w = .ok () w := fun v => check_plain Try.underlying9 (by simp) (by simp) (by simp) w b 9998
    unfold Instr.checkKey
    simp [run_underlying Try.underlying30, h0, h1, h2, hc, Result.andThen]
  · exact eqA30 9998 w x.f0 y.f0 x.f1 y.f1 x.f2 y.f2
end Go.Proofs.Yteefneemmdfncaa.M
