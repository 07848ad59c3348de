import Derived.Test.YteefneemmdfncaaDoorF0
-- Written by a program of this session (mk.py over the kit's print, turned for floats and for contracts given by hand). Not trusted: Lean checks it.
namespace Go.Proofs.YteefneemmdfncaaDoor.F
open Go.RowKit Go.Proofs.YteefneemmdfncaaDoorW.PrintWords Go.Proofs.YteefneemmdfncaaDoorW.PrintLast Go.Proofs.YteefneemmdfncaaDoorW.PrintMore
attribute [local go_sem] max2_int min2_int max_two min_two max_three min_three max_four min_four   -- for this text's walks alone
attribute [local go_sem] flt_eql flt_neq flt_lss flt_leq flt_gtr flt_geq run_store_float
set_option linter.unusedVariables false
set_option linter.unusedSimpArgs false

theorem eqA30 (d : Nat) (w : World) (x0 y0 : ByteArray) (x1 y1 : ByteArray) (x2 y2 : ByteArray) :
    (Op.equalIn (d + 2) 30 (.agg #[.string x0, .string x1, .string x2]) (.agg #[.string y0, .string y1, .string y2])).run Tryd.prog w = .ok (x0.toList == y0.toList && (x1.toList == y1.toList && (x2.toList == y2.toList))) w := by
  refine eqA_of Tryd.underlying30 (by kernel_rfl) ?_
  refine eqf_cons (by rfl) (by first | (go_simp; done) | (go_simp; rfl)) (by first | (go_simp; done) | (go_simp; rfl)) (by go_simp) ?_
  refine eqf_cons (by rfl) (by first | (go_simp; done) | (go_simp; rfl)) (by first | (go_simp; done) | (go_simp; rfl)) (by go_simp) ?_
  exact eqf_last (by rfl) (by first | (go_simp; done) | (go_simp; rfl)) (by first | (go_simp; done) | (go_simp; rfl)) (by go_simp)
end Go.Proofs.YteefneemmdfncaaDoor.F
-- Written by a program of this session (mk.py over the kit's print, turned for floats and for contracts given by hand). Not trusted: Lean checks it.
namespace Go.Proofs.YteefneemmdfncaaDoor.F
open Go.RowKit Go.Proofs.YteefneemmdfncaaDoorW.PrintWords Go.Proofs.YteefneemmdfncaaDoorW.PrintLast Go.Proofs.YteefneemmdfncaaDoorW.PrintMore
attribute [local go_sem] max2_int min2_int max_two min_two max_three min_three max_four min_four   -- for this text's walks alone
attribute [local go_sem] flt_eql flt_neq flt_lss flt_leq flt_gtr flt_geq run_store_float
set_option linter.unusedVariables false
set_option linter.unusedSimpArgs false

theorem eqA97 (d : Nat) (w : World) (x0 y0 : ByteArray) (x1 y1 : ByteArray) :
    (Op.equalIn (d + 2) 97 (.agg #[.string x0, .string x1]) (.agg #[.string y0, .string y1])).run Tryd.prog w = .ok (x0.toList == y0.toList && (x1.toList == y1.toList)) w := by
  refine eqA_of Tryd.underlying97 (by kernel_rfl) ?_
  refine eqf_cons (by rfl) (by first | (go_simp; done) | (go_simp; rfl)) (by first | (go_simp; done) | (go_simp; rfl)) (by go_simp) ?_
  exact eqf_last (by rfl) (by first | (go_simp; done) | (go_simp; rfl)) (by first | (go_simp; done) | (go_simp; rfl)) (by go_simp)
end Go.Proofs.YteefneemmdfncaaDoor.F
