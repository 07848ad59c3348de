import Derived.Test.YteefneemmdfncaaF0
-- Written by a program of this session (mk.py over the kit's print, turned for floats and for contracts given by hand). Not trusted: Lean checks it.
namespace Go.Proofs.Yteefneemmdfncaa.F
open Go.RowKit Go.Proofs.YteefneemmdfncaaW.PrintWords Go.Proofs.YteefneemmdfncaaW.PrintLast Go.Proofs.YteefneemmdfncaaW.PrintMore
attribute [local go_sem] max2_int min2_int max_two min_two max_three min_three max_four min_four   -- for this text's walks alone
attribute [local go_sem] flt_eql flt_neq flt_lss flt_leq flt_gtr flt_geq run_store_float
set_option linter.unusedVariables false
set_option linter.unusedSimpArgs false

theorem eqA30 (d : Nat) (w : World) (x0 y0 : ByteArray) (x1 y1 : ByteArray) (x2 y2 : ByteArray) :
    (Op.equalIn (d + 2) 30 (.agg #[.string x0, .string x1, .string x2]) (.agg #[.string y0, .string y1, .string y2])).run Try.prog w = .ok (x0.toList == y0.toList && (x1.toList == y1.toList && (x2.toList == y2.toList))) w := by
  refine eqA_of Try.underlying30 (by kernel_rfl) ?_
  refine eqf_cons (by rfl) (by first | (go_simp; done) | (go_simp; rfl)) (by first | (go_simp; done) | (go_simp; rfl)) (by go_simp) ?_
  refine eqf_cons (by rfl) (by first | (go_simp; done) | (go_simp; rfl)) (by first | (go_simp; done) | (go_simp; rfl)) (by go_simp) ?_
  exact eqf_last (by rfl) (by first | (go_simp; done) | (go_simp; rfl)) (by first | (go_simp; done) | (go_simp; rfl)) (by go_simp)
end Go.Proofs.Yteefneemmdfncaa.F
-- Written by a program of this session (mk.py over the kit's print, turned for floats and for contracts given by hand). Not trusted: Lean checks it.
namespace Go.Proofs.Yteefneemmdfncaa.F
open Go.RowKit Go.Proofs.YteefneemmdfncaaW.PrintWords Go.Proofs.YteefneemmdfncaaW.PrintLast Go.Proofs.YteefneemmdfncaaW.PrintMore
attribute [local go_sem] max2_int min2_int max_two min_two max_three min_three max_four min_four   -- for this text's walks alone
attribute [local go_sem] flt_eql flt_neq flt_lss flt_leq flt_gtr flt_geq run_store_float
set_option linter.unusedVariables false
set_option linter.unusedSimpArgs false

/-! ### gatehouselaw10_sameNames: function 19 -/
/-! ### gatehouselaw10_mark: function 54 -/
-- NOT PRINTED: function 17 (gatehouselaw10_apart)

-- NOT PRINTED: function 27 (gatehouselaw10_keptNames)

-- NOT PRINTED: function 55 (gatehouselaw10_keptPairs)

-- NOT PRINTED: function 56 (gatehouselaw10_keptTriples)

/-! ### gatehouselaw10_alike: function 97 -/
-- NOT PRINTED: function 57 (gatehouselaw10_keptSubjects)

-- NOT PRINTED: function 58 (gatehouselaw10_keptRules)

-- NOT PRINTED: function 18 (gatehouselaw10_kept)

-- NOT PRINTED: function 20 (gatehouselaw10_over)

/-! ### gatehouseref08_Subjects: function 46 -/
/-! ### gatehouseref07_Has: function 48 -/
/-! ### gatehouseref10_There: function 98 -/
/-! ### gatehouseref10_known: function 59 -/
/-! ### gatehouseref08_in: function 118 -/
/-! ### gatehouseref08_Ups: function 109 -/
/-! ### gatehouseref08_Trust: function 110 -/
/-! ### gatehouseref08_Passes: function 131 -/
/-! ### gatehouseref08_about: function 119 -/
end Go.Proofs.Yteefneemmdfncaa.F
-- Written by a program of this session (mk.py over the kit's print, turned for floats and for contracts given by hand). Not trusted: Lean checks it.
namespace Go.Proofs.Yteefneemmdfncaa.F
open Go.RowKit Go.Proofs.YteefneemmdfncaaW.PrintWords Go.Proofs.YteefneemmdfncaaW.PrintLast Go.Proofs.YteefneemmdfncaaW.PrintMore
attribute [local go_sem] max2_int min2_int max_two min_two max_three min_three max_four min_four   -- for this text's walks alone
attribute [local go_sem] flt_eql flt_neq flt_lss flt_leq flt_gtr flt_geq run_store_float
set_option linter.unusedVariables false
set_option linter.unusedSimpArgs false

/-! ### gatehouseref08_Matches: function 95 -/
def gatehouseref08_Matches.T6 : Bool × List (List Nat × List Nat) := (true, [([], []), ([], []), ([1], [1]), ([], []), ([3], [3]), ([], []), ([5], [5]), ([2, 4, 6], [2, 4, 6]), ([], []), ([], []), ([9], [9]), ([], []), ([11], [11]), ([], []), ([13], [13]), ([10, 12, 14, 7], [10, 12, 14]), ([0, 7, 8, 15, 15], [0, 7, 8, 15]), ([16, 16, 0, 1, 2, 3, 4, 5, 6, 7, 8, 9, 10, 11, 12, 13, 14, 15, 16], [16])])
def gatehouseref08_Matches.B6 : List Nat := [0, 0, 2, 0, 8, 0, 32, 126, 0, 0, 512, 0, 2048, 0, 8192, 32510, 65535, 131071]
/-! ### gatehouseref10_rule: function 60 -/
def gatehouseref10_rule.T4 : Bool × List (List Nat × List Nat) := (true, [([], []), ([], []), ([1], [1]), ([], []), ([2, 3], [2, 3]), ([4], [4]), ([], []), ([0, 5, 6], [0, 5, 6]), ([7, 7, 0, 1, 2, 3, 4, 5, 6, 7], [7])])
def gatehouseref10_rule.B4 : List Nat := [0, 0, 2, 0, 14, 30, 0, 127, 255]
/-! ### gatehouseref07_Breadth: function 99 -/
def gatehouseref07_Breadth.B8 : List Nat := [0, 0, 3, 7, 15, 0, 32, 0, 224, 480, 1023, 2047, 4095, 8191, 4095, 4095, 53247, 118783, 249855, 524287, 1048575, 2097151]
def gatehouseref07_Breadth.B9 : List Nat := [0, 1, 0, 0, 12, 28, 60, 124, 255, 511, 1023]
end Go.Proofs.Yteefneemmdfncaa.F
