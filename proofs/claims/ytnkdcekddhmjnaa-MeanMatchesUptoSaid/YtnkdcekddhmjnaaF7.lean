-- Written by a program of this session (mk.py over the kit's print, turned for floats and for contracts given by hand). Not trusted: Lean checks it.
import Derived.Test.YtnkdcekddhmjnaaF0
import Derived.Test.YtnkdcekddhmjnaaF1
import Derived.Test.YtnkdcekddhmjnaaF6
namespace Go.Proofs.Ytnkdcekddhmjnaa.F
open Go.RowKit Go.Proofs.YtnkdcekddhmjnaaW.PrintWords Go.Proofs.YtnkdcekddhmjnaaW.PrintLast Go.Proofs.YtnkdcekddhmjnaaW.PrintMore
attribute [local go_sem] max2_int min2_int max_two min_two max_three min_three max_four min_four   -- for this text's walks alone
attribute [local go_sem] flt_eql flt_neq flt_lss flt_leq flt_gtr flt_geq run_store_float
set_option linter.unusedVariables false
set_option linter.unusedSimpArgs false

attribute [local go_sem high] eqA36
/-! ### gatehouseref08_excepted: function 59 -/
/-! ### gatehouseref08_Allows: function 23 -/
def gatehouseref08_Allows.T6 : Bool × List (List Nat × List Nat) := (true, [([], []), ([], []), ([1], [1]), ([], []), ([2, 3], [2, 3]), ([4], [4]), ([], []), ([0, 5, 6], [0, 5, 6]), ([7, 7, 0, 1, 2, 3, 4, 5, 6, 7], [7])])
def gatehouseref08_Allows.B6 : List Nat := [0, 0, 2, 0, 14, 30, 0, 127, 255]
theorem gatehouseref08_Allows.tab6 : rtab .any (opsOf Try.f23 6) = gatehouseref08_Allows.T6 := by kernel_rfl
theorem gatehouseref08_Allows.bits6 : waitsOk gatehouseref08_Allows.T6.2 gatehouseref08_Allows.B6 = true := by kernel_rfl
-- NOT PRINTED: function 6 (gatehouselaw08_MeanAllows)

/-! ### gatehouselaw08_vast: function 26 -/
-- NOT PRINTED: function 64 (api_Subject)

/-! ### mean_once: function 66 -/
-- by hand: function 28 (mean_Relation)

/-! ### gatehouselaw08_tri: function 40 -/
-- by hand: function 30 (gatehouselaw08_alive)

/-! ### gatehouselaw08_texts: function 67 -/
end Go.Proofs.Ytnkdcekddhmjnaa.F
