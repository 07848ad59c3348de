-- Written by a program of this session (mk.py over the kit's print, turned for floats and for contracts given by hand). Not trusted: Lean checks it.
import Derived.Test.YtnkdcekddhmjnaaF0
import Derived.Test.YtnkdcekddhmjnaaF7
import Derived.Test.YtnkdcekddhmjnaaF9
namespace Go.Proofs.Ytnkdcekddhmjnaa.F
open Go.RowKit Go.Proofs.YtnkdcekddhmjnaaW.PrintWords Go.Proofs.YtnkdcekddhmjnaaW.PrintLast Go.Proofs.YtnkdcekddhmjnaaW.PrintMore
attribute [local go_sem] max2_int min2_int max_two min_two max_three min_three max_four min_four   -- for this text's walks alone
attribute [local go_sem] flt_eql flt_neq flt_lss flt_leq flt_gtr flt_geq run_store_float
set_option linter.unusedVariables false
set_option linter.unusedSimpArgs false

/-! ### gatehouselaw08_all: function 37 -/
def gatehouselaw08_all.T11 : Bool × List (List Nat × List Nat) := (true, [([], []), ([0], [0]), ([], []), ([1, 2], [1, 2]), ([3], [3]), ([4], [4]), ([], []), ([6], [6]), ([], []), ([7, 8], [7, 8]), ([9], [9]), ([], []), ([11], [11]), ([], []), ([12, 13], [12, 13]), ([14], [14]), ([5, 10, 15], [5, 10, 15]), ([], []), ([17, 16, 16, 0, 1, 2, 3, 4, 5, 6, 7, 8, 9, 10, 11, 12, 13, 14, 15, 16, 17], [16, 17])])
def gatehouselaw08_all.B11 : List Nat := [0, 1, 0, 7, 15, 31, 0, 64, 0, 448, 960, 0, 2048, 0, 14336, 30720, 65535, 0, 262143]
theorem gatehouselaw08_all.tab11 : rtab .any (opsOf Try.f37 11) = gatehouselaw08_all.T11 := by kernel_rfl
theorem gatehouselaw08_all.bits11 : waitsOk gatehouselaw08_all.T11.2 gatehouselaw08_all.B11 = true := by kernel_rfl
end Go.Proofs.Ytnkdcekddhmjnaa.F
