-- Written by a program of this session (mk.py over the kit's print, turned for floats and for contracts given by hand). Not trusted: Lean checks it.
import Derived.Test.YtaeijlkogenblaaDoorProg
import Derived.Below
import Derived.Deep.Draws
import Derived.Deep.AppendLies
import Derived.Maps.AppendAt
import Derived.OwnWalk
import Derived.Laws.BytesArg
import Derived.Laws.MakeOwn
import Derived.Laws.OwnMore
import Derived.Deep.OwnRows
import Derived.Tactics
import Derived.Lib.ConvBytes
import Derived.Laws.Slices
import Derived.WalkKit
import Derived.KernelRfl
import Derived.RowKit3
import Derived.Deep.LoopGhost
import Derived.Deep.QuietTactic
import Derived.BigQuiet
import Derived.WideLaws
import Derived.Deep.DeepCutAuto
import Derived.Deep.CutBlock
import Derived.Deep.RegionHeld3
import Derived.Laws.Rows
import Derived.Lib.AppendStr
import Derived.ArgAppend
import Derived.Laws.IdiomCopy
import Derived.OrdersHeld
import Derived.Laws.BitsLemmas
import Derived.RowKit
import Derived.Test.YtaeijlkogenblaaDoorWWords
import Derived.Test.YtaeijlkogenblaaDoorWLast
import Derived.Test.YtaeijlkogenblaaDoorWTab
import Derived.Test.YtaeijlkogenblaaDoorWFour
import Derived.Test.YtaeijlkogenblaaDoorWQPut
import Derived.Test.YtaeijlkogenblaaDoorWApart
import Derived.Test.YtaeijlkogenblaaDoorWArr
import Derived.Test.YtaeijlkogenblaaDoorWZeros
import Derived.Test.YtaeijlkogenblaaDoorWFoot
import Derived.Test.YtaeijlkogenblaaDoorWKept
import Derived.Test.YtaeijlkogenblaaDoorWShare
import Derived.Test.YtaeijlkogenblaaDoorWN
import Derived.Test.YtaeijlkogenblaaDoorWFootNe
import Derived.Test.YtaeijlkogenblaaDoorWAt
import Derived.Test.YtaeijlkogenblaaDoorWEqStruct
import Derived.Test.YtaeijlkogenblaaDoorWRepsOne
import Derived.Test.YtaeijlkogenblaaDoorWInv
import Derived.Test.YtaeijlkogenblaaDoorWInvWords
import Derived.Test.YtaeijlkogenblaaDoorWGuard
import Derived.Test.YtaeijlkogenblaaDoorWNEv
import Derived.Test.YtaeijlkogenblaaDoorWMore
import Derived.Test.YtaeijlkogenblaaDoorWFloat
import Derived.Test.YtaeijlkogenblaaDoorWMake
namespace Go.Proofs.YtaeijlkogenblaaDoor.F
open Go.RowKit Go.Proofs.YtaeijlkogenblaaDoorW.PrintWords Go.Proofs.YtaeijlkogenblaaDoorW.PrintLast Go.Proofs.YtaeijlkogenblaaDoorW.PrintMore
attribute [local go_sem] max2_int min2_int max_two min_two max_three min_three max_four min_four   -- for this text's walks alone
attribute [local go_sem] flt_eql flt_neq flt_lss flt_leq flt_gtr flt_geq
set_option linter.unusedVariables false
set_option linter.unusedSimpArgs false



def errW : Option Int → Value
  | none => .nilIface
  | some c => .iface 0 (.int .i64 c)
theorem errW_none : errW none = .nilIface := rfl
theorem errW_some (c : Int) : errW (some c) = .iface 0 (.int .i64 c) := rfl

theorem info9 : (Tryd.prog.info? 9).map (fun i => (i.zero, i.size, i.bytes)) = some (some (.string ⟨#[]⟩), 1, 16) := by kernel_rfl
-- the values' own types

end Go.Proofs.YtaeijlkogenblaaDoor.F
