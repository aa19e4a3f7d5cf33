/- What these functions of the program compute, and that they compute it: printed by wip/tools/orac.py over the kit's print.py. -/
import Derived.Test.YtebpghpaglpdlaaDoorProg
import Derived.Below
import Derived.Deep.Draws
import Derived.Deep.AppendLies
import Derived.Maps.AppendAt
import Derived.OwnWalk
import Derived.Laws.BytesArg
import Derived.Laws.MakeOwn
import Derived.Laws.OwnMore
import Derived.Deep.OwnRows
import Derived.Tactics
import Derived.Lib.ConvBytes
import Derived.Laws.Slices
import Derived.WalkKit
import Derived.KernelRfl
import Derived.RowKit3
import Derived.Deep.LoopGhost
import Derived.Deep.QuietTactic
import Derived.BigQuiet
import Derived.WideLaws
import Derived.Deep.DeepCutAuto
import Derived.Deep.CutBlock
import Derived.Deep.RegionHeld3
import Derived.Laws.Rows
import Derived.Lib.AppendStr
import Derived.ArgAppend
import Derived.Laws.IdiomCopy
import Derived.OrdersHeld
import Derived.Laws.BitsLemmas
import Derived.RowKit
import Derived.Test.YtebpghpaglpdlaaDoorScX
import Derived.Test.YtebpghpaglpdlaaDoorOpqB
import Derived.Test.YtebpghpaglpdlaaDoorOpqC
import Derived.Test.YtebpghpaglpdlaaDoorWWords
import Derived.Test.YtebpghpaglpdlaaDoorWLast
import Derived.Test.YtebpghpaglpdlaaDoorWTab
import Derived.Test.YtebpghpaglpdlaaDoorWFour
import Derived.Test.YtebpghpaglpdlaaDoorWQPut
import Derived.Test.YtebpghpaglpdlaaDoorWApart
import Derived.Test.YtebpghpaglpdlaaDoorWArr
import Derived.Test.YtebpghpaglpdlaaDoorWZeros
import Derived.Test.YtebpghpaglpdlaaDoorWFoot
import Derived.Test.YtebpghpaglpdlaaDoorWKept
import Derived.Test.YtebpghpaglpdlaaDoorWShare
import Derived.Test.YtebpghpaglpdlaaDoorWN
import Derived.Test.YtebpghpaglpdlaaDoorWFootNe
import Derived.Test.YtebpghpaglpdlaaDoorWAt
import Derived.Test.YtebpghpaglpdlaaDoorWEqStruct
import Derived.Test.YtebpghpaglpdlaaDoorWRepsOne
import Derived.Test.YtebpghpaglpdlaaDoorWInv
import Derived.Test.YtebpghpaglpdlaaDoorWInvWords
import Derived.Test.YtebpghpaglpdlaaDoorWGuard
import Derived.Test.YtebpghpaglpdlaaDoorWNEv
import Derived.Test.YtebpghpaglpdlaaDoorWMore
import Derived.Test.YtebpghpaglpdlaaDoorWSized
namespace Go.Proofs.YtebpghpaglpdlaaDoorQ.Opf
open Go.RowKit Go.Proofs.YtebpghpaglpdlaaDoorW.PrintWords Go.Proofs.YtebpghpaglpdlaaDoorW.PrintLast Go.Proofs.YtebpghpaglpdlaaDoorW.PrintMore
attribute [local go_sem] Go.IntKind.wrap_u8
attribute [local go_sem] max2_int min2_int max_two min_two max_three min_three max_four min_four   -- for this text's walks alone
set_option linter.unusedVariables false
set_option linter.unusedSimpArgs false



def errW : Option Int → Value
  | none => .nilIface
  | some c => .iface 0 (.int .i64 c)
theorem errW_none : errW none = .nilIface := rfl
theorem errW_some (c : Int) : errW (some c) = .iface 0 (.int .i64 c) := rfl

theorem info5 : (Tryd.prog.info? 5).map (fun i => (i.zero, i.size, i.bytes)) = some (some (.int .u8 0), 1, 1) := by kernel_rfl
-- the values' own types

end Go.Proofs.YtebpghpaglpdlaaDoorQ.Opf
