-- Printed by wip/tools/myprint.py (this session's program over the kit's printer).
import Derived.Test.YtcgknibjbnijmaaProg
import Derived.Below
import Derived.Deep.Draws
import Derived.Deep.AppendLies
import Derived.Maps.AppendAt
import Derived.OwnWalk
import Derived.Laws.BytesArg
import Derived.Laws.MakeOwn
import Derived.Laws.OwnMore
import Derived.Deep.OwnRows
import Derived.Tactics
import Derived.Lib.ConvBytes
import Derived.Laws.Slices
import Derived.WalkKit
import Derived.KernelRfl
import Derived.RowKit3
import Derived.Deep.LoopGhost
import Derived.Deep.QuietTactic
import Derived.BigQuiet
import Derived.WideLaws
import Derived.Deep.DeepCutAuto
import Derived.Deep.CutBlock
import Derived.Deep.RegionHeld3
import Derived.Laws.Rows
import Derived.Lib.AppendStr
import Derived.ArgAppend
import Derived.Laws.IdiomCopy
import Derived.OrdersHeld
import Derived.Laws.BitsLemmas
import Derived.RowKit
import Derived.Test.YtcgknibjbnijmaaWWords
import Derived.Test.YtcgknibjbnijmaaWLast
import Derived.Test.YtcgknibjbnijmaaWTab
import Derived.Test.YtcgknibjbnijmaaWFour
import Derived.Test.YtcgknibjbnijmaaWQPut
import Derived.Test.YtcgknibjbnijmaaWApart
import Derived.Test.YtcgknibjbnijmaaWArr
import Derived.Test.YtcgknibjbnijmaaWZeros
import Derived.Test.YtcgknibjbnijmaaWFoot
import Derived.Test.YtcgknibjbnijmaaWKept
import Derived.Test.YtcgknibjbnijmaaWShare
import Derived.Test.YtcgknibjbnijmaaWN
import Derived.Test.YtcgknibjbnijmaaWFootNe
import Derived.Test.YtcgknibjbnijmaaWAt
import Derived.Test.YtcgknibjbnijmaaWEqStruct
import Derived.Test.YtcgknibjbnijmaaWRepsOne
import Derived.Test.YtcgknibjbnijmaaWInv
import Derived.Test.YtcgknibjbnijmaaWInvWords
import Derived.Test.YtcgknibjbnijmaaWGuard
import Derived.Test.YtcgknibjbnijmaaWNEv
import Derived.Test.YtcgknibjbnijmaaWMore
namespace Go.Proofs.Ytcgknibjbnijmaa.QPNeeds
open Go.RowKit Go.Proofs.YtcgknibjbnijmaaW.PrintWords Go.Proofs.YtcgknibjbnijmaaW.PrintLast Go.Proofs.YtcgknibjbnijmaaW.PrintMore
attribute [local go_sem] max2_int min2_int max_two min_two max_three min_three max_four min_four   -- for this text's walks alone
set_option linter.unusedVariables false
set_option linter.unusedSimpArgs false



def errW : Option Int → Value
  | none => .nilIface
  | some c => .iface 0 (.int .i64 c)
theorem errW_none : errW none = .nilIface := rfl
theorem errW_some (c : Int) : errW (some c) = .iface 0 (.int .i64 c) := rfl

theorem info3 : (Try.prog.info? 3).map (fun i => (i.zero, i.size, i.bytes)) = some (some (.int .i64 0), 1, 8) := by kernel_rfl
-- the values' own types

end Go.Proofs.Ytcgknibjbnijmaa.QPNeeds
