-- Written by wip/tools/myprint.py of this project (the kit's printer with lines replaced in memory, and texts of ours)
import Derived.Test.YtdghbkffcmikhaaProg
import Derived.Below
import Derived.Deep.Draws
import Derived.Deep.AppendLies
import Derived.Maps.AppendAt
import Derived.OwnWalk
import Derived.Laws.BytesArg
import Derived.Laws.MakeOwn
import Derived.Laws.OwnMore
import Derived.Deep.OwnRows
import Derived.Tactics
import Derived.Lib.ConvBytes
import Derived.Laws.Slices
import Derived.WalkKit
import Derived.KernelRfl
import Derived.RowKit3
import Derived.Deep.LoopGhost
import Derived.Deep.QuietTactic
import Derived.BigQuiet
import Derived.WideLaws
import Derived.Deep.DeepCutAuto
import Derived.Deep.CutBlock
import Derived.Deep.RegionHeld3
import Derived.Laws.Rows
import Derived.Lib.AppendStr
import Derived.ArgAppend
import Derived.Laws.IdiomCopy
import Derived.OrdersHeld
import Derived.Laws.BitsLemmas
import Derived.RowKit
import Derived.Test.YtdghbkffcmikhaaWWords
import Derived.Test.YtdghbkffcmikhaaWLast
import Derived.Test.YtdghbkffcmikhaaWTab
import Derived.Test.YtdghbkffcmikhaaWFour
import Derived.Test.YtdghbkffcmikhaaWQPut
import Derived.Test.YtdghbkffcmikhaaWApart
import Derived.Test.YtdghbkffcmikhaaWArr
import Derived.Test.YtdghbkffcmikhaaWZeros
import Derived.Test.YtdghbkffcmikhaaWFoot
import Derived.Test.YtdghbkffcmikhaaWKept
import Derived.Test.YtdghbkffcmikhaaWShare
import Derived.Test.YtdghbkffcmikhaaWN
import Derived.Test.YtdghbkffcmikhaaWFootNe
import Derived.Test.YtdghbkffcmikhaaWAt
import Derived.Test.YtdghbkffcmikhaaWEqStruct
import Derived.Test.YtdghbkffcmikhaaWRepsOne
import Derived.Test.YtdghbkffcmikhaaWInv
import Derived.Test.YtdghbkffcmikhaaWInvWords
import Derived.Test.YtdghbkffcmikhaaWGuard
import Derived.Test.YtdghbkffcmikhaaWNEv
import Derived.Test.YtdghbkffcmikhaaWMore
namespace Go.Proofs.Ytdghbkffcmikhaa.QCostSums
open Go.RowKit Go.Proofs.YtdghbkffcmikhaaW.PrintWords Go.Proofs.YtdghbkffcmikhaaW.PrintLast Go.Proofs.YtdghbkffcmikhaaW.PrintMore
attribute [local go_sem] max2_int min2_int max_two min_two max_three min_three max_four min_four   -- for this text's walks alone
set_option linter.unusedVariables false
set_option linter.unusedSimpArgs false



def errW : Option Int → Value
  | none => .nilIface
  | some c => .iface 0 (.int .i64 c)
theorem errW_none : errW none = .nilIface := rfl
theorem errW_some (c : Int) : errW (some c) = .iface 0 (.int .i64 c) := rfl

theorem info3 : (Try.prog.info? 3).map (fun i => (i.zero, i.size, i.bytes)) = some (some (.int .i64 0), 1, 8) := by kernel_rfl
-- the values' own types

end Go.Proofs.Ytdghbkffcmikhaa.QCostSums
