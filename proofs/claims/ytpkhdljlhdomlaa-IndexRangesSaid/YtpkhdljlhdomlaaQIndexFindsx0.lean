-- Written by wip/tools/myprint.py of this project (the kit's printer with lines replaced in memory, and texts of ours)
import Derived.Test.YtpkhdljlhdomlaaProg
import Derived.Below
import Derived.Deep.Draws
import Derived.Deep.AppendLies
import Derived.Maps.AppendAt
import Derived.OwnWalk
import Derived.Laws.BytesArg
import Derived.Laws.MakeOwn
import Derived.Laws.OwnMore
import Derived.Deep.OwnRows
import Derived.Tactics
import Derived.Lib.ConvBytes
import Derived.Laws.Slices
import Derived.WalkKit
import Derived.KernelRfl
import Derived.RowKit3
import Derived.Deep.LoopGhost
import Derived.Deep.QuietTactic
import Derived.BigQuiet
import Derived.WideLaws
import Derived.Deep.DeepCutAuto
import Derived.Deep.CutBlock
import Derived.Deep.RegionHeld3
import Derived.Laws.Rows
import Derived.Lib.AppendStr
import Derived.ArgAppend
import Derived.Laws.IdiomCopy
import Derived.OrdersHeld
import Derived.Laws.BitsLemmas
import Derived.RowKit
import Derived.Laws.Cover1
import Derived.Deep.RegionWith
import Derived.Test.YtpkhdljlhdomlaaWWords
import Derived.Test.YtpkhdljlhdomlaaWLast
import Derived.Test.YtpkhdljlhdomlaaWTab
import Derived.Test.YtpkhdljlhdomlaaWFour
import Derived.Test.YtpkhdljlhdomlaaWQPut
import Derived.Test.YtpkhdljlhdomlaaWApart
import Derived.Test.YtpkhdljlhdomlaaWArr
import Derived.Test.YtpkhdljlhdomlaaWZeros
import Derived.Test.YtpkhdljlhdomlaaWFoot
import Derived.Test.YtpkhdljlhdomlaaWKept
import Derived.Test.YtpkhdljlhdomlaaWShare
import Derived.Test.YtpkhdljlhdomlaaWN
import Derived.Test.YtpkhdljlhdomlaaWFootNe
import Derived.Test.YtpkhdljlhdomlaaWAt
import Derived.Test.YtpkhdljlhdomlaaWEqStruct
import Derived.Test.YtpkhdljlhdomlaaWRepsOne
import Derived.Test.YtpkhdljlhdomlaaWInv
import Derived.Test.YtpkhdljlhdomlaaWInvWords
import Derived.Test.YtpkhdljlhdomlaaWGuard
import Derived.Test.YtpkhdljlhdomlaaWNEv
import Derived.Test.YtpkhdljlhdomlaaWMore
namespace Go.Proofs.Ytpkhdljlhdomlaa.QIndexFinds
open Go.RowKit Go.Proofs.YtpkhdljlhdomlaaW.PrintWords Go.Proofs.YtpkhdljlhdomlaaW.PrintLast Go.Proofs.YtpkhdljlhdomlaaW.PrintMore
attribute [local go_sem] max2_int min2_int max_two min_two max_three min_three max_four min_four   -- for this text's walks alone
set_option linter.unusedVariables false
set_option linter.unusedSimpArgs false



def errW : Option Int → Value
  | none => .nilIface
  | some c => .iface 0 (.int .i64 c)
theorem errW_none : errW none = .nilIface := rfl
theorem errW_some (c : Int) : errW (some c) = .iface 0 (.int .i64 c) := rfl

theorem info3 : (Try.prog.info? 3).map (fun i => (i.zero, i.size, i.bytes)) = some (some (.int .i64 0), 1, 8) := by kernel_rfl
-- the values' own types

end Go.Proofs.Ytpkhdljlhdomlaa.QIndexFinds
