-- laid by a program of this session's (wip/tools: mkprint.py, pr.py), out of Lean's own print of the translation
import Derived.Test.YtpohkfcbnahefaaProg
import Derived.Below
import Derived.Deep.Draws
import Derived.Deep.AppendLies
import Derived.Maps.AppendAt
import Derived.OwnWalk
import Derived.Laws.BytesArg
import Derived.Laws.MakeOwn
import Derived.Laws.OwnMore
import Derived.Deep.OwnRows
import Derived.Tactics
import Derived.Lib.ConvBytes
import Derived.Laws.Slices
import Derived.WalkKit
import Derived.KernelRfl
import Derived.RowKit3
import Derived.Deep.LoopGhost
import Derived.Deep.QuietTactic
import Derived.BigQuiet
import Derived.WideLaws
import Derived.Deep.DeepCutAuto
import Derived.Deep.CutBlock
import Derived.Deep.RegionHeld3
import Derived.Laws.Rows
import Derived.Lib.AppendStr
import Derived.ArgAppend
import Derived.Laws.IdiomCopy
import Derived.OrdersHeld
import Derived.Laws.BitsLemmas
import Derived.RowKit
import Derived.Test.YtpohkfcbnahefaaWWords
import Derived.Test.YtpohkfcbnahefaaWLast
import Derived.Test.YtpohkfcbnahefaaWTab
import Derived.Test.YtpohkfcbnahefaaWFour
import Derived.Test.YtpohkfcbnahefaaWQPut
import Derived.Test.YtpohkfcbnahefaaWApart
import Derived.Test.YtpohkfcbnahefaaWArr
import Derived.Test.YtpohkfcbnahefaaWZeros
import Derived.Test.YtpohkfcbnahefaaWFoot
import Derived.Test.YtpohkfcbnahefaaWKept
import Derived.Test.YtpohkfcbnahefaaWShare
import Derived.Test.YtpohkfcbnahefaaWN
import Derived.Test.YtpohkfcbnahefaaWFootNe
import Derived.Test.YtpohkfcbnahefaaWAt
import Derived.Test.YtpohkfcbnahefaaWEqStruct
import Derived.Test.YtpohkfcbnahefaaWRepsOne
import Derived.Test.YtpohkfcbnahefaaWInv
import Derived.Test.YtpohkfcbnahefaaWInvWords
import Derived.Test.YtpohkfcbnahefaaWGuard
import Derived.Test.YtpohkfcbnahefaaWNEv
import Derived.Test.YtpohkfcbnahefaaWMore
namespace Go.Proofs.Ytpohkfcbnahefaa.Q
open Go.RowKit Go.Proofs.YtpohkfcbnahefaaW.PrintWords Go.Proofs.YtpohkfcbnahefaaW.PrintLast Go.Proofs.YtpohkfcbnahefaaW.PrintMore
attribute [local go_sem] max2_int min2_int max_two min_two max_three min_three max_four min_four   -- for this text's walks alone
set_option linter.unusedVariables false
set_option linter.unusedSimpArgs false



def errW : Option Int → Value
  | none => .nilIface
  | some c => .iface 0 (.int .i64 c)
theorem errW_none : errW none = .nilIface := rfl
theorem errW_some (c : Int) : errW (some c) = .iface 0 (.int .i64 c) := rfl

theorem info5 : (Try.prog.info? 5).map (fun i => (i.zero, i.size, i.bytes)) = some (some (.int .u8 0), 1, 1) := by kernel_rfl
-- the values' own types

end Go.Proofs.Ytpohkfcbnahefaa.Q
