-- laid by a program of this session's (wip/tools: mkprint.py, pr.py), out of Lean's own print of the translation
import Derived.Test.YtekobmjfodhmaaaProg
import Derived.Below
import Derived.Deep.Draws
import Derived.Deep.AppendLies
import Derived.Maps.AppendAt
import Derived.OwnWalk
import Derived.Laws.BytesArg
import Derived.Laws.MakeOwn
import Derived.Laws.OwnMore
import Derived.Deep.OwnRows
import Derived.Tactics
import Derived.Lib.ConvBytes
import Derived.Laws.Slices
import Derived.WalkKit
import Derived.KernelRfl
import Derived.RowKit3
import Derived.Deep.LoopGhost
import Derived.Deep.QuietTactic
import Derived.BigQuiet
import Derived.WideLaws
import Derived.Deep.DeepCutAuto
import Derived.Deep.CutBlock
import Derived.Deep.RegionHeld3
import Derived.Laws.Rows
import Derived.Lib.AppendStr
import Derived.ArgAppend
import Derived.Laws.IdiomCopy
import Derived.OrdersHeld
import Derived.Laws.BitsLemmas
import Derived.RowKit
import Derived.Test.YtekobmjfodhmaaaH0
import Derived.Test.YtekobmjfodhmaaaWWords
import Derived.Test.YtekobmjfodhmaaaWLast
import Derived.Test.YtekobmjfodhmaaaWTab
import Derived.Test.YtekobmjfodhmaaaWFour
import Derived.Test.YtekobmjfodhmaaaWQPut
import Derived.Test.YtekobmjfodhmaaaWApart
import Derived.Test.YtekobmjfodhmaaaWArr
import Derived.Test.YtekobmjfodhmaaaWZeros
import Derived.Test.YtekobmjfodhmaaaWFoot
import Derived.Test.YtekobmjfodhmaaaWKept
import Derived.Test.YtekobmjfodhmaaaWShare
import Derived.Test.YtekobmjfodhmaaaWN
import Derived.Test.YtekobmjfodhmaaaWFootNe
import Derived.Test.YtekobmjfodhmaaaWAt
import Derived.Test.YtekobmjfodhmaaaWEqStruct
import Derived.Test.YtekobmjfodhmaaaWRepsOne
import Derived.Test.YtekobmjfodhmaaaWInv
import Derived.Test.YtekobmjfodhmaaaWInvWords
import Derived.Test.YtekobmjfodhmaaaWGuard
import Derived.Test.YtekobmjfodhmaaaWNEv
import Derived.Test.YtekobmjfodhmaaaWMore
namespace Go.Proofs.Ytekobmjfodhmaaa.B
open Go.RowKit Go.Proofs.Ytekobmjfodhmaaa.H0 Go.Proofs.YtekobmjfodhmaaaW.PrintWords Go.Proofs.YtekobmjfodhmaaaW.PrintLast Go.Proofs.YtekobmjfodhmaaaW.PrintMore
attribute [local go_sem] max2_int min2_int max_two min_two max_three min_three max_four min_four   -- for this text's walks alone
set_option linter.unusedVariables false
set_option linter.unusedSimpArgs false



def errW : Option Int → Value
  | none => .nilIface
  | some c => .iface 0 (.int .i64 c)
theorem errW_none : errW none = .nilIface := rfl
theorem errW_some (c : Int) : errW (some c) = .iface 0 (.int .i64 c) := rfl

theorem info5 : (Try.prog.info? 5).map (fun i => (i.zero, i.size, i.bytes)) = some (some (.int .u8 0), 1, 1) := by kernel_rfl
-- the values' own types

end Go.Proofs.Ytekobmjfodhmaaa.B
