-- laid by a program of this session's (wip/tools: mkprint.py, pr.py), out of Lean's own print of the translation
import Derived.Test.YtflcfgoichhfgaaProg
import Derived.Below
import Derived.Deep.Draws
import Derived.Deep.AppendLies
import Derived.Maps.AppendAt
import Derived.OwnWalk
import Derived.Laws.BytesArg
import Derived.Laws.MakeOwn
import Derived.Laws.OwnMore
import Derived.Deep.OwnRows
import Derived.Tactics
import Derived.Lib.ConvBytes
import Derived.Laws.Slices
import Derived.WalkKit
import Derived.KernelRfl
import Derived.RowKit3
import Derived.Deep.LoopGhost
import Derived.Deep.QuietTactic
import Derived.BigQuiet
import Derived.WideLaws
import Derived.Deep.DeepCutAuto
import Derived.Deep.CutBlock
import Derived.Deep.RegionHeld3
import Derived.Laws.Rows
import Derived.Lib.AppendStr
import Derived.ArgAppend
import Derived.Laws.IdiomCopy
import Derived.OrdersHeld
import Derived.Laws.BitsLemmas
import Derived.RowKit
import Derived.Test.YtflcfgoichhfgaaH0
import Derived.Test.YtflcfgoichhfgaaWWords
import Derived.Test.YtflcfgoichhfgaaWLast
import Derived.Test.YtflcfgoichhfgaaWTab
import Derived.Test.YtflcfgoichhfgaaWFour
import Derived.Test.YtflcfgoichhfgaaWQPut
import Derived.Test.YtflcfgoichhfgaaWApart
import Derived.Test.YtflcfgoichhfgaaWArr
import Derived.Test.YtflcfgoichhfgaaWZeros
import Derived.Test.YtflcfgoichhfgaaWFoot
import Derived.Test.YtflcfgoichhfgaaWKept
import Derived.Test.YtflcfgoichhfgaaWShare
import Derived.Test.YtflcfgoichhfgaaWN
import Derived.Test.YtflcfgoichhfgaaWFootNe
import Derived.Test.YtflcfgoichhfgaaWAt
import Derived.Test.YtflcfgoichhfgaaWEqStruct
import Derived.Test.YtflcfgoichhfgaaWRepsOne
import Derived.Test.YtflcfgoichhfgaaWInv
import Derived.Test.YtflcfgoichhfgaaWInvWords
import Derived.Test.YtflcfgoichhfgaaWGuard
import Derived.Test.YtflcfgoichhfgaaWNEv
import Derived.Test.YtflcfgoichhfgaaWMore
namespace Go.Proofs.Ytflcfgoichhfgaa.B
open Go.RowKit Go.Proofs.Ytflcfgoichhfgaa.H0 Go.Proofs.YtflcfgoichhfgaaW.PrintWords Go.Proofs.YtflcfgoichhfgaaW.PrintLast Go.Proofs.YtflcfgoichhfgaaW.PrintMore
attribute [local go_sem] max2_int min2_int max_two min_two max_three min_three max_four min_four   -- for this text's walks alone
set_option linter.unusedVariables false
set_option linter.unusedSimpArgs false



def errW : Option Int → Value
  | none => .nilIface
  | some c => .iface 0 (.int .i64 c)
theorem errW_none : errW none = .nilIface := rfl
theorem errW_some (c : Int) : errW (some c) = .iface 0 (.int .i64 c) := rfl

-- the values' own types

end Go.Proofs.Ytflcfgoichhfgaa.B
