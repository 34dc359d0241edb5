-- laid by a program of this session's (wip/tools: mkprint.py, pr.py), out of Lean's own print of the translation
import Derived.Test.YtkefcokmghbmhaaDoorProg
import Derived.Below
import Derived.Deep.Draws
import Derived.Deep.AppendLies
import Derived.Maps.AppendAt
import Derived.OwnWalk
import Derived.Laws.BytesArg
import Derived.Laws.MakeOwn
import Derived.Laws.OwnMore
import Derived.Deep.OwnRows
import Derived.Tactics
import Derived.Lib.ConvBytes
import Derived.Laws.Slices
import Derived.WalkKit
import Derived.KernelRfl
import Derived.RowKit3
import Derived.Deep.LoopGhost
import Derived.Deep.QuietTactic
import Derived.BigQuiet
import Derived.WideLaws
import Derived.Deep.DeepCutAuto
import Derived.Deep.CutBlock
import Derived.Deep.RegionHeld3
import Derived.Laws.Rows
import Derived.Lib.AppendStr
import Derived.ArgAppend
import Derived.Laws.IdiomCopy
import Derived.OrdersHeld
import Derived.Laws.BitsLemmas
import Derived.RowKit
import Derived.Test.YtkefcokmghbmhaaDoorH0
import Derived.Test.YtkefcokmghbmhaaDoorG1
import Derived.Test.YtkefcokmghbmhaaDoorF0
import Derived.Test.YtkefcokmghbmhaaDoorWWords
import Derived.Test.YtkefcokmghbmhaaDoorWLast
import Derived.Test.YtkefcokmghbmhaaDoorWTab
import Derived.Test.YtkefcokmghbmhaaDoorWFour
import Derived.Test.YtkefcokmghbmhaaDoorWQPut
import Derived.Test.YtkefcokmghbmhaaDoorWApart
import Derived.Test.YtkefcokmghbmhaaDoorWArr
import Derived.Test.YtkefcokmghbmhaaDoorWZeros
import Derived.Test.YtkefcokmghbmhaaDoorWFoot
import Derived.Test.YtkefcokmghbmhaaDoorWKept
import Derived.Test.YtkefcokmghbmhaaDoorWShare
import Derived.Test.YtkefcokmghbmhaaDoorWN
import Derived.Test.YtkefcokmghbmhaaDoorWFootNe
import Derived.Test.YtkefcokmghbmhaaDoorWAt
import Derived.Test.YtkefcokmghbmhaaDoorWEqStruct
import Derived.Test.YtkefcokmghbmhaaDoorWRepsOne
import Derived.Test.YtkefcokmghbmhaaDoorWInv
import Derived.Test.YtkefcokmghbmhaaDoorWInvWords
import Derived.Test.YtkefcokmghbmhaaDoorWGuard
import Derived.Test.YtkefcokmghbmhaaDoorWNEv
import Derived.Test.YtkefcokmghbmhaaDoorWMore
namespace Go.Proofs.YtkefcokmghbmhaaDoor.B
open Go.RowKit Go.Proofs.YtkefcokmghbmhaaDoor.H0 Go.Proofs.YtkefcokmghbmhaaDoor.G1 Go.Proofs.YtkefcokmghbmhaaDoor.F0 Go.Proofs.YtkefcokmghbmhaaDoorW.PrintWords Go.Proofs.YtkefcokmghbmhaaDoorW.PrintLast Go.Proofs.YtkefcokmghbmhaaDoorW.PrintMore
attribute [local go_sem high] field_num_fieldP   -- for this text's walks alone
attribute [local go_sem] max2_int min2_int max_two min_two max_three min_three max_four min_four   -- for this text's walks alone
set_option linter.unusedVariables false
set_option linter.unusedSimpArgs false



def errW : Option Int → Value
  | none => .nilIface
  | some c => .iface 0 (.int .i64 c)
theorem errW_none : errW none = .nilIface := rfl
theorem errW_some (c : Int) : errW (some c) = .iface 0 (.int .i64 c) := rfl

theorem info5 : (Tryd.prog.info? 5).map (fun i => (i.zero, i.size, i.bytes)) = some (some (.int .u8 0), 1, 1) := by kernel_rfl
theorem info9 : (Tryd.prog.info? 9).map (fun i => (i.zero, i.size, i.bytes)) = some (some (.string ⟨#[]⟩), 1, 16) := by kernel_rfl
theorem info91 : (Tryd.prog.info? 91).map (fun i => (i.zero, i.size, i.bytes)) = some (some (.int .u32 0), 1, 4) := by kernel_rfl
-- the values' own types

end Go.Proofs.YtkefcokmghbmhaaDoor.B
