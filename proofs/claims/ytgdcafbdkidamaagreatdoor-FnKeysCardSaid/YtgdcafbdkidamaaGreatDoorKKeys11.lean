/- What the proof of FnKeys leans on, part 11: cut out of the texts of this claim's making by a program (wip/tools/pack.py). -/
import Derived.KernelRfl
import Derived.Test.YtgdcafbdkidamaaGreatDoorProg
import Derived.WalkKit
section
namespace Go.Proofs.YtgdcafbdkidamaaGreatDoor.F0
open Go
theorem field_num_fieldP (x : Value) (w : World) : (Instr.field 101 (.agg #[x]) 0).run Tryz.prog w = .ok x w := by
  kernel_rfl
end Go.Proofs.YtgdcafbdkidamaaGreatDoor.F0
end
