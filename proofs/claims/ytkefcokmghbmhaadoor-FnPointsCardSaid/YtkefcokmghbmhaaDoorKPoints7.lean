/- What the proof of FnPoints leans on, part 7: cut out of the texts of this claim's making by a program (wip/tools/pack.py). -/
import Derived.KernelRfl
import Derived.Test.YtkefcokmghbmhaaDoorProg
import Derived.WalkKit
section
namespace Go.Proofs.YtkefcokmghbmhaaDoor.F0
open Go
theorem field_num_fieldP (x : Value) (w : World) : (Instr.field 85 (.agg #[x]) 0).run Tryd.prog w = .ok x w := by
  kernel_rfl
end Go.Proofs.YtkefcokmghbmhaaDoor.F0
end
