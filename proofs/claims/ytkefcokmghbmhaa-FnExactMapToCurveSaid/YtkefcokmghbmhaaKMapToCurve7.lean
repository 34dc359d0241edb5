/- What the proof of FnExactMapToCurve leans on, part 7: cut out of the texts of this claim's making by a program (wip/tools/pack.py). -/
import Derived.KernelRfl
import Derived.Test.YtkefcokmghbmhaaProg
import Derived.WalkKit
section
namespace Go.Proofs.Ytkefcokmghbmhaa.F0
open Go
theorem field_num_fieldP (x : Value) (w : World) : (Instr.field 34 (.agg #[x]) 0).run Try.prog w = .ok x w := by
  kernel_rfl
end Go.Proofs.Ytkefcokmghbmhaa.F0
end
