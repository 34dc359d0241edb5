/- The field of a value that stands in no variable. -/
import Derived.Test.YtkefcokmghbmhaaDoorProg
import Derived.WalkKit
import Derived.KernelRfl
namespace Go.Proofs.YtkefcokmghbmhaaDoor.F0
open Go
theorem field_num_fieldP (x : Value) (w : World) : (Instr.field 85 (.agg #[x]) 0).run Tryd.prog w = .ok x w := by
  kernel_rfl
end Go.Proofs.YtkefcokmghbmhaaDoor.F0
