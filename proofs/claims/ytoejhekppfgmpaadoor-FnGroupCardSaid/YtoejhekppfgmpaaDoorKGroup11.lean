/- What the proof of FnGroup leans on, part 11: cut out of the texts of this claim's making by a program (wip/tools/pack.py). -/
import Derived.KernelRfl
import Derived.Test.YtoejhekppfgmpaaDoorProg
import Derived.WalkKit
section
namespace Go.Proofs.YtoejhekppfgmpaaDoor.F0
open Go
theorem field_num_fieldP (x : Value) (w : World) : (Instr.field 94 (.agg #[x]) 0).run Tryd.prog w = .ok x w := by
  kernel_rfl
end Go.Proofs.YtoejhekppfgmpaaDoor.F0
end
