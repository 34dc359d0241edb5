/- What the proof of FnGroup leans on, part 29: cut out of the texts of this claim's making by a program (wip/tools/pack.py). -/
import Derived.JoinedOf
import Derived.KernelRfl
import Derived.Test.YtoejhekppfgmpaaDoorRows
section
namespace Go.Proofs.YtoejhekppfgmpaaDoor.KF
open Go
set_option maxRecDepth 100000
set_option maxHeartbeats 4000000
theorem laidOut : laidOutB Tryd.prog = true := by kernel_rfl
theorem mapsRowed : Go.mapsRowed Tryd.prog = true := by kernel_rfl
theorem heard : Tryd.prog.stopsHeard = true := by kernel_rfl
theorem enter : Tryd.prog.mayEnter = true := by kernel_rfl
theorem lifts : (false == Tryd.prog.liftsFinal) = true := by kernel_rfl
theorem make : (Tryd.prog.make == some Make.cut) = true := by kernel_rfl
theorem plainKeys : (true == Tryd.prog.plainKeys) = true := by kernel_rfl
theorem own : ownKnob Tryd.prog.godebug = none := by kernel_rfl
theorem and_of {a b : Bool} (ha : a = true) (hb : b = true) : (a && b) = true := by rw [ha, hb]; rfl
end Go.Proofs.YtoejhekppfgmpaaDoor.KF
end
