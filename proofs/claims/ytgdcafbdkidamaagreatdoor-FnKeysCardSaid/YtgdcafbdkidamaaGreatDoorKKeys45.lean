/- What the proof of FnKeys leans on, part 45: cut out of the texts of this claim's making by a program (wip/tools/pack.py). -/
import Derived.JoinedOf
import Derived.KernelRfl
import Derived.Test.YtgdcafbdkidamaaGreatDoorRows
section
namespace Go.Proofs.YtgdcafbdkidamaaGreatDoor.KF
open Go
set_option maxRecDepth 100000
set_option maxHeartbeats 4000000
theorem laidOut : laidOutB Tryz.prog = true := by kernel_rfl
theorem mapsRowed : Go.mapsRowed Tryz.prog = true := by kernel_rfl
theorem heard : Tryz.prog.stopsHeard = true := by kernel_rfl
theorem enter : Tryz.prog.mayEnter = true := by kernel_rfl
theorem lifts : (false == Tryz.prog.liftsFinal) = true := by kernel_rfl
theorem make : (Tryz.prog.make == some Make.cut) = true := by kernel_rfl
theorem plainKeys : (true == Tryz.prog.plainKeys) = true := by kernel_rfl
theorem own : ownKnob Tryz.prog.godebug = none := by kernel_rfl
theorem and_of {a b : Bool} (ha : a = true) (hb : b = true) : (a && b) = true := by rw [ha, hb]; rfl
end Go.Proofs.YtgdcafbdkidamaaGreatDoor.KF
end
