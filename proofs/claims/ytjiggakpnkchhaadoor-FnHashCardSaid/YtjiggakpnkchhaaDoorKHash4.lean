/- What the proof of FnHash leans on, part 4: cut out of the texts of this claim's making by a program (wip/tools/pack.py). -/
import Derived.Test.YtjiggakpnkchhaaDoorKHash0
import Derived.Test.YtjiggakpnkchhaaDoorKHash1
import Derived.Test.YtjiggakpnkchhaaDoorKHash3
import Derived.Below
import Derived.KernelRfl
import Derived.WalkKit
section
namespace Go.Proofs.YtjiggakpnkchhaaDoor.H0
open Go.RowKit Go.Proofs.YtjiggakpnkchhaaDoorW.PrintWords
def bits_LeadingZeros64.f (a : Int) : Option Int := if 0 ≤ a then if a ≤ 18446744073709551615 then some (64 - (Lib.bitLen a.toNat : Int)) else none else none
theorem bits_LeadingZeros64.calls (a r : Int) (w : World) (h : bits_LeadingZeros64.f a = some r) :
    Calls Tryd.prog 132 #[.int .u64 a] w fun e w' => e = .returned (.int .i64 r) ∧ Drawn0 w w' := by
  unfold bits_LeadingZeros64.f at h
  split at h
  · split at h
    · obtain rfl := Option.some.inj h
      refine (Tryd.bits_LeadingZeros64 a w (by assumption) (by assumption)).mono ?_
      rintro e w' ⟨rfl, rfl⟩
      exact ⟨rfl, Drawn0.refl _⟩
    · cases h
  · cases h

end Go.Proofs.YtjiggakpnkchhaaDoor.H0
end
