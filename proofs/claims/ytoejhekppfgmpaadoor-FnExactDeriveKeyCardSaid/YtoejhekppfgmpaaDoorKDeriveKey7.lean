/- What the proof of FnExactDeriveKey leans on, part 7: cut out of the texts of this claim's making by a program (wip/tools/pack.py). -/
import Derived.Test.YtoejhekppfgmpaaDoorKDeriveKey0
import Derived.Test.YtoejhekppfgmpaaDoorKDeriveKey2
import Derived.Test.YtoejhekppfgmpaaDoorKDeriveKey6
import Derived.Below
import Derived.KernelRfl
import Derived.WalkKit
section
namespace Go.Proofs.YtoejhekppfgmpaaDoor.H0
open Go.RowKit Go.Proofs.YtoejhekppfgmpaaDoorW.PrintWords
def bits_LeadingZeros64.f (a : Int) : Option Int := if 0 ≤ a then if a ≤ 18446744073709551615 then some (64 - (Lib.bitLen a.toNat : Int)) else none else none
theorem bits_LeadingZeros64.calls (a r : Int) (w : World) (h : bits_LeadingZeros64.f a = some r) :
    Calls Tryd.prog 165 #[.int .u64 a] w fun e w' => e = .returned (.int .i64 r) ∧ Drawn0 w w' := by
  unfold bits_LeadingZeros64.f at h
  split at h
  · split at h
    · obtain rfl := Option.some.inj h
      refine (Tryd.bits_LeadingZeros64 a w (by assumption) (by assumption)).mono ?_
      rintro e w' ⟨rfl, rfl⟩
      exact ⟨rfl, Drawn0.refl _⟩
    · cases h
  · cases h

end Go.Proofs.YtoejhekppfgmpaaDoor.H0
end
section
namespace Go.Proofs.YtoejhekppfgmpaaDoor.G1
open Go Go.RowKit Go.Proofs.YtoejhekppfgmpaaDoorW.PrintWords Go.Proofs.YtoejhekppfgmpaaDoorW.PrintLast Go.Proofs.YtoejhekppfgmpaaDoorW.PrintMore
/-- The zero point's variable. -/
def Z (w : World) : Prop := ∃ t fr, w.heap[0]? = some (.cells #[.int .u64 0, .int .u64 0, .bool true] t fr)
def G (w : World) : Prop := Z w
theorem G_of_heap {w W : World} (hG : G w) (h : W.heap[0]? = w.heap[0]?) : G W := by
  obtain ⟨t, fr, hz⟩ := hG
  exact ⟨t, fr, h.trans hz⟩
theorem G_lt {w : World} (hG : G w) : 0 < w.heap.size := by
  obtain ⟨t, fr, hz⟩ := hG
  exact (Array.getElem?_eq_some_iff.1 hz).1
theorem G_below {w W : World} (h : Below w.heap.size w W) (hG : G w) : G W := G_of_heap hG (h.block _ (G_lt hG))
end Go.Proofs.YtoejhekppfgmpaaDoor.G1
end
