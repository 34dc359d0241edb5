/- Both find the even root, or none. -/
import Derived.Test.YtflcfgoichhfgaaP4
import Derived.Test.YtflcfgoichhfgaaCx4
namespace Go.Proofs.Ytflcfgoichhfgaa.Pure
open Go.RowKit Go.Proofs.Ytflcfgoichhfgaa.B Go.Proofs.Ytflcfgoichhfgaa.C Go.Proofs.YtflcfgoichhfgaaW.PrintWords Go.Proofs.YtflcfgoichhfgaaW.PrintLast

theorem FnExactSqrt : laws_FnExactSqrt.Pure := by
  intro a ha
  have ha := u64_wf ha
  refine ⟨131, ?_⟩
  unfold laws_FnExactSqrt.f
  rw [sqrt_spec a ha.1 ha.2 (Nat.le_refl _), sqrt_impl a ha.1 ha.2 (by omega)]
  simp

end Go.Proofs.Ytflcfgoichhfgaa.Pure
