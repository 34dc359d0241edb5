/- Both give the same power as the inverse. -/
import Derived.Test.YtflcfgoichhfgaaP4
import Derived.Test.YtflcfgoichhfgaaCx2
namespace Go.Proofs.Ytflcfgoichhfgaa.Pure
open Go.RowKit Go.Proofs.Ytflcfgoichhfgaa.B Go.Proofs.Ytflcfgoichhfgaa.C Go.Proofs.Ytflcfgoichhfgaa.H2 Go.Proofs.YtflcfgoichhfgaaW.PrintWords Go.Proofs.YtflcfgoichhfgaaW.PrintLast

theorem FnExactInvMod : laws_FnExactInvMod.Pure := by
  intro a m ha hm
  have ha := u64_wf ha
  have hm := u64_wf hm
  refine ⟨131, ?_⟩
  unfold laws_FnExactInvMod.f spec_InvMod.f impl_InvMod.f
  by_cases h : m < 2
  · rw [if_pos h, if_pos h]; rfl
  · rw [if_neg h, if_neg h, wu (by omega) (by omega)]
    rw [spec_powmod a (m - 2) m ha.1 (by omega) (by omega) hm.1 hm.2 (Nat.le_refl _), impl_powmod a (m - 2) m ha.1 ha.2 (by omega) (by omega) hm.1 hm.2]
    simp only [Option.bind_some, if_pos]

end Go.Proofs.Ytflcfgoichhfgaa.Pure
