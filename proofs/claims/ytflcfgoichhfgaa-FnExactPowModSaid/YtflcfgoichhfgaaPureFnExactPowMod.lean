/- Both give the power modulo m. -/
import Derived.Test.YtflcfgoichhfgaaP4
import Derived.Test.YtflcfgoichhfgaaCx2
namespace Go.Proofs.Ytflcfgoichhfgaa.Pure
open Go.RowKit Go.Proofs.Ytflcfgoichhfgaa.B Go.Proofs.Ytflcfgoichhfgaa.C Go.Proofs.YtflcfgoichhfgaaW.PrintWords Go.Proofs.YtflcfgoichhfgaaW.PrintLast

theorem FnExactPowMod : laws_FnExactPowMod.Pure := by
  intro a b m ha hb hm
  have ha := u64_wf ha
  have hb := u64_wf hb
  have hm := u64_wf hm
  refine ⟨131, ?_⟩
  unfold laws_FnExactPowMod.f
  rw [spec_powmod a b m ha.1 hb.1 hb.2 hm.1 hm.2 (Nat.le_refl _), impl_powmod a b m ha.1 ha.2 hb.1 hb.2 hm.1 hm.2]
  simp only [Option.bind_some, if_pos]

end Go.Proofs.Ytflcfgoichhfgaa.Pure
