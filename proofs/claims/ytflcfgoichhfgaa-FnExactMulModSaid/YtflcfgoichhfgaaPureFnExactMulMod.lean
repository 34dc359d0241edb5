/- Both give the product modulo m. -/
import Derived.Test.YtflcfgoichhfgaaP3
import Derived.Test.YtflcfgoichhfgaaBx4
namespace Go.Proofs.Ytflcfgoichhfgaa.Pure
open Go.RowKit Go.Proofs.Ytflcfgoichhfgaa.B Go.Proofs.YtflcfgoichhfgaaW.PrintWords Go.Proofs.YtflcfgoichhfgaaW.PrintLast

theorem FnExactMulMod : laws_FnExactMulMod.Pure := by
  intro a b m ha hb hm
  have ha := u64_wf ha
  have hb := u64_wf hb
  have hm := u64_wf hm
  refine ⟨66, ?_⟩
  unfold laws_FnExactMulMod.f
  rw [spec_mulmod a b m ha.1 hb.1 hm.1 hm.2 (Nat.le_refl _), mulmod a b m ha.1 ha.2 hb.1 hb.2 hm.1 hm.2 (by omega)]
  simp only [Option.bind_some, if_pos]

end Go.Proofs.Ytflcfgoichhfgaa.Pure
