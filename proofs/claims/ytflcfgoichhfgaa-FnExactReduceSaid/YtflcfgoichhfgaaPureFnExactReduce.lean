/- Both reduce a run of bytes the same way. -/
import Derived.Test.YtflcfgoichhfgaaP3
import Derived.Test.YtflcfgoichhfgaaBx3
namespace Go.Proofs.Ytflcfgoichhfgaa.Pure
open Go.RowKit Go.Proofs.Ytflcfgoichhfgaa.B Go.Proofs.YtflcfgoichhfgaaW.PrintWords Go.Proofs.YtflcfgoichhfgaaW.PrintLast

theorem FnExactReduce : laws_FnExactReduce.Pure := by
  intro a m _ hm
  have h := u64_wf hm
  refine ⟨700000, ?_⟩
  unfold laws_FnExactReduce.f
  split
  · rfl
  · rw [spec_reduce a m h.1 h.2 (Nat.le_refl _), impl_reduce a m h.1 h.2 (Nat.le_refl _)]
    simp only [Option.bind_some, if_pos]

end Go.Proofs.Ytflcfgoichhfgaa.Pure
