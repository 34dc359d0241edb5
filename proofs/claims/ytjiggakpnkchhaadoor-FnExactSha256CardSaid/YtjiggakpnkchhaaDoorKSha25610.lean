/- What the proof of FnExactSha256 leans on, part 10: cut out of the texts of this claim's making by a program (wip/tools/pack.py). -/
import Derived.Test.YtjiggakpnkchhaaDoorKSha2569
import Derived.OpenShut
section
namespace Go.Proofs.YtjiggakpnkchhaaDoor.Pure
open Go.RowKit Go.Proofs.YtjiggakpnkchhaaDoor.C Go.Proofs.YtjiggakpnkchhaaDoor.KG2 Go.Proofs.YtjiggakpnkchhaaDoorW.PrintWords Go.Proofs.YtjiggakpnkchhaaDoorW.PrintLast Go.Proofs.YtjiggakpnkchhaaDoorW.PrintMore
set_option linter.unusedVariables false
theorem FnExactSha256 (a : ByteArray) (h : a.size ≤ 140737488351232) : ∃ k : Nat, laws_FnExactSha256.f a = some true := by
  refine ⟨0, ?_⟩
  unfold laws_FnExactSha256.f
  by_cases hs : (a.size : Int) > 1048576
  · rw [if_pos hs]
  · have hl : a.size < 274877906944 := by omega
    rw [if_neg hs]
    unfold spec_Sha256.f impl_Sha256.f
    rw [if_pos hl, Option.bind_some, Option.bind_some, if_pos rfl]
end Go.Proofs.YtjiggakpnkchhaaDoor.Pure
end
