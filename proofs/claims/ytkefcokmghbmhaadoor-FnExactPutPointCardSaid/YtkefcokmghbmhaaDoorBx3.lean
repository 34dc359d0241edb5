-- laid by a program of this session's (wip/tools: mkprint.py, pr.py), out of Lean's own print of the translation
import Derived.Test.YtkefcokmghbmhaaDoorBx0
namespace Go.Proofs.YtkefcokmghbmhaaDoor.B
open Go.RowKit Go.Proofs.YtkefcokmghbmhaaDoor.H0 Go.Proofs.YtkefcokmghbmhaaDoor.G1 Go.Proofs.YtkefcokmghbmhaaDoor.F0 Go.Proofs.YtkefcokmghbmhaaDoorW.PrintWords Go.Proofs.YtkefcokmghbmhaaDoorW.PrintLast Go.Proofs.YtkefcokmghbmhaaDoorW.PrintMore
attribute [local go_sem high] field_num_fieldP   -- for this text's walks alone
attribute [local go_sem] max2_int min2_int max_two min_two max_three min_three max_four min_four   -- for this text's walks alone
set_option linter.unusedVariables false
set_option linter.unusedSimpArgs false

theorem eqA85 (d : Nat) (w : World) (x0 y0 : Int) :
    (Op.equalIn (d + 2) 85 (.agg #[.int .u64 x0]) (.agg #[.int .u64 y0])).run Tryd.prog w = .ok (x0 == y0) w := by
  refine eqA_of Tryd.underlying85 (by kernel_rfl) ?_
  exact eqf_last (by rfl) (by go_simp; rfl) (by go_simp; rfl) (by go_simp)
end Go.Proofs.YtkefcokmghbmhaaDoor.B
