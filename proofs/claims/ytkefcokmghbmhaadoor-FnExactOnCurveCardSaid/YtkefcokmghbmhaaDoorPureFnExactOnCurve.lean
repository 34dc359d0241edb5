/- Whether a point is of the curve: the same for both. -/
import Derived.Test.YtkefcokmghbmhaaDoorP6
import Derived.Test.YtkefcokmghbmhaaDoorBx9
import Derived.Test.YtkefcokmghbmhaaDoorBx4
import Derived.OpenShut
namespace Go.Proofs.YtkefcokmghbmhaaDoor.Pure
open Go.RowKit Go.Proofs.YtkefcokmghbmhaaDoor.B Go.Proofs.YtkefcokmghbmhaaDoor.H0 Go.Proofs.YtkefcokmghbmhaaDoorW.PrintWords Go.Proofs.YtkefcokmghbmhaaDoorW.PrintLast Go.Proofs.YtkefcokmghbmhaaDoorW.PrintMore
theorem FnExactOnCurve (x y : Int) (inf : Bool) (hx : (Lit.int .u64 x).wf = true) (hy : (Lit.int .u64 y).wf = true) : ∃ k, laws_FnExactOnCurve.f k x y inf = some true := by
  have := bounds_u64 hx
  have := bounds_u64 hy
  refine ⟨20, ?_⟩
  unfold laws_FnExactOnCurve.f laws_toPoint.f
  simp only [Option.bind_some]
  rw [onCurve_spec x y inf (by omega) (by omega), onCurve_impl x y inf (by omega) (by omega) (by omega) (by omega) (by omega)]
  simp
end Go.Proofs.YtkefcokmghbmhaaDoor.Pure
