/- A point's text: the same for both. -/
import Derived.Test.YtkefcokmghbmhaaDoorPW
import Derived.Test.YtkefcokmghbmhaaDoorBx11
import Derived.Test.YtkefcokmghbmhaaDoorBx4
import Derived.OpenShut
namespace Go.Proofs.YtkefcokmghbmhaaDoor.Pure
open Go.RowKit Go.Proofs.YtkefcokmghbmhaaDoor.B Go.Proofs.YtkefcokmghbmhaaDoor.H0 Go.Proofs.YtkefcokmghbmhaaDoorW.PrintWords Go.Proofs.YtkefcokmghbmhaaDoorW.PrintLast Go.Proofs.YtkefcokmghbmhaaDoorW.PrintMore
theorem FnExactPutPoint (x y : Int) (inf : Bool) (hx : (Lit.int .u64 x).wf = true) (hy : (Lit.int .u64 y).wf = true) : ∃ k, laws_FnExactPutPoint.f k x y inf = some true := by
  have := bounds_u64 hx
  have := bounds_u64 hy
  refine ⟨40, ?_⟩
  unfold laws_FnExactPutPoint.f laws_toPoint.f
  simp only [Option.bind_some]
  rw [putPoint_spec x y inf (by omega) (by omega) (by omega) (by omega) (by omega), putPoint_impl x y inf (by omega) (by omega) (by omega) (by omega) (by omega)]
  simp
end Go.Proofs.YtkefcokmghbmhaaDoor.Pure
