/- The negative of a point: the same for both. -/
import Derived.Test.YtkefcokmghbmhaaDoorPW
import Derived.Test.YtkefcokmghbmhaaDoorBx10
import Derived.Test.YtkefcokmghbmhaaDoorBx4
import Derived.Test.YtkefcokmghbmhaaDoorBx9
import Derived.OpenShut
namespace Go.Proofs.YtkefcokmghbmhaaDoor.Pure
set_option linter.unusedVariables false
open Go.RowKit Go.Proofs.YtkefcokmghbmhaaDoor.B Go.Proofs.YtkefcokmghbmhaaDoor.H0 Go.Proofs.YtkefcokmghbmhaaDoorW.PrintWords Go.Proofs.YtkefcokmghbmhaaDoorW.PrintLast Go.Proofs.YtkefcokmghbmhaaDoorW.PrintMore
theorem negative_impl (x y : Int) (inf : Bool) (hx0 : 0 ≤ x) (hx : x < 18446744073709551616) (hy0 : 0 ≤ y) (hy : y < 18446744073709551616) {k : Nat} (hk : 11 ≤ k) :
    impl_Negative.f k x y inf = some (ngt x y inf) := by
  unfold impl_Negative.f ngt
  rw [onCurve_impl x y inf hx0 hx hy0 hy hk]; simp only [Option.bind_some]
  by_cases h : oc x y inf = true
  · rw [if_pos h]
    cases inf
    · have h2 := h
      rw [oc_f, decide_eq_true_eq] at h2
      rw [if_neg (by simp), negate_P y hy0 h2.2.1]; simp only [Option.bind_some]
      rw [bool_u hy0 h2.2.1]; simp [h]
    · rw [oc_t, decide_eq_true_eq] at h
      rw [if_pos (by simp [h.1, h.2]), if_neg (by simp)]
  · rw [if_neg h, if_neg (fun e => h e.1)]
theorem negative_spec (x y : Int) (inf : Bool) (hx0 : 0 ≤ x) (hx : x < 18446744073709551616) (hy0 : 0 ≤ y) (hy : y < 18446744073709551616) :
    spec_Negative.f x y inf = some (ngt x y inf) := by
  unfold spec_Negative.f ngt
  rw [onCurve_spec x y inf hx0 hy0]; simp only [Option.bind_some]
  by_cases h : oc x y inf = true
  · rw [if_pos h]
    cases inf
    · have h2 := h
      rw [oc_f, decide_eq_true_eq] at h2
      rw [if_neg (by decide), wu (by omega) (by omega), Int.tmod_eq_emod_of_nonneg (by omega)]; simp [h]
    · rw [if_pos rfl, if_neg (by simp)]; rfl
  · rw [if_neg h, if_neg (fun e => h e.1)]; rfl
theorem FnExactNegative (x y : Int) (inf : Bool) (hx : (Lit.int .u64 x).wf = true) (hy : (Lit.int .u64 y).wf = true) : ∃ k, laws_FnExactNegative.f k x y inf = some true := by
  have := bounds_u64 hx
  have := bounds_u64 hy
  refine ⟨40, ?_⟩
  unfold laws_FnExactNegative.f laws_toPoint.f
  simp only [Option.bind_some]
  rw [negative_spec x y inf (by omega) (by omega) (by omega) (by omega), negative_impl x y inf (by omega) (by omega) (by omega) (by omega) (by omega)]
  simp [laws_eqPoint.f]
end Go.Proofs.YtkefcokmghbmhaaDoor.Pure
