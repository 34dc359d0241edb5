/- Powers and roots: what the program's functions of numbers give. -/
import Derived.Test.YtekobmjfodhmaaaP3
import Derived.Test.YtekobmjfodhmaaaH2
import Derived.Test.YtekobmjfodhmaaaH3
import Derived.Test.YtekobmjfodhmaaaCx2
import Derived.Test.YtekobmjfodhmaaaCx3
import Derived.Test.YtekobmjfodhmaaaCx4
import Derived.Test.YtekobmjfodhmaaaBx7
namespace Go.Proofs.Ytekobmjfodhmaaa.Pure
open Go.RowKit Go.Proofs.Ytekobmjfodhmaaa.B Go.Proofs.Ytekobmjfodhmaaa.C Go.Proofs.Ytekobmjfodhmaaa.H0 Go.Proofs.Ytekobmjfodhmaaa.H1 Go.Proofs.Ytekobmjfodhmaaa.H2 Go.Proofs.Ytekobmjfodhmaaa.H3 Go.Proofs.YtekobmjfodhmaaaW.PrintWords Go.Proofs.YtekobmjfodhmaaaW.PrintLast Go.Proofs.YtekobmjfodhmaaaW.PrintMore
set_option linter.unusedVariables false
set_option linter.unusedSimpArgs false

theorem impl_powmod (a e m : Int) (ha0 : 0 ≤ a) (ha : a < 18446744073709551616) (he0 : 0 ≤ e) (he : e < 18446744073709551616) (hm0 : 0 ≤ m) (hm : m < 18446744073709551616) :
    impl_PowMod.f a e m = some (if m = 0 then 0 else a ^ e.toNat % m) := by
  unfold impl_PowMod.f
  rw [if_pos ⟨ha0, ha, he0, he, hm0, hm⟩]
  by_cases h : m = 0
  · rw [if_pos h, if_pos h]
  · rw [if_neg h, if_neg h, pfold_eq a e m he0 he h]

/-- a power modulo P; the exponents in use are above 64 bits' half, so they are kept as they are -/
theorem power_P (a e : Int) (ha0 : 0 ≤ a) (ha : a < 18446744073709551616) (he0 : 0 ≤ e) (he : e < 18446744073709551616) :
    impl_num_impl_fieldP_power.f a e = some (a ^ e.toNat % 2305843009213693951) := by
  unfold impl_num_impl_fieldP_power.f
  rw [if_pos ⟨ha0, ha, he0, he⟩, pfold_eq a e primefieldP he0 he (by decide)]

theorem times_P (a b : Int) (ha0 : 0 ≤ a) (ha : a < 18446744073709551616) (hb0 : 0 ≤ b) (hb : b < 18446744073709551616) {k : Nat} (hk : 10 ≤ k) :
    impl_num_impl_fieldP_times.f k a b = some (a * b % 2305843009213693951) := by
  simp only [impl_num_impl_fieldP_times.f, impl_prime_impl_fieldP.f, Option.bind_some]
  rw [mulmod a b primefieldP ha0 ha hb0 hb (by decide) (by decide) hk]; rfl

theorem negative_P (a : Int) (ha0 : 0 ≤ a) (ha : a < 2305843009213693951) :
    impl_num_impl_fieldP_negative.f a = some (if a = 0 then 0 else 2305843009213693951 - a) := by
  simp only [impl_num_impl_fieldP_negative.f, impl_prime_impl_fieldP.f, Option.bind_some]
  by_cases h : a = 0
  · rw [if_pos h, if_pos h, h]
  · rw [if_neg h, if_neg h, show primefieldP = 2305843009213693951 from rfl, wu (by omega) (by omega)]

theorem neg_sq (r : Int) : (2305843009213693951 - r) * (2305843009213693951 - r) % 2305843009213693951 = r * r % 2305843009213693951 := by
  rw [show (2305843009213693951 - r) * (2305843009213693951 - r) = r * r + 2305843009213693951 * (2305843009213693951 - 2 * r) by grind, Int.add_mul_emod_self_left]

/-- the even one of two roots -/
def even (r : Int) : Int := if r % 2 = 1 then 2305843009213693951 - r else r

theorem root_P (a : Int) (ha0 : 0 ≤ a) (ha : a < 18446744073709551616) {k : Nat} (hk : 10 ≤ k) :
    impl_num_impl_fieldP_root.f k a = some (even (a ^ 576460752303423488 % 2305843009213693951), (a ^ 576460752303423488 % 2305843009213693951) * (a ^ 576460752303423488 % 2305843009213693951) % 2305843009213693951 == a) := by
  simp only [impl_num_impl_fieldP_root.f, impl_prime_impl_fieldP.f, Option.bind_some]
  rw [show IntKind.u64.wrap (Int.tdiv (IntKind.u64.wrap (primefieldP + 1)) 4) = 576460752303423488 by decide]
  rw [power_P a 576460752303423488 ha0 ha (by decide) (by decide)]
  have e : Int.toNat 576460752303423488 = 576460752303423488 := by decide
  rw [e]
  simp only [Option.bind_some]
  have r0 := Int.emod_nonneg (a ^ 576460752303423488) (show (2305843009213693951 : Int) ≠ 0 by decide)
  have r1 := Int.emod_lt_of_pos (a ^ 576460752303423488) (show (0 : Int) < 2305843009213693951 by decide)
  generalize a ^ 576460752303423488 % 2305843009213693951 = r at *
  rw [Int.tmod_eq_emod_of_nonneg r0]
  unfold even
  by_cases h : r % 2 = 1
  · rw [if_pos h, if_pos h, negative_P r r0 r1, if_neg (by omega)]
    simp only [Option.bind_some]
    rw [times_P _ _ (by omega) (by omega) (by omega) (by omega) hk]
    simp only [Option.bind_some]
    rw [neg_sq]
  · rw [if_neg h, if_neg h, times_P _ _ (by omega) (by omega) (by omega) (by omega) hk]
    simp only [Option.bind_some]

theorem sqrt_impl (a : Int) (ha0 : 0 ≤ a) (ha : a < 18446744073709551616) {k : Nat} (hk : 10 ≤ k) :
    impl_Sqrt.f k a = some (if a ≥ 2305843009213693951 then (0, false) else if (a ^ 576460752303423488 % 2305843009213693951) * (a ^ 576460752303423488 % 2305843009213693951) % 2305843009213693951 = a then (even (a ^ 576460752303423488 % 2305843009213693951), true) else (0, false)) := by
  unfold impl_Sqrt.f
  by_cases h : a ≥ 2305843009213693951
  · rw [if_pos h, if_pos h]
  · rw [if_neg h, if_neg h, root_P a ha0 ha hk]
    simp only [Option.bind_some, beq_iff_eq]
    split <;> rfl

theorem sqrt_spec (a : Int) (ha0 : 0 ≤ a) (ha : a < 18446744073709551616) {k : Nat} (hk : 131 ≤ k) :
    spec_Sqrt.f k a = some (if a ≥ 2305843009213693951 then (0, false) else if (a ^ 576460752303423488 % 2305843009213693951) * (a ^ 576460752303423488 % 2305843009213693951) % 2305843009213693951 = a then (even (a ^ 576460752303423488 % 2305843009213693951), true) else (0, false)) := by
  unfold spec_Sqrt.f
  by_cases h : a ≥ 2305843009213693951
  · rw [if_pos h, if_pos h]
  · rw [if_neg h, if_neg h, spec_powmod a 576460752303423488 2305843009213693951 ha0 (by decide) (by decide) (by decide) (by decide) hk]
    have e : Int.toNat 576460752303423488 = 576460752303423488 := by decide
    rw [e, if_neg (by decide)]
    simp only [Option.bind_some]
    have r0 := Int.emod_nonneg (a ^ 576460752303423488) (show (2305843009213693951 : Int) ≠ 0 by decide)
    have r1 := Int.emod_lt_of_pos (a ^ 576460752303423488) (show (0 : Int) < 2305843009213693951 by decide)
    generalize a ^ 576460752303423488 % 2305843009213693951 = r at *
    rw [l2Times r0 r1 r0 r1, Int.tmod_eq_emod_of_nonneg r0]
    simp only [Option.bind_some]
    unfold even
    by_cases h1 : r * r % 2305843009213693951 = a
    · rw [if_pos h1, if_pos h1]
      by_cases h2 : r % 2 = 1
      · rw [if_pos h2, if_pos h2, wu (by omega) (by omega)]
      · rw [if_neg h2, if_neg h2]
    · rw [if_neg h1, if_neg h1]

end Go.Proofs.Ytekobmjfodhmaaa.Pure
