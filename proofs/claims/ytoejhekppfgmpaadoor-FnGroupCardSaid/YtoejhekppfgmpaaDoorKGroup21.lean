/- What the proof of FnGroup leans on, part 21: cut out of the texts of this claim's making by a program (wip/tools/pack.py). -/
import Derived.Test.YtoejhekppfgmpaaDoorKGroup6
import Derived.Test.YtoejhekppfgmpaaDoorKGroup13
import Derived.Test.YtoejhekppfgmpaaDoorKGroup14
import Derived.Test.YtoejhekppfgmpaaDoorKGroup20
section
namespace Go.Proofs.YtoejhekppfgmpaaDoor.Pure
open Go.RowKit Go.Proofs.YtoejhekppfgmpaaDoor.B Go.Proofs.YtoejhekppfgmpaaDoor.C Go.Proofs.YtoejhekppfgmpaaDoor.H0 Go.Proofs.YtoejhekppfgmpaaDoorW.PrintWords Go.Proofs.YtoejhekppfgmpaaDoorW.PrintLast Go.Proofs.YtoejhekppfgmpaaDoorW.PrintMore
set_option linter.unusedVariables false
set_option linter.unusedSimpArgs false
theorem is_mod {r c m k : Int} (h0 : 0 ≤ r) (h : r < m) (e : r = c - m * k) : r = c % m := by
  have : c = r + m * k := by omega
  rw [this, Int.add_mul_emod_self_left, Int.emod_eq_of_lt h0 h]

theorem mod_out (c m : Int) : ∃ k, c % m = c - m * k := ⟨c / m, by have := Int.emod_add_mul_ediv c m; omega⟩

theorem plus_P (a b : Int) (ha0 : 0 ≤ a) (ha : a < 2305843009213693951) (hb0 : 0 ≤ b) (hb : b < 2305843009213693951) : impl_num_impl_fieldP_plus.f a b = some ((a + b) % 2305843009213693951) := by
  simp only [impl_num_impl_fieldP_plus.f, impl_prime_impl_fieldP.f, Option.bind_some]
  rw [show primefieldP = 2305843009213693951 from rfl, wu (by omega) (by omega)]
  by_cases h : a + b ≥ 2305843009213693951
  · rw [if_pos h, wu (by omega) (by omega), emod_sub (by omega) (by omega)]
  · rw [if_neg h, Int.emod_eq_of_lt (by omega) (by omega)]

theorem negate_P (a : Int) (ha0 : 0 ≤ a) (ha : a < 2305843009213693951) :
    impl_num_impl_fieldP_negative.f a = some (if a = 0 then 0 else 2305843009213693951 - a) := by
  simp only [impl_num_impl_fieldP_negative.f, impl_prime_impl_fieldP.f, Option.bind_some]
  by_cases h : a = 0
  · rw [if_pos h, if_pos h, h]
  · rw [if_neg h, if_neg h, show primefieldP = 2305843009213693951 from rfl, wu (by omega) (by omega)]

theorem minus_P (a b : Int) (ha0 : 0 ≤ a) (ha : a < 2305843009213693951) (hb0 : 0 ≤ b) (hb : b < 2305843009213693951) : impl_num_impl_fieldP_minus.f a b = some ((a - b) % 2305843009213693951) := by
  simp only [impl_num_impl_fieldP_minus.f]
  rw [negate_P b hb0 hb]
  simp only [Option.bind_some]
  by_cases h : b = 0
  · rw [if_pos h, plus_P a 0 ha0 ha (by decide) (by decide), h]; simp
  · rw [if_neg h, plus_P a _ ha0 ha (by omega) (by omega)]
    simp only [Option.bind_some]
    rw [show a + (2305843009213693951 - b) = a - b + 2305843009213693951 by omega, Int.add_emod_right]

theorem prod_P (a b : Int) (ha0 : 0 ≤ a) (ha : a < 18446744073709551616) (hb0 : 0 ≤ b) (hb : b < 18446744073709551616) {k : Nat} (hk : 10 ≤ k) :
    impl_num_impl_fieldP_times.f k a b = some (a * b % 2305843009213693951) := by
  simp only [impl_num_impl_fieldP_times.f, impl_prime_impl_fieldP.f, Option.bind_some]
  rw [mulmod a b primefieldP ha0 ha hb0 hb (by decide) (by decide) hk]; rfl

theorem pP (x : Int) : 0 ≤ x % 2305843009213693951 ∧ x % 2305843009213693951 < 2305843009213693951 := by omega

/-- the curve's right side -/
def rhs (x : Int) : Int := (x * x * x - 3 * x + 111) % 2305843009213693951

theorem curveAt_P (x : Int) (hx0 : 0 ≤ x) (hx : x < 2305843009213693951) {k : Nat} (hk : 10 ≤ k) : impl_curveAt.f k x = some (rhs x) := by
  unfold impl_curveAt.f
  have h1 := pP (x * x)
  rw [prod_P x x hx0 (by omega) hx0 (by omega) hk]; simp only [Option.bind_some]
  rw [minus_P _ 3 h1.1 h1.2 (by decide) (by decide)]; simp only [Option.bind_some]
  have h2 := pP (x * x % 2305843009213693951 - 3)
  rw [prod_P _ x h2.1 (by omega) hx0 (by omega) hk]; simp only [Option.bind_some]
  have h3 := pP ((x * x % 2305843009213693951 - 3) % 2305843009213693951 * x)
  rw [plus_P _ 111 h3.1 h3.2 (by decide) (by decide)]; simp only [Option.bind_some]
  have h4 := pP ((x * x % 2305843009213693951 - 3) % 2305843009213693951 * x % 2305843009213693951 + 111)
  congr 1
  obtain ⟨k1, e1⟩ := mod_out (x * x) 2305843009213693951
  obtain ⟨k2, e2⟩ := mod_out (x * x % 2305843009213693951 - 3) 2305843009213693951
  obtain ⟨k3, e3⟩ := mod_out ((x * x % 2305843009213693951 - 3) % 2305843009213693951 * x) 2305843009213693951
  obtain ⟨k4, e4⟩ := mod_out ((x * x % 2305843009213693951 - 3) % 2305843009213693951 * x % 2305843009213693951 + 111) 2305843009213693951
  refine is_mod (k := k1 * x + k2 * x + k3 + k4) h4.1 h4.2 ?_
  rw [e4, e3, e2, e1]
  grind

theorem l3Minus_P (a b : Int) (ha0 : 0 ≤ a) (ha : a < 2305843009213693951) (hb0 : 0 ≤ b) (hb : b < 2305843009213693951) : spec_l3Minus.f a b = some ((a - b) % 2305843009213693951) := by
  unfold spec_l3Minus.f
  rw [wu (by omega) (by omega), Int.tmod_eq_emod_of_nonneg (by omega)]
  rw [l2Add ha0 ha (pP _).1 (pP _).2 (by decide)]
  simp only [Option.bind_some]
  rw [Int.add_emod_emod, show a + (2305843009213693951 - b) = a - b + 2305843009213693951 by omega, Int.add_emod_right]

theorem right_P (x : Int) (hx0 : 0 ≤ x) (hx : x < 2305843009213693951) : spec_l3Right.f x = some (rhs x) := by
  unfold spec_l3Right.f
  have h1 := pP (x * x)
  rw [l2Times hx0 hx hx0 hx]; simp only [Option.bind_some]
  rw [l2Times h1.1 h1.2 hx0 hx]; simp only [Option.bind_some]
  rw [l2Times (by decide) (by decide) hx0 hx]; simp only [Option.bind_some]
  have h2 := pP (x * x % 2305843009213693951 * x)
  have h3 := pP (3 * x)
  rw [l3Minus_P _ _ h2.1 h2.2 h3.1 h3.2]; simp only [Option.bind_some]
  have h4 := pP (x * x % 2305843009213693951 * x % 2305843009213693951 - 3 * x % 2305843009213693951)
  rw [l2Add h4.1 h4.2 (by decide) (by decide) (by decide)]; simp only [Option.bind_some]
  have h5 := pP ((x * x % 2305843009213693951 * x % 2305843009213693951 - 3 * x % 2305843009213693951) % 2305843009213693951 + 111)
  congr 1
  obtain ⟨k1, e1⟩ := mod_out (x * x) 2305843009213693951
  obtain ⟨k2, e2⟩ := mod_out (x * x % 2305843009213693951 * x) 2305843009213693951
  obtain ⟨k3, e3⟩ := mod_out (3 * x) 2305843009213693951
  obtain ⟨k4, e4⟩ := mod_out (x * x % 2305843009213693951 * x % 2305843009213693951 - 3 * x % 2305843009213693951) 2305843009213693951
  obtain ⟨k5, e5⟩ := mod_out ((x * x % 2305843009213693951 * x % 2305843009213693951 - 3 * x % 2305843009213693951) % 2305843009213693951 + 111) 2305843009213693951
  refine is_mod (k := k1 * x + k2 - k3 + k4 + k5) h5.1 h5.2 ?_
  rw [e5, e4, e3, e2, e1]
  grind

/-- whether a point is of the curve -/
def oc (x y : Int) (inf : Bool) : Bool :=
  if inf = true then decide (x = 0 ∧ y = 0) else decide (x < 2305843009213693951 ∧ y < 2305843009213693951 ∧ y * y % 2305843009213693951 = rhs x)

theorem oc_t (x y : Int) : oc x y true = decide (x = 0 ∧ y = 0) := rfl
theorem oc_f (x y : Int) : oc x y false = decide (x < 2305843009213693951 ∧ y < 2305843009213693951 ∧ y * y % 2305843009213693951 = rhs x) := rfl
theorem beq_dec (a b : Int) : (a == b) = decide (a = b) := by by_cases h : a = b <;> simp [h]

theorem onCurve_spec (x y : Int) (inf : Bool) (hx0 : 0 ≤ x) (hy0 : 0 ≤ y) : spec_OnCurve.f x y inf = some (oc x y inf) := by
  unfold spec_OnCurve.f
  cases inf
  · rw [if_neg (show ¬ false = true by decide), oc_f]
    by_cases h1 : x < 2305843009213693951
    · rw [if_pos h1]
      by_cases h2 : y < 2305843009213693951
      · rw [if_pos h2, l2Times hy0 h2 hy0 h2]; simp only [Option.bind_some]
        rw [right_P x hx0 h1]; simp only [Option.bind_some]
        rw [beq_dec]; simp [h1, h2]
      · rw [if_neg h2]; simp [h2]
    · rw [if_neg h1]; simp [h1]
  · rw [if_pos rfl, oc_t]
    by_cases h1 : x = 0
    · rw [if_pos h1, beq_dec]; simp [h1]
    · rw [if_neg h1]; simp [h1]

theorem at_impl (x y : Int) (inf : Bool) (hx0 : 0 ≤ x) (hx : x < 18446744073709551616) (hy0 : 0 ≤ y) (hy : y < 18446744073709551616) {k : Nat} (hk : 11 ≤ k) :
    ∃ p : Int × Int × Bool, impl_at.f k x y inf = some (p.1, p.2.1, p.2.2, oc x y inf) ∧ (oc x y inf = true → p = (x, y, inf)) := by
  obtain ⟨k, rfl⟩ : ∃ j, k = j + 1 := ⟨k - 1, by omega⟩
  unfold impl_at.f
  cases inf
  · rw [if_neg (show ¬ false = true by decide), oc_f]
    by_cases h1 : x ≥ 2305843009213693951
    · rw [if_pos h1]
      simp only [impl_at.j0]
      rw [if_pos trivial]
      have h1' : ¬ x < 2305843009213693951 := by omega
      exact ⟨(0, 0, true), by simp [h1'], by simp [h1']⟩
    · rw [if_neg h1]
      simp only [impl_at.j0]
      by_cases h2 : y ≥ 2305843009213693951
      · rw [decide_eq_true h2, if_pos rfl]
        have h2' : ¬ y < 2305843009213693951 := by omega
        exact ⟨(0, 0, true), by simp [h2'], by simp [h2']⟩
      · rw [decide_eq_false h2, if_neg (by decide), prod_P y y hy0 hy hy0 hy (by omega)]; simp only [Option.bind_some]
        rw [curveAt_P x hx0 (by omega) (by omega)]; simp only [Option.bind_some]
        refine ⟨(x, y, false), ?_, fun _ => rfl⟩
        have h1' : x < 2305843009213693951 := by omega
        have h2' : y < 2305843009213693951 := by omega
        rw [beq_dec]; simp [h1', h2']
  · rw [if_pos rfl, oc_t]
    refine ⟨(x, y, true), ?_, fun _ => rfl⟩
    rw [beq_dec, beq_dec]
    simp

theorem onCurve_impl (x y : Int) (inf : Bool) (hx0 : 0 ≤ x) (hx : x < 18446744073709551616) (hy0 : 0 ≤ y) (hy : y < 18446744073709551616) {k : Nat} (hk : 11 ≤ k) : impl_OnCurve.f k x y inf = some (oc x y inf) := by
  unfold impl_OnCurve.f
  obtain ⟨p, hp, _⟩ := at_impl x y inf hx0 hx hy0 hy hk
  rw [hp]; rfl

end Go.Proofs.YtoejhekppfgmpaaDoor.Pure
end
