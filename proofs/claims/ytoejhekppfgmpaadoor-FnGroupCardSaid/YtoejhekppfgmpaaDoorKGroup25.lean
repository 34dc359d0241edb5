/- What the proof of FnGroup leans on, part 25: cut out of the texts of this claim's making by a program (wip/tools/pack.py). -/
import Derived.Test.YtoejhekppfgmpaaDoorKGroup6
import Derived.Test.YtoejhekppfgmpaaDoorKGroup10
import Derived.Test.YtoejhekppfgmpaaDoorKGroup11
import Derived.Test.YtoejhekppfgmpaaDoorKGroup12
import Derived.Test.YtoejhekppfgmpaaDoorKGroup13
import Derived.Test.YtoejhekppfgmpaaDoorKGroup14
import Derived.Test.YtoejhekppfgmpaaDoorKGroup22
import Derived.Test.YtoejhekppfgmpaaDoorKGroup23
import Derived.OpenShut
section
namespace Go.Proofs.YtoejhekppfgmpaaDoor.Pure
open Go.RowKit Go.Proofs.YtoejhekppfgmpaaDoor.B Go.Proofs.YtoejhekppfgmpaaDoor.H0 Go.Proofs.YtoejhekppfgmpaaDoor.H1 Go.Proofs.YtoejhekppfgmpaaDoor.H2 Go.Proofs.YtoejhekppfgmpaaDoorW.PrintWords Go.Proofs.YtoejhekppfgmpaaDoorW.PrintLast Go.Proofs.YtoejhekppfgmpaaDoorW.PrintMore
set_option linter.unusedVariables false
set_option linter.unusedSimpArgs false
theorem spec_mulmod (a b m : Int) (ha0 : 0 ≤ a) (hb0 : 0 ≤ b) (hm0 : 0 ≤ m) (hm : m < 18446744073709551616) {k : Nat} (hk : 66 ≤ k) :
    spec_MulMod.f k a b m = some (if m = 0 then 0 else a * b % m) := by
  unfold spec_MulMod.f
  by_cases h : m = 0
  · rw [if_pos h, if_pos h]
  · rw [if_neg h, if_neg h, Int.tmod_eq_emod_of_nonneg ha0, Int.tmod_eq_emod_of_nonneg hb0]
    have hp : 0 < m := by omega
    have a0 := Int.emod_nonneg a h
    have a1 := Int.emod_lt_of_pos a hp
    have b0 := Int.emod_nonneg b h
    have b1 := Int.emod_lt_of_pos b hp
    by_cases hP : m = 2305843009213693951
    · rw [if_pos hP]
      rw [l2Times a0 (by omega) b0 (by omega)]
      simp only [Option.bind_some]
      subst hP
      rw [← Int.mul_emod]
    · rw [if_neg hP]
      have := spec_mul_go (x := a % m) (y := b % m) (m := m) a0 a1 b0 hm 64 k 0 (by omega) (by omega) (by
        rw [Int.ediv_eq_zero_of_lt b0 (by have : (2:Int) ^ 64 = 18446744073709551616 := by decide
                                          omega)]; simp)
      rw [show ((64 : Nat) : Int) - 1 = 63 by rfl] at this
      rw [this, ← Int.mul_emod]

theorem pow_step {a r m : Int} {q : Nat} (h : r = a ^ q % m) : r * r % m = a ^ (2 * q) % m := by
  rw [h, ← Int.mul_emod, ← Int.pow_add]; congr 2; omega
theorem pow_step1 {a r m : Int} {q : Nat} (h : r = a ^ q % m) : r * a % m = a ^ (q + 1) % m := by
  rw [h, Int.pow_succ, Int.mul_emod, Int.emod_emod, ← Int.mul_emod]

theorem spec_pow_go {a e m : Int} (ha0 : 0 ≤ a) (he0 : 0 ≤ e) (hm0 : 0 < m) (hm : m < 18446744073709551616) : ∀ (d k : Nat) (r : Int), d ≤ 64 → d + 66 < k → r = a ^ (e / 2 ^ d).toNat % m →
    spec_PowMod.l0 k a e m r ((d : Int) - 1) = some (a ^ e.toNat % m)
  | 0, k, r, _, hk, hr => by
    obtain ⟨k, rfl⟩ : ∃ j, k = j + 1 := ⟨k - 1, by omega⟩
    simp only [spec_PowMod.l0]; rw [if_neg (by omega), hr]; simp
  | d + 1, k, r, hd, hk, hr => by
    obtain ⟨k, rfl⟩ : ∃ j, k = j + 1 := ⟨k - 1, by omega⟩
    have hr0 := Int.emod_nonneg (a ^ (e / 2 ^ (d + 1)).toNat) (show m ≠ 0 by omega)
    rw [← hr] at hr0
    have hn : m ≠ 0 := by omega
    have ht0 := Int.emod_nonneg (r * r) hn
    simp only [spec_PowMod.l0]
    rw [if_pos (by omega), spec_mulmod r r m hr0 hr0 (by omega) hm (by omega), if_neg hn]
    simp only [Option.bind_some]
    rw [show ((d + 1 : Nat) : Int) - 1 = (d : Int) by omega, shr_at e d (by omega), wu (show 0 ≤ (d : Int) by omega) (by omega), if_pos (by omega), wrap_pred d (by omega)]
    have hyd : 0 ≤ e / 2 ^ d := Int.ediv_nonneg he0 (Int.pow_nonneg (by decide))
    rw [Int.tmod_eq_emod_of_nonneg hyd]
    have hp := half_pow e d
    have e2 := pow_step hr
    by_cases hb : e / 2 ^ d % 2 = 1
    · rw [if_pos hb, spec_mulmod _ a m ht0 ha0 (by omega) hm (by omega), if_neg hn]
      simp only [Option.bind_some]
      apply spec_pow_go ha0 he0 hm0 hm d k _ (by omega) (by omega)
      rw [pow_step1 e2]
      congr 2
      omega
    · rw [if_neg hb]
      apply spec_pow_go ha0 he0 hm0 hm d k _ (by omega) (by omega)
      rw [e2]
      congr 2
      omega

theorem spec_powmod (a e m : Int) (ha0 : 0 ≤ a) (he0 : 0 ≤ e) (he : e < 18446744073709551616) (hm0 : 0 ≤ m) (hm : m < 18446744073709551616) {k : Nat} (hk : 131 ≤ k) :
    spec_PowMod.f k a e m = some (if m = 0 then 0 else a ^ e.toNat % m) := by
  unfold spec_PowMod.f
  by_cases h : m = 0
  · rw [if_pos h, if_pos h]
  · rw [if_neg h, if_neg h]
    have := spec_pow_go (a := a) (e := e) (m := m) ha0 he0 (by omega) hm 64 k (1 % m) (by omega) (by omega) (by
      rw [Int.ediv_eq_zero_of_lt he0 (by have : (2:Int) ^ 64 = 18446744073709551616 := by decide
                                         omega)]; simp)
    rwa [show ((64 : Nat) : Int) - 1 = 63 by rfl] at this

theorem and_one (x : Int) (h0 : 0 ≤ x) (h1 : x < 18446744073709551616) : Go.bits .and .u64 x 1 = x % 2 :=
  bits_mask .u64 64 (by decide) wraps_u64 1 (by decide) x h0 h1

theorem xbit_eq {e : Int} (he0 : 0 ≤ e) (he : e < 18446744073709551616) (i : Nat) : xbit e i = decide (e / 2 ^ i % 2 = 1) := by
  unfold xbit
  have h0 : 0 ≤ e / 2 ^ i := Int.ediv_nonneg he0 (Int.pow_nonneg (by decide))
  have h1 : e / 2 ^ i ≤ e := Int.ediv_le_self _ he0
  rw [and_one _ h0 (by omega)]
  rfl

/-- a fold over the bits, the highest first: what each step keeps -/
theorem bits_fold {σ : Type} (f : σ → Bool → σ) (V : Int → σ → Prop) {e : Int} (he0 : 0 ≤ e) (he : e < 18446744073709551616)
    (step : ∀ q s b, 0 ≤ q → V q s → V (2 * q + if b then 1 else 0) (f s b)) : ∀ (n : Nat) (s : σ), V (e / 2 ^ n) s → V e ((bitsDown e n).foldl f s)
  | 0, s, h => by simpa [bitsDown] using h
  | n + 1, s, h => by
    simp only [bitsDown, List.foldl_cons]
    apply bits_fold f V he0 he step n
    have hp := half_pow e n
    have := step _ _ (xbit e n) (Int.ediv_nonneg he0 (Int.pow_nonneg (by decide))) h
    rw [xbit_eq he0 he] at *
    by_cases hb : e / 2 ^ n % 2 = 1
    · rw [decide_eq_true hb] at *
      rw [if_pos rfl] at this
      rwa [show e / 2 ^ n = 2 * (e / 2 ^ (n + 1)) + 1 by omega]
    · rw [decide_eq_false hb] at *
      rw [if_neg (by decide)] at this
      rwa [show e / 2 ^ n = 2 * (e / 2 ^ (n + 1)) + 0 by omega]

theorem bits_fold_all {σ : Type} (f : σ → Bool → σ) (V : Int → σ → Prop) {e : Int} (he0 : 0 ≤ e) (he : e < 18446744073709551616)
    (step : ∀ q s b, 0 ≤ q → V q s → V (2 * q + if b then 1 else 0) (f s b)) (s : σ) (h : V 0 s) : V e ((bitsOf e).foldl f s) := by
  apply bits_fold f V he0 he step
  by_cases hz : e = 0
  · subst hz; simpa using h
  · have := bitLen_spec (m := e) (by omega) he
    rwa [Int.ediv_eq_zero_of_lt he0 this.2.2.2]

theorem pfold_eq (a e m : Int) (he0 : 0 ≤ e) (he : e < 18446744073709551616) (hm : m ≠ 0) : pfold a m (bitsOf e) = a ^ e.toNat % m := by
  unfold pfold
  refine bits_fold_all (pst a m) (fun q r => r = a ^ q.toNat % m) he0 he ?_ (1 % m) (by simp)
  intro q s b hq h
  have e2 := pow_step h
  unfold pst mm
  rw [if_neg hm, if_neg hm]
  cases b
  · rw [if_neg (by decide), if_neg (by decide), e2]; congr 2; omega
  · rw [if_pos rfl, if_pos rfl, pow_step1 e2]; congr 2; omega

end Go.Proofs.YtoejhekppfgmpaaDoor.Pure
end
section
namespace Go.Proofs.YtoejhekppfgmpaaDoor.Pure
open Go.RowKit Go.Proofs.YtoejhekppfgmpaaDoor.B Go.Proofs.YtoejhekppfgmpaaDoor.C Go.Proofs.YtoejhekppfgmpaaDoor.H0 Go.Proofs.YtoejhekppfgmpaaDoor.H1 Go.Proofs.YtoejhekppfgmpaaDoor.H2 Go.Proofs.YtoejhekppfgmpaaDoor.H3 Go.Proofs.YtoejhekppfgmpaaDoorW.PrintWords Go.Proofs.YtoejhekppfgmpaaDoorW.PrintLast Go.Proofs.YtoejhekppfgmpaaDoorW.PrintMore
set_option linter.unusedVariables false
set_option linter.unusedSimpArgs false
theorem power_P (a e : Int) (ha0 : 0 ≤ a) (ha : a < 18446744073709551616) (he0 : 0 ≤ e) (he : e < 18446744073709551616) :
    impl_num_impl_fieldP_power.f a e = some (a ^ e.toNat % 2305843009213693951) := by
  unfold impl_num_impl_fieldP_power.f
  rw [if_pos ⟨ha0, ha, he0, he⟩, pfold_eq a e primefieldP he0 he (by decide)]

end Go.Proofs.YtoejhekppfgmpaaDoor.Pure
end
section
namespace Go.Proofs.YtoejhekppfgmpaaDoor.Pure
open Go.RowKit Go.Proofs.YtoejhekppfgmpaaDoor.B Go.Proofs.YtoejhekppfgmpaaDoor.C Go.Proofs.YtoejhekppfgmpaaDoor.H0 Go.Proofs.YtoejhekppfgmpaaDoor.H1 Go.Proofs.YtoejhekppfgmpaaDoor.H2 Go.Proofs.YtoejhekppfgmpaaDoor.H3 Go.Proofs.YtoejhekppfgmpaaDoorW.PrintWords Go.Proofs.YtoejhekppfgmpaaDoorW.PrintLast Go.Proofs.YtoejhekppfgmpaaDoorW.PrintMore
theorem inverse_P (a : Int) (ha0 : 0 ≤ a) (ha : a < 18446744073709551616) :
    impl_num_impl_fieldP_inverse.f a = some (a ^ 2305843009213693949 % 2305843009213693951) := by
  simp only [impl_num_impl_fieldP_inverse.f, impl_prime_impl_fieldP.f, Option.bind_some]
  rw [show IntKind.u64.wrap (primefieldP - 2) = 2305843009213693949 by decide]
  rw [power_P a 2305843009213693949 ha0 ha (by decide) (by decide)]
  rfl

end Go.Proofs.YtoejhekppfgmpaaDoor.Pure
end
