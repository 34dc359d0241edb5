/- What the proof of FnPoints leans on, part 14: cut out of the texts of this claim's making by a program (wip/tools/pack.py). -/
import Derived.Test.YtkefcokmghbmhaaDoorKPoints5
import Derived.Test.YtkefcokmghbmhaaDoorKPoints6
import Derived.Test.YtkefcokmghbmhaaDoorKPoints7
import Derived.Test.YtkefcokmghbmhaaDoorKPoints9
import Derived.Test.YtkefcokmghbmhaaDoorKPoints10
import Derived.Test.YtkefcokmghbmhaaDoorKPoints11
import Derived.Test.YtkefcokmghbmhaaDoorKPoints12
import Derived.Test.YtkefcokmghbmhaaDoorKPoints13
import Derived.OpenShut
section
namespace Go.Proofs.YtkefcokmghbmhaaDoor.Pure
open Go.RowKit Go.Proofs.YtkefcokmghbmhaaDoor.B Go.Proofs.YtkefcokmghbmhaaDoor.H0 Go.Proofs.YtkefcokmghbmhaaDoor.H1 Go.Proofs.YtkefcokmghbmhaaDoor.H2 Go.Proofs.YtkefcokmghbmhaaDoorW.PrintWords Go.Proofs.YtkefcokmghbmhaaDoorW.PrintLast Go.Proofs.YtkefcokmghbmhaaDoorW.PrintMore
set_option linter.unusedVariables false
set_option linter.unusedSimpArgs false
theorem spec_mulmod (a b m : Int) (ha0 : 0 ≤ a) (hb0 : 0 ≤ b) (hm0 : 0 ≤ m) (hm : m < 18446744073709551616) {k : Nat} (hk : 66 ≤ k) :
    spec_MulMod.f k a b m = some (if m = 0 then 0 else a * b % m) := by
  unfold spec_MulMod.f
  by_cases h : m = 0
  · rw [if_pos h, if_pos h]
  · rw [if_neg h, if_neg h, Int.tmod_eq_emod_of_nonneg ha0, Int.tmod_eq_emod_of_nonneg hb0]
    have hp : 0 < m := by omega
    have a0 := Int.emod_nonneg a h
    have a1 := Int.emod_lt_of_pos a hp
    have b0 := Int.emod_nonneg b h
    have b1 := Int.emod_lt_of_pos b hp
    by_cases hP : m = 2305843009213693951
    · rw [if_pos hP]
      rw [l2Times a0 (by omega) b0 (by omega)]
      simp only [Option.bind_some]
      subst hP
      rw [← Int.mul_emod]
    · rw [if_neg hP]
      have := spec_mul_go (x := a % m) (y := b % m) (m := m) a0 a1 b0 hm 64 k 0 (by omega) (by omega) (by
        rw [Int.ediv_eq_zero_of_lt b0 (by have : (2:Int) ^ 64 = 18446744073709551616 := by decide
                                          omega)]; simp)
      rw [show ((64 : Nat) : Int) - 1 = 63 by rfl] at this
      rw [this, ← Int.mul_emod]

theorem pow_step {a r m : Int} {q : Nat} (h : r = a ^ q % m) : r * r % m = a ^ (2 * q) % m := by
  rw [h, ← Int.mul_emod, ← Int.pow_add]; congr 2; omega
theorem pow_step1 {a r m : Int} {q : Nat} (h : r = a ^ q % m) : r * a % m = a ^ (q + 1) % m := by
  rw [h, Int.pow_succ, Int.mul_emod, Int.emod_emod, ← Int.mul_emod]

theorem spec_pow_go {a e m : Int} (ha0 : 0 ≤ a) (he0 : 0 ≤ e) (hm0 : 0 < m) (hm : m < 18446744073709551616) : ∀ (d k : Nat) (r : Int), d ≤ 64 → d + 66 < k → r = a ^ (e / 2 ^ d).toNat % m →
    spec_PowMod.l0 k a e m r ((d : Int) - 1) = some (a ^ e.toNat % m)
  | 0, k, r, _, hk, hr => by
    obtain ⟨k, rfl⟩ : ∃ j, k = j + 1 := ⟨k - 1, by omega⟩
    simp only [spec_PowMod.l0]; rw [if_neg (by omega), hr]; simp
  | d + 1, k, r, hd, hk, hr => by
    obtain ⟨k, rfl⟩ : ∃ j, k = j + 1 := ⟨k - 1, by omega⟩
    have hr0 := Int.emod_nonneg (a ^ (e / 2 ^ (d + 1)).toNat) (show m ≠ 0 by omega)
    rw [← hr] at hr0
    have hn : m ≠ 0 := by omega
    have ht0 := Int.emod_nonneg (r * r) hn
    simp only [spec_PowMod.l0]
    rw [if_pos (by omega), spec_mulmod r r m hr0 hr0 (by omega) hm (by omega), if_neg hn]
    simp only [Option.bind_some]
    rw [show ((d + 1 : Nat) : Int) - 1 = (d : Int) by omega, shr_at e d (by omega), wu (show 0 ≤ (d : Int) by omega) (by omega), if_pos (by omega), wrap_pred d (by omega)]
    have hyd : 0 ≤ e / 2 ^ d := Int.ediv_nonneg he0 (Int.pow_nonneg (by decide))
    rw [Int.tmod_eq_emod_of_nonneg hyd]
    have hp := half_pow e d
    have e2 := pow_step hr
    by_cases hb : e / 2 ^ d % 2 = 1
    · rw [if_pos hb, spec_mulmod _ a m ht0 ha0 (by omega) hm (by omega), if_neg hn]
      simp only [Option.bind_some]
      apply spec_pow_go ha0 he0 hm0 hm d k _ (by omega) (by omega)
      rw [pow_step1 e2]
      congr 2
      omega
    · rw [if_neg hb]
      apply spec_pow_go ha0 he0 hm0 hm d k _ (by omega) (by omega)
      rw [e2]
      congr 2
      omega

theorem spec_powmod (a e m : Int) (ha0 : 0 ≤ a) (he0 : 0 ≤ e) (he : e < 18446744073709551616) (hm0 : 0 ≤ m) (hm : m < 18446744073709551616) {k : Nat} (hk : 131 ≤ k) :
    spec_PowMod.f k a e m = some (if m = 0 then 0 else a ^ e.toNat % m) := by
  unfold spec_PowMod.f
  by_cases h : m = 0
  · rw [if_pos h, if_pos h]
  · rw [if_neg h, if_neg h]
    have := spec_pow_go (a := a) (e := e) (m := m) ha0 he0 (by omega) hm 64 k (1 % m) (by omega) (by omega) (by
      rw [Int.ediv_eq_zero_of_lt he0 (by have : (2:Int) ^ 64 = 18446744073709551616 := by decide
                                         omega)]; simp)
    rwa [show ((64 : Nat) : Int) - 1 = 63 by rfl] at this

theorem and_one (x : Int) (h0 : 0 ≤ x) (h1 : x < 18446744073709551616) : Go.bits .and .u64 x 1 = x % 2 :=
  bits_mask .u64 64 (by decide) wraps_u64 1 (by decide) x h0 h1

theorem xbit_eq {e : Int} (he0 : 0 ≤ e) (he : e < 18446744073709551616) (i : Nat) : xbit e i = decide (e / 2 ^ i % 2 = 1) := by
  unfold xbit
  have h0 : 0 ≤ e / 2 ^ i := Int.ediv_nonneg he0 (Int.pow_nonneg (by decide))
  have h1 : e / 2 ^ i ≤ e := Int.ediv_le_self _ he0
  rw [and_one _ h0 (by omega)]
  rfl

/-- a fold over the bits, the highest first: what each step keeps -/
theorem bits_fold {σ : Type} (f : σ → Bool → σ) (V : Int → σ → Prop) {e : Int} (he0 : 0 ≤ e) (he : e < 18446744073709551616)
    (step : ∀ q s b, 0 ≤ q → V q s → V (2 * q + if b then 1 else 0) (f s b)) : ∀ (n : Nat) (s : σ), V (e / 2 ^ n) s → V e ((bitsDown e n).foldl f s)
  | 0, s, h => by simpa [bitsDown] using h
  | n + 1, s, h => by
    simp only [bitsDown, List.foldl_cons]
    apply bits_fold f V he0 he step n
    have hp := half_pow e n
    have := step _ _ (xbit e n) (Int.ediv_nonneg he0 (Int.pow_nonneg (by decide))) h
    rw [xbit_eq he0 he] at *
    by_cases hb : e / 2 ^ n % 2 = 1
    · rw [decide_eq_true hb] at *
      rw [if_pos rfl] at this
      rwa [show e / 2 ^ n = 2 * (e / 2 ^ (n + 1)) + 1 by omega]
    · rw [decide_eq_false hb] at *
      rw [if_neg (by decide)] at this
      rwa [show e / 2 ^ n = 2 * (e / 2 ^ (n + 1)) + 0 by omega]

theorem bits_fold_all {σ : Type} (f : σ → Bool → σ) (V : Int → σ → Prop) {e : Int} (he0 : 0 ≤ e) (he : e < 18446744073709551616)
    (step : ∀ q s b, 0 ≤ q → V q s → V (2 * q + if b then 1 else 0) (f s b)) (s : σ) (h : V 0 s) : V e ((bitsOf e).foldl f s) := by
  apply bits_fold f V he0 he step
  by_cases hz : e = 0
  · subst hz; simpa using h
  · have := bitLen_spec (m := e) (by omega) he
    rwa [Int.ediv_eq_zero_of_lt he0 this.2.2.2]

theorem pfold_eq (a e m : Int) (he0 : 0 ≤ e) (he : e < 18446744073709551616) (hm : m ≠ 0) : pfold a m (bitsOf e) = a ^ e.toNat % m := by
  unfold pfold
  refine bits_fold_all (pst a m) (fun q r => r = a ^ q.toNat % m) he0 he ?_ (1 % m) (by simp)
  intro q s b hq h
  have e2 := pow_step h
  unfold pst mm
  rw [if_neg hm, if_neg hm]
  cases b
  · rw [if_neg (by decide), if_neg (by decide), e2]; congr 2; omega
  · rw [if_pos rfl, if_pos rfl, pow_step1 e2]; congr 2; omega

theorem bt_range (a : ByteArray) (i : Int) : 0 ≤ bt a i ∧ bt a i < 256 := by
  unfold bt
  split
  · have := UInt8.toNat_lt (a[i.toNat])
    omega
  · omega

end Go.Proofs.YtkefcokmghbmhaaDoor.Pure
end
section
namespace Go.Proofs.YtkefcokmghbmhaaDoor.Pure
open Go.RowKit Go.Proofs.YtkefcokmghbmhaaDoor.B Go.Proofs.YtkefcokmghbmhaaDoor.C Go.Proofs.YtkefcokmghbmhaaDoor.H0 Go.Proofs.YtkefcokmghbmhaaDoor.H1 Go.Proofs.YtkefcokmghbmhaaDoor.H2 Go.Proofs.YtkefcokmghbmhaaDoor.H3 Go.Proofs.YtkefcokmghbmhaaDoorW.PrintWords Go.Proofs.YtkefcokmghbmhaaDoorW.PrintLast Go.Proofs.YtkefcokmghbmhaaDoorW.PrintMore
set_option linter.unusedVariables false
set_option linter.unusedSimpArgs false
theorem power_P (a e : Int) (ha0 : 0 ≤ a) (ha : a < 18446744073709551616) (he0 : 0 ≤ e) (he : e < 18446744073709551616) :
    impl_num_impl_fieldP_power.f a e = some (a ^ e.toNat % 2305843009213693951) := by
  unfold impl_num_impl_fieldP_power.f
  rw [if_pos ⟨ha0, ha, he0, he⟩, pfold_eq a e primefieldP he0 he (by decide)]

theorem times_P (a b : Int) (ha0 : 0 ≤ a) (ha : a < 18446744073709551616) (hb0 : 0 ≤ b) (hb : b < 18446744073709551616) {k : Nat} (hk : 10 ≤ k) :
    impl_num_impl_fieldP_times.f k a b = some (a * b % 2305843009213693951) := by
  simp only [impl_num_impl_fieldP_times.f, impl_prime_impl_fieldP.f, Option.bind_some]
  rw [mulmod a b primefieldP ha0 ha hb0 hb (by decide) (by decide) hk]; rfl

theorem negative_P (a : Int) (ha0 : 0 ≤ a) (ha : a < 2305843009213693951) :
    impl_num_impl_fieldP_negative.f a = some (if a = 0 then 0 else 2305843009213693951 - a) := by
  simp only [impl_num_impl_fieldP_negative.f, impl_prime_impl_fieldP.f, Option.bind_some]
  by_cases h : a = 0
  · rw [if_pos h, if_pos h, h]
  · rw [if_neg h, if_neg h, show primefieldP = 2305843009213693951 from rfl, wu (by omega) (by omega)]

theorem neg_sq (r : Int) : (2305843009213693951 - r) * (2305843009213693951 - r) % 2305843009213693951 = r * r % 2305843009213693951 := by
  rw [show (2305843009213693951 - r) * (2305843009213693951 - r) = r * r + 2305843009213693951 * (2305843009213693951 - 2 * r) by grind, Int.add_mul_emod_self_left]

/-- the even one of two roots -/
def even (r : Int) : Int := if r % 2 = 1 then 2305843009213693951 - r else r

theorem root_P (a : Int) (ha0 : 0 ≤ a) (ha : a < 18446744073709551616) {k : Nat} (hk : 10 ≤ k) :
    impl_num_impl_fieldP_root.f k a = some (even (a ^ 576460752303423488 % 2305843009213693951), (a ^ 576460752303423488 % 2305843009213693951) * (a ^ 576460752303423488 % 2305843009213693951) % 2305843009213693951 == a) := by
  simp only [impl_num_impl_fieldP_root.f, impl_prime_impl_fieldP.f, Option.bind_some]
  rw [show IntKind.u64.wrap (Int.tdiv (IntKind.u64.wrap (primefieldP + 1)) 4) = 576460752303423488 by decide]
  rw [power_P a 576460752303423488 ha0 ha (by decide) (by decide)]
  have e : Int.toNat 576460752303423488 = 576460752303423488 := by decide
  rw [e]
  simp only [Option.bind_some]
  have r0 := Int.emod_nonneg (a ^ 576460752303423488) (show (2305843009213693951 : Int) ≠ 0 by decide)
  have r1 := Int.emod_lt_of_pos (a ^ 576460752303423488) (show (0 : Int) < 2305843009213693951 by decide)
  generalize a ^ 576460752303423488 % 2305843009213693951 = r at *
  rw [Int.tmod_eq_emod_of_nonneg r0]
  unfold even
  by_cases h : r % 2 = 1
  · rw [if_pos h, if_pos h, negative_P r r0 r1, if_neg (by omega)]
    simp only [Option.bind_some]
    rw [times_P _ _ (by omega) (by omega) (by omega) (by omega) hk]
    simp only [Option.bind_some]
    rw [neg_sq]
  · rw [if_neg h, if_neg h, times_P _ _ (by omega) (by omega) (by omega) (by omega) hk]
    simp only [Option.bind_some]

theorem sqrt_spec (a : Int) (ha0 : 0 ≤ a) (ha : a < 18446744073709551616) {k : Nat} (hk : 131 ≤ k) :
    spec_Sqrt.f k a = some (if a ≥ 2305843009213693951 then (0, false) else if (a ^ 576460752303423488 % 2305843009213693951) * (a ^ 576460752303423488 % 2305843009213693951) % 2305843009213693951 = a then (even (a ^ 576460752303423488 % 2305843009213693951), true) else (0, false)) := by
  unfold spec_Sqrt.f
  by_cases h : a ≥ 2305843009213693951
  · rw [if_pos h, if_pos h]
  · rw [if_neg h, if_neg h, spec_powmod a 576460752303423488 2305843009213693951 ha0 (by decide) (by decide) (by decide) (by decide) hk]
    have e : Int.toNat 576460752303423488 = 576460752303423488 := by decide
    rw [e, if_neg (by decide)]
    simp only [Option.bind_some]
    have r0 := Int.emod_nonneg (a ^ 576460752303423488) (show (2305843009213693951 : Int) ≠ 0 by decide)
    have r1 := Int.emod_lt_of_pos (a ^ 576460752303423488) (show (0 : Int) < 2305843009213693951 by decide)
    generalize a ^ 576460752303423488 % 2305843009213693951 = r at *
    rw [l2Times r0 r1 r0 r1, Int.tmod_eq_emod_of_nonneg r0]
    simp only [Option.bind_some]
    unfold even
    by_cases h1 : r * r % 2305843009213693951 = a
    · rw [if_pos h1, if_pos h1]
      by_cases h2 : r % 2 = 1
      · rw [if_pos h2, if_pos h2, wu (by omega) (by omega)]
      · rw [if_neg h2, if_neg h2]
    · rw [if_neg h1, if_neg h1]
end Go.Proofs.YtkefcokmghbmhaaDoor.Pure
end
section
namespace Go.Proofs.YtkefcokmghbmhaaDoor.Pure
open Go.RowKit Go.Proofs.YtkefcokmghbmhaaDoor.B Go.Proofs.YtkefcokmghbmhaaDoor.C Go.Proofs.YtkefcokmghbmhaaDoor.H0 Go.Proofs.YtkefcokmghbmhaaDoorW.PrintWords Go.Proofs.YtkefcokmghbmhaaDoorW.PrintLast Go.Proofs.YtkefcokmghbmhaaDoorW.PrintMore
set_option linter.unusedVariables false
set_option linter.unusedSimpArgs false
theorem ba_ext {a b : ByteArray} (h : a.toList = b.toList) : a = b := by
  have := congrArg List.toArray (by rw [← Go.Lib.toList_data, ← Go.Lib.toList_data]; exact h : a.data.toList = b.data.toList)
  cases a; cases b; simpa using this

theorem word8 (b0 b1 b2 b3 b4 b5 b6 b7 : UInt8) : Wd.word ⟨#[b0, b1, b2, b3, b4, b5, b6, b7]⟩ = b0.toNat * 72057594037927936 + b1.toNat * 281474976710656 + b2.toNat * 1099511627776 + b3.toNat * 4294967296 + b4.toNat * 16777216 + b5.toNat * 65536 + b6.toNat * 256 + b7.toNat := by
  have := b0.toNat_lt
  have := b1.toNat_lt
  have := b2.toNat_lt
  have := b3.toNat_lt
  have := b4.toNat_lt
  have := b5.toNat_lt
  have := b6.toNat_lt
  have := b7.toNat_lt
  have e : Wd.word ⟨#[b0, b1, b2, b3, b4, b5, b6, b7]⟩ = Wd.wordGo ⟨#[b0, b1, b2, b3, b4, b5, b6, b7]⟩ 8 0 0 := rfl
  have e0 : bt ⟨#[b0, b1, b2, b3, b4, b5, b6, b7]⟩ 0 = b0.toNat := rfl
  have e1 : bt ⟨#[b0, b1, b2, b3, b4, b5, b6, b7]⟩ (0 + 1) = b1.toNat := rfl
  have e2 : bt ⟨#[b0, b1, b2, b3, b4, b5, b6, b7]⟩ (0 + 1 + 1) = b2.toNat := rfl
  have e3 : bt ⟨#[b0, b1, b2, b3, b4, b5, b6, b7]⟩ (0 + 1 + 1 + 1) = b3.toNat := rfl
  have e4 : bt ⟨#[b0, b1, b2, b3, b4, b5, b6, b7]⟩ (0 + 1 + 1 + 1 + 1) = b4.toNat := rfl
  have e5 : bt ⟨#[b0, b1, b2, b3, b4, b5, b6, b7]⟩ (0 + 1 + 1 + 1 + 1 + 1) = b5.toNat := rfl
  have e6 : bt ⟨#[b0, b1, b2, b3, b4, b5, b6, b7]⟩ (0 + 1 + 1 + 1 + 1 + 1 + 1) = b6.toNat := rfl
  have e7 : bt ⟨#[b0, b1, b2, b3, b4, b5, b6, b7]⟩ (0 + 1 + 1 + 1 + 1 + 1 + 1 + 1) = b7.toNat := rfl
  rw [e]
  simp only [Wd.wordGo]
  rw [e0, e1, e2, e3, e4, e5, e6, e7]
  omega

theorem shr_d (a : Int) (d : Nat) (h : d ≤ 64) : shr .u64 a d = a / 2 ^ d := by
  unfold shr; rw [Int.toNat_natCast, show IntKind.u64.bits = 64 from rfl, Nat.min_eq_left h]

theorem putWord_eq (a : Int) : putWord a = ⟨#[UInt8.ofNat (a / 72057594037927936 % 256).toNat, UInt8.ofNat (a / 281474976710656 % 256).toNat, UInt8.ofNat (a / 1099511627776 % 256).toNat, UInt8.ofNat (a / 4294967296 % 256).toNat, UInt8.ofNat (a / 16777216 % 256).toNat, UInt8.ofNat (a / 65536 % 256).toNat, UInt8.ofNat (a / 256 % 256).toNat, UInt8.ofNat (a / 1 % 256).toNat]⟩ := by
  unfold putWord
  rw [show shr .u64 a 56 = a / 72057594037927936 from shr_d a 56 (by decide), show shr .u64 a 48 = a / 281474976710656 from shr_d a 48 (by decide), show shr .u64 a 40 = a / 1099511627776 from shr_d a 40 (by decide), show shr .u64 a 32 = a / 4294967296 from shr_d a 32 (by decide), show shr .u64 a 24 = a / 16777216 from shr_d a 24 (by decide), show shr .u64 a 16 = a / 65536 from shr_d a 16 (by decide), show shr .u64 a 8 = a / 256 from shr_d a 8 (by decide), show shr .u64 a 0 = a / 1 from shr_d a 0 (by decide)]
  rfl

theorem byte_to (n : Int) (h0 : 0 ≤ n) (h : n < 256) : ((UInt8.ofNat n.toNat).toNat : Int) = n := by
  rw [UInt8.toNat_ofNat', Nat.mod_eq_of_lt (by omega)]; omega
theorem mod_256 (a : Int) : 0 ≤ a % 256 ∧ a % 256 < 256 := by omega
theorem word_put (a : Int) (h0 : 0 ≤ a) (h : a < 18446744073709551616) : Wd.word (putWord a) = a := by
  rw [putWord_eq, word8]
  simp only [byte_to _ (mod_256 _).1 (mod_256 _).2]
  have e2 : a / 65536 = a / 256 / 256 := by omega
  have e3 : a / 16777216 = a / 65536 / 256 := by omega
  have e4 : a / 4294967296 = a / 16777216 / 256 := by omega
  have e5 : a / 1099511627776 = a / 4294967296 / 256 := by omega
  have e6 : a / 281474976710656 = a / 1099511627776 / 256 := by omega
  have e7 : a / 72057594037927936 = a / 281474976710656 / 256 := by omega
  have e8 : a / 72057594037927936 < 256 := by omega
  have e9 : 0 ≤ a / 72057594037927936 := by omega
  have e0 : a / 1 = a := Int.ediv_one a
  rw [e0]
  generalize a / 72057594037927936 = q7 at *
  generalize a / 281474976710656 = q6 at *
  generalize a / 1099511627776 = q5 at *
  generalize a / 4294967296 = q4 at *
  generalize a / 16777216 = q3 at *
  generalize a / 65536 = q2 at *
  generalize hq : a / 256 = q1 at *
  have s0 : a = q1 * 256 + a % 256 := by omega
  have s1 : q1 = q2 * 256 + q1 % 256 := by omega
  have s2 : q2 = q3 * 256 + q2 % 256 := by omega
  have s3 : q3 = q4 * 256 + q3 % 256 := by omega
  have s4 : q4 = q5 * 256 + q4 % 256 := by omega
  have s5 : q5 = q6 * 256 + q5 % 256 := by omega
  have s6 : q6 = q7 * 256 + q6 % 256 := by omega
  have s7 : q7 % 256 = q7 := by omega
  rw [s7]
  clear s7 e2 e3 e4 e5 e6 e7 e8 e9 e0 hq h0 h
  generalize a % 256 = r0 at *
  generalize q1 % 256 = r1 at *
  generalize q2 % 256 = r2 at *
  generalize q3 % 256 = r3 at *
  generalize q4 % 256 = r4 at *
  generalize q5 % 256 = r5 at *
  generalize q6 % 256 = r6 at *
  omega

theorem byte_back (b : UInt8) (n : Int) (h : n = b.toNat) : UInt8.ofNat n.toNat = b := by
  rw [h, Int.toNat_natCast]; exact UInt8.ofNat_toNat

theorem put_word (s : ByteArray) (hs : s.size = 8) : putWord (Wd.word s) = s := by
  obtain ⟨⟨l⟩⟩ := s
  replace hs : l.length = 8 := hs
  match l, hs with
  | [b0, b1, b2, b3, b4, b5, b6, b7], _ =>
    have := b0.toNat_lt
    have := b1.toNat_lt
    have := b2.toNat_lt
    have := b3.toNat_lt
    have := b4.toNat_lt
    have := b5.toNat_lt
    have := b6.toNat_lt
    have := b7.toNat_lt
    rw [word8, putWord_eq]
    rw [byte_back b0 _ (by omega), byte_back b1 _ (by omega), byte_back b2 _ (by omega), byte_back b3 _ (by omega), byte_back b4 _ (by omega), byte_back b5 _ (by omega), byte_back b6 _ (by omega), byte_back b7 _ (by omega)]

theorem put_is (s : ByteArray) (hs : s.size = 8) (a : Int) (h0 : 0 ≤ a) (h : a < 18446744073709551616) : (putWord a).toList = s.toList ↔ Wd.word s = a := by
  constructor
  · intro e
    rw [← ba_ext e, word_put a h0 h]
  · intro e
    rw [← e, put_word s hs]

theorem and_P (x : Int) (h0 : 0 ≤ x) (h1 : x < 18446744073709551616) : Go.bits .and .u64 x 2305843009213693951 = x % 2305843009213693952 :=
  bits_mask .u64 64 (by decide) wraps_u64 61 (by decide) x h0 h1

/-- the first x of a word, and the root there -/
def gx (w : Int) : Int := w % 2305843009213693952
def gy (x : Int) : Int := even (rhs x ^ 576460752303423488 % 2305843009213693951)
def gok (x : Int) : Prop := (rhs x ^ 576460752303423488 % 2305843009213693951) * (rhs x ^ 576460752303423488 % 2305843009213693951) % 2305843009213693951 = rhs x
instance (x : Int) : Decidable (gok x) := by unfold gok; infer_instance
/-- the point of a word, and whether there is one -/
def getP (w : Int) : Int × Int × Bool × Bool :=
  if gx w < 2305843009213693951 ∧ gok (gx w) ∧ w / 4611686018427387904 = 1 then
    if w / 2305843009213693952 % 2 = 0 then (gx w, gy (gx w), false, true)
    else if gy (gx w) = 0 then (0, 0, true, false) else (gx w, 2305843009213693951 - gy (gx w), false, true)
  else (0, 0, true, false)
/-- the point of a text -/
def getS (s : ByteArray) : Int × Int × Bool × Bool := if s.size = 8 then getP (Wd.word s) else (0, 0, true, false)

theorem rhs_range (x : Int) : 0 ≤ rhs x ∧ rhs x < 2305843009213693951 := by unfold rhs; omega

theorem even_range {r : Int} (h0 : 0 ≤ r) (h : r < 2305843009213693951) : 0 ≤ even r ∧ even r < 2305843009213693951 ∧ even r % 2 = 0 := by
  unfold even; split <;> omega
theorem even_sq (r : Int) : even r * even r % 2305843009213693951 = r * r % 2305843009213693951 := by
  unfold even; split
  · exact neg_sq r
  · rfl
theorem gy_range (x : Int) : 0 ≤ gy x ∧ gy x < 2305843009213693951 ∧ gy x % 2 = 0 :=
  even_range (Int.emod_nonneg _ (by decide)) (Int.emod_lt_of_pos _ (by decide))
theorem gy_oc {x : Int} (h : x < 2305843009213693951) (hk : gok x) : oc x (gy x) false = true := by
  rw [oc_f, decide_eq_true_eq]
  refine ⟨h, (gy_range x).2.1, ?_⟩
  unfold gy; rw [even_sq]; exact hk
theorem gy_oc' {x : Int} (h : x < 2305843009213693951) (hk : gok x) (h0 : gy x ≠ 0) : oc x (2305843009213693951 - gy x) false = true := by
  rw [oc_f, decide_eq_true_eq]
  have := gy_range x
  refine ⟨h, by omega, ?_⟩
  rw [neg_sq]; unfold gy; rw [even_sq]; exact hk

theorem pt_even {x : Int} (h : x < 2305843009213693951) (hk : gok x) : ptWord x (gy x) false = x + 4611686018427387904 := by
  unfold ptWord; rw [if_pos ⟨gy_oc h hk, rfl⟩, (gy_range x).2.2]; omega
theorem pt_odd {x : Int} (h : x < 2305843009213693951) (hk : gok x) (h0 : gy x ≠ 0) : ptWord x (2305843009213693951 - gy x) false = x + 6917529027641081856 := by
  have := gy_range x
  unfold ptWord; rw [if_pos ⟨gy_oc' h hk h0, rfl⟩, show (2305843009213693951 - gy x) % 2 = 1 by omega]; omega

theorem sqrt_at (x : Int) {k : Nat} (hk : 131 ≤ k) : spec_Sqrt.f k (rhs x) = some (if (rhs x ^ 576460752303423488 % 2305843009213693951) * (rhs x ^ 576460752303423488 % 2305843009213693951) % 2305843009213693951 = rhs x then (gy x, true) else (0, false)) := by
  have := rhs_range x
  rw [sqrt_spec _ this.1 (by omega) hk, if_neg (by omega)]; rfl
theorem root_at (x : Int) {k : Nat} (hk : 10 ≤ k) : impl_num_impl_fieldP_root.f k (rhs x) = some (gy x, (rhs x ^ 576460752303423488 % 2305843009213693951) * (rhs x ^ 576460752303423488 % 2305843009213693951) % 2305843009213693951 == rhs x) := by
  have := rhs_range x
  rw [root_P _ this.1 (by omega) hk]; rfl

theorem getPoint_spec (s : ByteArray) {k : Nat} (hk : 140 ≤ k) : spec_GetPoint.f k s = some (getS s) := by
  obtain ⟨k, rfl⟩ : ∃ j, k = j + 1 := ⟨k - 1, by omega⟩
  unfold spec_GetPoint.f getS
  by_cases hs : s.size = 8
  · have hs' : (s.size : Int) = 8 := by omega
    rw [if_pos hs', if_pos hs, Wd.spec_word s (by omega) (by omega), Option.bind_some]
    have hw := Wd.word_range s
    rw [Int.tmod_eq_emod_of_nonneg hw.1]
    have hx : 0 ≤ Wd.word s % 2305843009213693952 ∧ Wd.word s % 2305843009213693952 < 2305843009213693952 := by omega
    unfold getP gx
    have hput := put_is s hs
    generalize hxx : Wd.word s % 2305843009213693952 = x at *
    generalize Wd.word s = w at *
    by_cases h : x ≥ 2305843009213693951
    · rw [if_pos h, if_neg (fun e => by omega)]; rfl
    · have hx1 : x < 2305843009213693951 := by omega
      rw [if_neg h, right_P x hx.1 hx1, Option.bind_some, sqrt_at x (by omega), Option.bind_some]
      by_cases hk2 : gok x
      · rw [if_pos (show _ = rhs x from hk2), if_pos rfl]
        have hg := gy_range x
        rw [putPoint_spec x (gy x) false hx.1 (by omega) hg.1 (by omega) (by omega), Option.bind_some, pt_even hx1 hk2]
        by_cases he : (putWord (x + 4611686018427387904)).toList = s.toList
        · rw [if_pos he]
          have he2 := (hput _ (by omega) (by omega)).1 he
          rw [spec_GetPoint.j0, putPoint_spec x (gy x) false hx.1 (by omega) hg.1 (by omega) (by omega), Option.bind_some, pt_even hx1 hk2, if_pos he]
          rw [if_pos ⟨hx1, hk2, by omega⟩, if_pos (by omega)]
        · rw [if_neg he]
          have he2 : w ≠ x + 4611686018427387904 := fun e => he ((hput _ (by omega) (by omega)).2 e)
          unfold spec_Negative.f
          rw [onCurve_spec x (gy x) false hx.1 hg.1, Option.bind_some, if_pos (gy_oc hx1 hk2), if_neg (by decide), Option.bind_some]
          simp only [spec_GetPoint.j0]
          rw [wu (by omega) (by omega), Int.tmod_eq_emod_of_nonneg (by omega)]
          by_cases h0 : gy x = 0
          · rw [h0]
            have e0 : ((2305843009213693951 : Int) - 0) % 2305843009213693951 = 0 := by decide
            rw [e0]
            have hp := putPoint_spec x (gy x) false hx.1 (by omega) hg.1 (by omega) (k := k) (by omega)
            rw [pt_even hx1 hk2, h0] at hp
            rw [hp, Option.bind_some, if_neg he]
            simp only [spec_l3Zero.f, Option.bind_some]
            rw [if_pos trivial]
            by_cases hc : w / 4611686018427387904 = 1
            · rw [if_pos ⟨hx1, hk2, hc⟩, if_neg (by omega)]
            · rw [if_neg (fun e => hc e.2.2)]
          · rw [Int.emod_eq_of_lt (by omega) (by omega)]
            rw [putPoint_spec x _ false hx.1 (by omega) (by omega) (by omega) (by omega), Option.bind_some, pt_odd hx1 hk2 h0]
            by_cases ho : (putWord (x + 6917529027641081856)).toList = s.toList
            · have ho2 := (hput _ (by omega) (by omega)).1 ho
              rw [if_pos ho, if_pos ⟨hx1, hk2, by omega⟩, if_neg (by omega), if_neg h0]
            · have ho2 : w ≠ x + 6917529027641081856 := fun e => ho ((hput _ (by omega) (by omega)).2 e)
              rw [if_neg ho]
              simp only [spec_l3Zero.f, Option.bind_some]
              rw [if_neg (fun e => by omega)]
      · rw [if_neg (show ¬ _ = rhs x from hk2), if_neg (by decide), if_neg (fun e => hk2 e.2.1)]; rfl
  · rw [if_neg (by omega), if_neg hs]; rfl

theorem negative_at (y : Int) (h0 : 0 ≤ y) (h : y < 2305843009213693951) : impl_num_impl_fieldP_negative.f y = some (if y = 0 then 0 else 2305843009213693951 - y) := negative_P y h0 h

theorem getPoint_impl (s : ByteArray) {k : Nat} (hk : 140 ≤ k) : impl_GetPoint.f k s = some (getS s) := by
  obtain ⟨k, rfl⟩ : ∃ j, k = j + 1 := ⟨k - 1, by omega⟩
  unfold impl_GetPoint.f getS
  by_cases hs : s.size = 8
  · have hs' : (s.size : Int) = 8 := by omega
    rw [if_pos hs', if_pos hs, Wd.impl_word s (by omega) (by omega), Option.bind_some]
    have hw := Wd.word_range s
    rw [and_P _ hw.1 hw.2]
    have hx : 0 ≤ Wd.word s % 2305843009213693952 ∧ Wd.word s % 2305843009213693952 < 2305843009213693952 := by omega
    have hbit : Go.bits .and .u64 (Wd.word s / 2305843009213693952) 1 = Wd.word s / 2305843009213693952 % 2 := and_one _ (by omega) (by omega)
    unfold getP gx
    have hput := put_is s hs
    simp only [impl_GetPoint.j0]
    rw [hbit]
    generalize hxx : Wd.word s % 2305843009213693952 = x at *
    generalize Wd.word s = w at *
    have hn : impl_numOf_impl_fieldP.f x = some (x % 2305843009213693951) := by
      simp only [impl_numOf_impl_fieldP.f, impl_prime_impl_fieldP.f, Option.bind_some]
      rw [show primefieldP = 2305843009213693951 from rfl, if_neg (by decide), Int.tmod_eq_emod_of_nonneg hx.1]
    rw [hn, Option.bind_some, curveAt_P _ (by omega) (by omega) (by omega), Option.bind_some, root_at _ (by omega), Option.bind_some]
    by_cases h : x ≥ 2305843009213693951
    · rw [if_pos h, if_neg (c := x < 2305843009213693951 ∧ _) (fun e => by omega)]
      split <;> rw [if_pos trivial]
    · have hx1 : x < 2305843009213693951 := by omega
      rw [if_neg h, Int.emod_eq_of_lt hx.1 hx1]
      have hg := gy_range x
      by_cases hc : w / 4611686018427387904 = 1
      · rw [if_pos hc]
        by_cases hk2 : gok x
        · rw [if_pos (c := x < 2305843009213693951 ∧ _) ⟨hx1, hk2, hc⟩, beq_iff_eq.2 (show _ = rhs x from hk2), if_neg (show ¬ (!true) = true by decide)]
          by_cases hb : w / 2305843009213693952 % 2 = 1
          · rw [if_pos hb, if_neg (by omega), negative_at _ hg.1 hg.2.1, Option.bind_some]
            by_cases h0 : gy x = 0
            · rw [if_pos h0, if_pos h0]
              have hp := putPoint_impl x (gy x) false hx.1 (by omega) hg.1 (by omega) (k := k) (by omega)
              rw [pt_even hx1 hk2, h0] at hp
              rw [hp, Option.bind_some, if_neg (fun e => by have := (hput _ (by omega) (by omega)).1 e; omega)]
            · rw [if_neg h0, if_neg h0, putPoint_impl x _ false hx.1 (by omega) (by omega) (by omega) (by omega), Option.bind_some, pt_odd hx1 hk2 h0]
              rw [if_pos ((hput _ (by omega) (by omega)).2 (by omega))]
          · rw [if_neg hb, if_pos (by omega), putPoint_impl x _ false hx.1 (by omega) hg.1 (by omega) (by omega), Option.bind_some, pt_even hx1 hk2]
            rw [if_pos ((hput _ (by omega) (by omega)).2 (by omega))]
        · rw [if_neg (c := x < 2305843009213693951 ∧ _) (fun e => hk2 e.2.1), show (_ == rhs x) = false from beq_eq_false_iff_ne.2 hk2, if_pos (show (!false) = true by decide)]
      · rw [if_neg hc, if_pos trivial, if_neg (fun e => hc e.2.2)]
  · rw [if_neg (by omega), if_neg hs]
end Go.Proofs.YtkefcokmghbmhaaDoor.Pure
end
section
namespace Go.Proofs.YtkefcokmghbmhaaDoor.Pure
open Go.RowKit Go.Proofs.YtkefcokmghbmhaaDoor.B Go.Proofs.YtkefcokmghbmhaaDoor.C Go.Proofs.YtkefcokmghbmhaaDoor.H0 Go.Proofs.YtkefcokmghbmhaaDoor.H1 Go.Proofs.YtkefcokmghbmhaaDoor.H2 Go.Proofs.YtkefcokmghbmhaaDoor.H3 Go.Proofs.YtkefcokmghbmhaaDoor.H4 Go.Proofs.YtkefcokmghbmhaaDoor.CD Go.Proofs.YtkefcokmghbmhaaDoor.V2 Go.Proofs.YtkefcokmghbmhaaDoorW.PrintWords Go.Proofs.YtkefcokmghbmhaaDoorW.PrintLast Go.Proofs.YtkefcokmghbmhaaDoorW.PrintMore
open EC Fp Grp Vi
set_option linter.unusedVariables false
set_option linter.unusedSimpArgs false
def enc : Pt → Int × Int × Bool
  | .zero => (0, 0, true)
  | .aff x y => (vi x, vi y, false)

theorem vi_u (a : Fp) : 0 ≤ vi a ∧ vi a < 18446744073709551616 := by have := vi_range a; omega

theorem rhs_ints (x p : Int) : (((x * x % p * x) % p - (3 * x) % p) % p + 111) % p = (x * x * x - 3 * x + 111) % p := by
  obtain ⟨k1, e1⟩ := mod_out (x * x) p
  obtain ⟨k2, e2⟩ := mod_out (x * x % p * x) p
  obtain ⟨k3, e3⟩ := mod_out (3 * x) p
  obtain ⟨k4, e4⟩ := mod_out ((x * x % p * x) % p - (3 * x) % p) p
  rw [e4, e3, e2, e1]
  refine Int.emod_eq_emod_iff_emod_sub_eq_zero.2 (Int.emod_eq_zero_of_dvd ⟨-k4 + k3 - k2 - k1 * x, ?_⟩)
  grind
theorem rhs_vi (a : Fp) : rhs (vi a) = vi (Swu.g a) := by
  have e : Swu.g a = a * a * a - 3 * a + 111 := by unfold Swu.g; grobner
  rw [e, ← vi_add, ← vi_sub, ← vi_mul, ← vi_mul, ← vi_mul, show vi 3 = 3 from rfl, show vi 111 = 111 from rfl, rhs_ints]
  rfl

theorem oc_aff (a b : Fp) : oc (vi a) (vi b) false = true ↔ Cv (.aff a b) := by
  rw [oc_f, decide_eq_true_eq]
  rw [vi_mul, rhs_vi]
  constructor
  · rintro ⟨_, _, h⟩
    exact vi_inj h
  · intro h
    exact ⟨(vi_range a).2, (vi_range b).2, congrArg vi h⟩

theorem oc_enc {p : Pt} (h : Cv p) : oc (enc p).1 (enc p).2.1 (enc p).2.2 = true := by
  cases p with
  | zero => rfl
  | aff x y => exact (oc_aff x y).2 h

theorem inv_spec (a : Fp) {k : Nat} (hk : 131 ≤ k) : spec_InvMod.f k (vi a) 2305843009213693951 = some (vi (inv a)) := by
  unfold spec_InvMod.f
  rw [if_neg (by decide), show IntKind.u64.wrap (2305843009213693951 - 2) = 2305843009213693949 by decide, spec_powmod _ _ _ (vi_u a).1 (by decide) (by decide) (by decide) (by decide) hk]
  simp only [Option.bind_some]
  rw [if_neg (by decide), vi_inv a (2305843009213693949 : Int).toNat (by decide)]

theorem l2T (a b : Fp) : spec_l2Times.f (vi a) (vi b) = some (vi (a * b)) := by
  rw [l2Times (vi_range a).1 (vi_range a).2 (vi_range b).1 (vi_range b).2, vi_mul]
theorem l3M (a b : Fp) : spec_l3Minus.f (vi a) (vi b) = some (vi (a - b)) := by
  rw [l3Minus_P _ _ (vi_range a).1 (vi_range a).2 (vi_range b).1 (vi_range b).2, vi_sub]
theorem l2A (a b : Fp) : spec_l2Add.f (vi a) (vi b) 2305843009213693951 = some (vi (a + b)) := by
  rw [l2Add (vi_range a).1 (vi_range a).2 (vi_range b).1 (vi_range b).2 (by decide), vi_add]

theorem l3Sum_by (x1 y1 x2 y2 u d : Fp) {k : Nat} (hk : 132 ≤ k) :
    spec_l3Sum.j0 k (vi u) (vi d) (vi x1) (vi y1) false (vi x2) (vi y2) false = some (enc (by' (u * inv d) x1 y1 x2)) := by
  obtain ⟨k, rfl⟩ : ∃ j, k = j + 1 := ⟨k - 1, by omega⟩
  rw [spec_l3Sum.j0]
  rw [inv_spec _ (by omega), Option.bind_some]
  rw [l2T, Option.bind_some]
  rw [l2T, Option.bind_some]
  rw [l3M, Option.bind_some]
  rw [l3M, Option.bind_some]
  rw [l3M, Option.bind_some]
  rw [l2T, Option.bind_some]
  rw [l3M, Option.bind_some]
  simp only [enc, by']

theorem l3Sum_aff (x1 y1 x2 y2 : Fp) {k : Nat} (hk : 132 ≤ k) : spec_l3Sum.f k (vi x1) (vi y1) false (vi x2) (vi y2) false = some (enc (pl (.aff x1 y1) (.aff x2 y2))) := by
  unfold spec_l3Sum.f
  rw [if_neg (by decide), if_neg (by decide), l3M, Option.bind_some, l3M, Option.bind_some]
  by_cases hx : x1 = x2
  · subst hx
    rw [if_pos rfl, l2A, Option.bind_some]
    rw [show pl (Pt.aff x1 y1) (Pt.aff x1 y2) = if y1 + y2 = 0 then Pt.zero else by' ((3*(x1*x1)+(-3))*inv (y1+y1)) x1 y1 x1 from by simp [pl, add]]
    by_cases hy : y1 + y2 = 0
    · rw [if_pos (vi_zero.2 hy), if_pos hy]; rfl
    · rw [if_neg (fun h => hy (vi_zero.1 h)), if_neg hy, l2T, Option.bind_some]
      rw [show (3 : Int) = vi 3 from rfl, l2T, Option.bind_some]
      rw [l3M, Option.bind_some]
      rw [l2A, Option.bind_some]
      rw [l3Sum_by _ _ _ _ _ _ hk, show 3 * (x1 * x1) - 3 = 3 * (x1 * x1) + (-3) by grobner]
  · rw [if_neg (fun h => hx (vi_inj h)), l3Sum_by _ _ _ _ _ _ hk]
    rw [show pl (Pt.aff x1 y1) (Pt.aff x2 y2) = by' ((y2-y1)*inv (x2-x1)) x1 y1 x2 from by simp [pl, add, hx]]

theorem l3Sum_spec (p q : Pt) {k : Nat} (hk : 132 ≤ k) : spec_l3Sum.f k (enc p).1 (enc p).2.1 (enc p).2.2 (enc q).1 (enc q).2.1 (enc q).2.2 = some (enc (pl p q)) := by
  cases p with
  | zero =>
    unfold spec_l3Sum.f
    rw [if_pos (show (enc Pt.zero).2.2 = true from rfl), show pl .zero q = q from add_zero_left _ q]
  | aff x1 y1 =>
    cases q with
    | zero =>
      unfold spec_l3Sum.f
      rw [if_neg (by simp [enc]), if_pos (show (enc Pt.zero).2.2 = true from rfl)]; rfl
    | aff x2 y2 => exact l3Sum_aff x1 y1 x2 y2 hk

theorem sm_double {p : Pt} (hp : Cv p) (n : Nat) : pl (sm' n p) (sm' n p) = sm' (2 * n) p := (sm_bit hp n).symm
theorem sm_next {p : Pt} (hp : Cv p) (n : Nat) : pl (sm' n p) p = sm' (n + 1) p := by rw [sm_add hp n 1, sm_one]

theorem spec_times_go {p : Pt} (hp : Cv p) {e : Int} (he0 : 0 ≤ e) : ∀ (d k : Nat), d ≤ 64 → d + 133 < k → ∀ r : Pt, r = sm' (e / 2 ^ d).toNat p →
    spec_Times.l0 k e ((d : Int) - 1) (enc p).1 (enc p).2.1 (enc p).2.2 (enc r).1 (enc r).2.1 (enc r).2.2 = some (enc (sm' e.toNat p))
  | 0, k, _, hk, r, hr => by
    obtain ⟨k, rfl⟩ : ∃ j, k = j + 1 := ⟨k - 1, by omega⟩
    rw [spec_Times.l0]
    rw [if_neg (by omega), hr]
    simp
  | d + 1, k, hd, hk, r, hr => by
    obtain ⟨k, rfl⟩ : ∃ j, k = j + 1 := ⟨k - 1, by omega⟩
    rw [spec_Times.l0]
    rw [if_pos (by omega), l3Sum_spec r r (by omega), Option.bind_some]
    rw [show (((d + 1 : Nat) : Int) - 1) = (d : Int) by omega, wu (by omega) (by omega), if_pos (by omega), wrap64_in (by omega) (by omega)]
    have hs : shr .u64 e (d : Int) = e / 2 ^ d := by
      unfold shr; rw [show min (Int.toNat (d : Int)) IntKind.u64.bits = d by simp [IntKind.bits]; omega]
    have hq0 : 0 ≤ e / 2 ^ d := Int.ediv_nonneg he0 (Int.pow_nonneg (by decide))
    rw [hs, Int.tmod_eq_emod_of_nonneg hq0]
    have hp2 : e / 2 ^ (d + 1) = e / 2 ^ d / 2 := by rw [Int.pow_succ, Int.ediv_ediv_of_nonneg (Int.pow_nonneg (by decide))]
    have hdr : pl r r = sm' (2 * (e / 2 ^ d / 2).toNat) p := by rw [hr, hp2, sm_double hp]
    by_cases hb : e / 2 ^ d % 2 = 1
    · rw [if_pos hb, l3Sum_spec (pl r r) p (by omega), Option.bind_some]
      refine spec_times_go hp he0 d k (by omega) (by omega) _ ?_
      rw [hdr, sm_next hp]
      congr 1; omega
    · rw [if_neg hb]
      refine spec_times_go hp he0 d k (by omega) (by omega) _ ?_
      rw [hdr]
      congr 1; omega

theorem times_spec (p : Pt) (hp : Cv p) (e : Int) (he0 : 0 ≤ e) (he : e < 18446744073709551616) {k : Nat} (hk : 200 ≤ k) : spec_Times.f k e (enc p).1 (enc p).2.1 (enc p).2.2 = some (enc (sm' e.toNat p)) := by
  have up : 0 ≤ (enc p).1 ∧ 0 ≤ (enc p).2.1 := by
    cases p
    · exact ⟨by decide, by decide⟩
    · exact ⟨(vi_u _).1, (vi_u _).1⟩
  unfold spec_Times.f spec_l3Zero.f
  simp only [Option.bind_some]
  rw [onCurve_spec _ _ _ up.1 up.2, Option.bind_some]
  rw [if_pos (oc_enc hp)]
  refine spec_times_go hp he0 64 k (by omega) (by omega) .zero ?_
  rw [Int.ediv_eq_zero_of_lt he0 (by omega)]; rfl

end Go.Proofs.YtkefcokmghbmhaaDoor.Pure
end
