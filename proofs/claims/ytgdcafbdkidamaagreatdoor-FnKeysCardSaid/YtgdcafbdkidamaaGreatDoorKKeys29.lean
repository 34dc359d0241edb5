/- What the proof of FnKeys leans on, part 29: cut out of the texts of this claim's making by a program (wip/tools/pack.py). -/
import Derived.Test.YtgdcafbdkidamaaGreatDoorKKeys13
import Derived.Test.YtgdcafbdkidamaaGreatDoorKKeys14
import Derived.Test.YtgdcafbdkidamaaGreatDoorKKeys26
import Derived.Test.YtgdcafbdkidamaaGreatDoorKKeys27
import Derived.OpenShut
section
namespace Go.Proofs.YtgdcafbdkidamaaGreatDoor.Pure
open Go.RowKit Go.Proofs.YtgdcafbdkidamaaGreatDoor.B Go.Proofs.YtgdcafbdkidamaaGreatDoor.H0 Go.Proofs.YtgdcafbdkidamaaGreatDoor.H1 Go.Proofs.YtgdcafbdkidamaaGreatDoor.H2 Go.Proofs.YtgdcafbdkidamaaGreatDoorW.PrintWords Go.Proofs.YtgdcafbdkidamaaGreatDoorW.PrintLast Go.Proofs.YtgdcafbdkidamaaGreatDoorW.PrintMore
set_option linter.unusedVariables false
set_option linter.unusedSimpArgs false
theorem spec_mulmod (a b m : Int) (ha0 : 0 ≤ a) (hb0 : 0 ≤ b) (hm0 : 0 ≤ m) (hm : m < 18446744073709551616) {k : Nat} (hk : 66 ≤ k) :
    spec_MulMod.f k a b m = some (if m = 0 then 0 else a * b % m) := by
  unfold spec_MulMod.f
  by_cases h : m = 0
  · rw [if_pos h, if_pos h]
  · rw [if_neg h, if_neg h, Int.tmod_eq_emod_of_nonneg ha0, Int.tmod_eq_emod_of_nonneg hb0]
    have hp : 0 < m := by omega
    have a0 := Int.emod_nonneg a h
    have a1 := Int.emod_lt_of_pos a hp
    have b0 := Int.emod_nonneg b h
    have b1 := Int.emod_lt_of_pos b hp
    by_cases hP : m = 2305843009213693951
    · rw [if_pos hP]
      rw [l2Times a0 (by omega) b0 (by omega)]
      simp only [Option.bind_some]
      subst hP
      rw [← Int.mul_emod]
    · rw [if_neg hP]
      have := spec_mul_go (x := a % m) (y := b % m) (m := m) a0 a1 b0 hm 64 k 0 (by omega) (by omega) (by
        rw [Int.ediv_eq_zero_of_lt b0 (by have : (2:Int) ^ 64 = 18446744073709551616 := by decide
                                          omega)]; simp)
      rw [show ((64 : Nat) : Int) - 1 = 63 by rfl] at this
      rw [this, ← Int.mul_emod]

theorem pow_step {a r m : Int} {q : Nat} (h : r = a ^ q % m) : r * r % m = a ^ (2 * q) % m := by
  rw [h, ← Int.mul_emod, ← Int.pow_add]; congr 2; omega
theorem pow_step1 {a r m : Int} {q : Nat} (h : r = a ^ q % m) : r * a % m = a ^ (q + 1) % m := by
  rw [h, Int.pow_succ, Int.mul_emod, Int.emod_emod, ← Int.mul_emod]

theorem spec_pow_go {a e m : Int} (ha0 : 0 ≤ a) (he0 : 0 ≤ e) (hm0 : 0 < m) (hm : m < 18446744073709551616) : ∀ (d k : Nat) (r : Int), d ≤ 64 → d + 66 < k → r = a ^ (e / 2 ^ d).toNat % m →
    spec_PowMod.l0 k a e m r ((d : Int) - 1) = some (a ^ e.toNat % m)
  | 0, k, r, _, hk, hr => by
    obtain ⟨k, rfl⟩ : ∃ j, k = j + 1 := ⟨k - 1, by omega⟩
    simp only [spec_PowMod.l0]; rw [if_neg (by omega), hr]; simp
  | d + 1, k, r, hd, hk, hr => by
    obtain ⟨k, rfl⟩ : ∃ j, k = j + 1 := ⟨k - 1, by omega⟩
    have hr0 := Int.emod_nonneg (a ^ (e / 2 ^ (d + 1)).toNat) (show m ≠ 0 by omega)
    rw [← hr] at hr0
    have hn : m ≠ 0 := by omega
    have ht0 := Int.emod_nonneg (r * r) hn
    simp only [spec_PowMod.l0]
    rw [if_pos (by omega), spec_mulmod r r m hr0 hr0 (by omega) hm (by omega), if_neg hn]
    simp only [Option.bind_some]
    rw [show ((d + 1 : Nat) : Int) - 1 = (d : Int) by omega, shr_at e d (by omega), wu (show 0 ≤ (d : Int) by omega) (by omega), if_pos (by omega), wrap_pred d (by omega)]
    have hyd : 0 ≤ e / 2 ^ d := Int.ediv_nonneg he0 (Int.pow_nonneg (by decide))
    rw [Int.tmod_eq_emod_of_nonneg hyd]
    have hp := half_pow e d
    have e2 := pow_step hr
    by_cases hb : e / 2 ^ d % 2 = 1
    · rw [if_pos hb, spec_mulmod _ a m ht0 ha0 (by omega) hm (by omega), if_neg hn]
      simp only [Option.bind_some]
      apply spec_pow_go ha0 he0 hm0 hm d k _ (by omega) (by omega)
      rw [pow_step1 e2]
      congr 2
      omega
    · rw [if_neg hb]
      apply spec_pow_go ha0 he0 hm0 hm d k _ (by omega) (by omega)
      rw [e2]
      congr 2
      omega

theorem spec_powmod (a e m : Int) (ha0 : 0 ≤ a) (he0 : 0 ≤ e) (he : e < 18446744073709551616) (hm0 : 0 ≤ m) (hm : m < 18446744073709551616) {k : Nat} (hk : 131 ≤ k) :
    spec_PowMod.f k a e m = some (if m = 0 then 0 else a ^ e.toNat % m) := by
  unfold spec_PowMod.f
  by_cases h : m = 0
  · rw [if_pos h, if_pos h]
  · rw [if_neg h, if_neg h]
    have := spec_pow_go (a := a) (e := e) (m := m) ha0 he0 (by omega) hm 64 k (1 % m) (by omega) (by omega) (by
      rw [Int.ediv_eq_zero_of_lt he0 (by have : (2:Int) ^ 64 = 18446744073709551616 := by decide
                                         omega)]; simp)
    rwa [show ((64 : Nat) : Int) - 1 = 63 by rfl] at this

theorem and_one (x : Int) (h0 : 0 ≤ x) (h1 : x < 18446744073709551616) : Go.bits .and .u64 x 1 = x % 2 :=
  bits_mask .u64 64 (by decide) wraps_u64 1 (by decide) x h0 h1

theorem xbit_eq {e : Int} (he0 : 0 ≤ e) (he : e < 18446744073709551616) (i : Nat) : xbit e i = decide (e / 2 ^ i % 2 = 1) := by
  unfold xbit
  have h0 : 0 ≤ e / 2 ^ i := Int.ediv_nonneg he0 (Int.pow_nonneg (by decide))
  have h1 : e / 2 ^ i ≤ e := Int.ediv_le_self _ he0
  rw [and_one _ h0 (by omega)]
  rfl

/-- a fold over the bits, the highest first: what each step keeps -/
theorem bits_fold {σ : Type} (f : σ → Bool → σ) (V : Int → σ → Prop) {e : Int} (he0 : 0 ≤ e) (he : e < 18446744073709551616)
    (step : ∀ q s b, 0 ≤ q → V q s → V (2 * q + if b then 1 else 0) (f s b)) : ∀ (n : Nat) (s : σ), V (e / 2 ^ n) s → V e ((bitsDown e n).foldl f s)
  | 0, s, h => by simpa [bitsDown] using h
  | n + 1, s, h => by
    simp only [bitsDown, List.foldl_cons]
    apply bits_fold f V he0 he step n
    have hp := half_pow e n
    have := step _ _ (xbit e n) (Int.ediv_nonneg he0 (Int.pow_nonneg (by decide))) h
    rw [xbit_eq he0 he] at *
    by_cases hb : e / 2 ^ n % 2 = 1
    · rw [decide_eq_true hb] at *
      rw [if_pos rfl] at this
      rwa [show e / 2 ^ n = 2 * (e / 2 ^ (n + 1)) + 1 by omega]
    · rw [decide_eq_false hb] at *
      rw [if_neg (by decide)] at this
      rwa [show e / 2 ^ n = 2 * (e / 2 ^ (n + 1)) + 0 by omega]

theorem bits_fold_all {σ : Type} (f : σ → Bool → σ) (V : Int → σ → Prop) {e : Int} (he0 : 0 ≤ e) (he : e < 18446744073709551616)
    (step : ∀ q s b, 0 ≤ q → V q s → V (2 * q + if b then 1 else 0) (f s b)) (s : σ) (h : V 0 s) : V e ((bitsOf e).foldl f s) := by
  apply bits_fold f V he0 he step
  by_cases hz : e = 0
  · subst hz; simpa using h
  · have := bitLen_spec (m := e) (by omega) he
    rwa [Int.ediv_eq_zero_of_lt he0 this.2.2.2]

theorem pfold_eq (a e m : Int) (he0 : 0 ≤ e) (he : e < 18446744073709551616) (hm : m ≠ 0) : pfold a m (bitsOf e) = a ^ e.toNat % m := by
  unfold pfold
  refine bits_fold_all (pst a m) (fun q r => r = a ^ q.toNat % m) he0 he ?_ (1 % m) (by simp)
  intro q s b hq h
  have e2 := pow_step h
  unfold pst mm
  rw [if_neg hm, if_neg hm]
  cases b
  · rw [if_neg (by decide), if_neg (by decide), e2]; congr 2; omega
  · rw [if_pos rfl, if_pos rfl, pow_step1 e2]; congr 2; omega

/-- the remainder of a run of bytes -/
def red (a : ByteArray) (m : Int) (i : Nat) : Nat → Int → Int
  | 0, r => r
  | n + 1, r => red a m (i + 1) n ((256 * r + bt a i) % m)

theorem bt_range (a : ByteArray) (i : Int) : 0 ≤ bt a i ∧ bt a i < 256 := by
  unfold bt
  split
  · have := UInt8.toNat_lt (a[i.toNat])
    omega
  · omega

theorem red_range {a : ByteArray} {m : Int} (hm : 0 < m) : ∀ (n i : Nat) (r : Int), 0 ≤ r → r < m → 0 ≤ red a m i n r ∧ red a m i n r < m
  | 0, _, r, h0, h1 => ⟨h0, h1⟩
  | n + 1, i, r, h0, h1 => red_range hm n (i + 1) _ (Int.emod_nonneg _ (by omega)) (Int.emod_lt_of_pos _ hm)

theorem shr8_at (x : Int) (d : Nat) (hd : d ≤ 7) : shr .u8 x (IntKind.u64.wrap (d : Int)) = x / 2 ^ d := by
  rw [wu (by omega) (by omega)]; unfold shr; rw [show min (Int.toNat (d : Int)) IntKind.u8.bits = d by simp [IntKind.bits]; omega]

theorem mod_two_pow (b : Int) (d : Nat) : b % 2 ^ (d + 1) = b / 2 ^ d % 2 * 2 ^ d + b % 2 ^ d := by
  have h3 := half_pow b d
  have h1 := Int.emod_add_mul_ediv b (2 ^ d)
  have h2 := Int.emod_add_mul_ediv b (2 ^ (d + 1))
  have h4 := Int.emod_add_mul_ediv (b / 2 ^ d) 2
  rw [h3] at h2
  rw [Int.pow_succ] at *
  generalize (2 : Int) ^ d = P at *
  generalize b / P / 2 = q at *
  generalize b / P = s at *
  generalize s % 2 = t at *
  generalize b % P = u at *
  generalize b % (P * 2) = v at *
  subst h4
  grind

theorem red_step {r t m P x : Int} (h : t = (2 * r + x) % m) (y : Int) : (t * P + y) % m = (r * (P * 2) + (x * P + y)) % m := by
  have e := Int.emod_add_mul_ediv (2 * r + x) m
  rw [← h] at e
  have : r * (P * 2) + (x * P + y) = t * P + y + m * ((2 * r + x) / m * P) := by
    have : (2 * r + x) * P = (t + m * ((2 * r + x) / m)) * P := by rw [e]
    grind
  rw [this, Int.add_mul_emod_self_left]

theorem spec_red_go {a : ByteArray} {m : Int} {i : Nat} (hi : i < a.size) (hm0 : 0 < m) (hm : m < 18446744073709551616) : ∀ (d k : Nat) (r : Int), d ≤ 8 → 0 ≤ r → r < m →
    spec_Reduce.l1 (k + d + 1) a m r i ((d : Int) - 1) = spec_Reduce.l0 k a m ((r * 2 ^ d + bt a i % 2 ^ d) % m) (wrap64 (i + 1))
  | 0, k, r, _, h0, h1 => by
    simp only [spec_Reduce.l1, Nat.add_zero]
    rw [if_neg (by omega), show (r * 2 ^ 0 + bt a i % 2 ^ 0) % m = r by simp only [Int.pow_zero, Int.mul_one, Int.emod_one, Int.add_zero]; exact Int.emod_eq_of_lt h0 h1]
  | d + 1, k, r, hd, h0, h1 => by
    have hr := bt_range a i
    have ht0 := Int.emod_nonneg (r + r) (show m ≠ 0 by omega)
    have ht1 := Int.emod_lt_of_pos (r + r) hm0
    have ho0 := Int.emod_nonneg 1 (show m ≠ 0 by omega)
    have ho1 := Int.emod_lt_of_pos 1 hm0
    rw [← Nat.add_assoc, spec_Reduce.l1]
    rw [if_pos (by omega), l2Add h0 h1 h0 h1 hm]
    simp only [Option.bind_some]
    rw [show ((d + 1 : Nat) : Int) - 1 = (d : Int) by omega, if_pos (by omega), if_pos (by omega), shr8_at _ d (by omega), wu (show 0 ≤ (d : Int) by omega) (by omega), if_pos (by omega), wrap_pred d (by omega)]
    have hyd : 0 ≤ bt a i / 2 ^ d := Int.ediv_nonneg hr.1 (Int.pow_nonneg (by decide))
    rw [Int.tmod_eq_emod_of_nonneg hyd]
    rw [mod_two_pow]
    by_cases hb : bt a i / 2 ^ d % 2 = 1
    · rw [if_pos hb, if_neg (by omega), l2Add ht0 ht1 ho0 ho1 hm]
      simp only [Option.bind_some]
      rw [hb, spec_red_go hi hm0 hm d k _ (by omega) (Int.emod_nonneg _ (by omega)) (Int.emod_lt_of_pos _ hm0)]
      rw [red_step (r := r) (x := 1) (P := 2 ^ d) (by rw [← Int.add_emod]; congr 1; omega), Int.pow_succ]
    · rw [if_neg hb]
      rw [show bt a i / 2 ^ d % 2 = 0 by omega, spec_red_go hi hm0 hm d k _ (by omega) (Int.emod_nonneg _ (by omega)) (Int.emod_lt_of_pos _ hm0)]
      rw [red_step (r := r) (x := 0) (P := 2 ^ d) (by congr 1; omega), Int.pow_succ]

theorem spec_red {a : ByteArray} {m : Int} (hs : a.size ≤ 65535) (hm0 : 0 < m) (hm : m < 18446744073709551616) : ∀ (n i k : Nat) (r : Int), i + n = a.size → 10 * n < k → 0 ≤ r → r < m →
    spec_Reduce.l0 k a m r i = some (red a m i n r)
  | 0, i, k, r, hn, hk, _, _ => by
    obtain ⟨k, rfl⟩ : ∃ j, k = j + 1 := ⟨k - 1, by omega⟩
    simp only [spec_Reduce.l0]; rw [if_neg (by omega)]; rfl
  | n + 1, i, k, r, hn, hk, h0, h1 => by
    obtain ⟨k, rfl⟩ : ∃ j, k = j + 8 + 1 + 1 := ⟨k - 10, by omega⟩
    have hr := bt_range a i
    simp only [spec_Reduce.l0]; rw [if_pos (by omega)]
    have := spec_red_go (a := a) (m := m) (i := i) (by omega) hm0 hm 8 k r (by omega) h0 h1
    rw [show ((8 : Nat) : Int) - 1 = 7 by rfl] at this
    rw [this, show wrap64 ((i : Int) + 1) = ((i + 1 : Nat) : Int) by rw [wrap64_in (by omega) (by omega)]; omega]
    rw [spec_red hs hm0 hm n (i + 1) k _ (by omega) (by omega) (Int.emod_nonneg _ (by omega)) (Int.emod_lt_of_pos _ hm0)]
    rw [show r * 2 ^ 8 + bt a i % 2 ^ 8 = 256 * r + bt a i by
      have : (2 : Int) ^ 8 = 256 := by decide
      rw [this]; omega]
    rfl

theorem spec_reduce (a : ByteArray) (m : Int) (hm0 : 0 ≤ m) (hm : m < 18446744073709551616) {k : Nat} (hk : 700000 ≤ k) :
    spec_Reduce.f k a m = some (if m = 0 ∨ 65535 < a.size then 0 else red a m 0 a.size 0) := by
  obtain ⟨k, rfl⟩ : ∃ j, k = j + 1 := ⟨k - 1, by omega⟩
  unfold spec_Reduce.f
  by_cases h : m = 0
  · rw [if_pos h, if_pos (.inl h)]; simp [spec_Reduce.j0]
  · rw [if_neg h]
    by_cases hs : 65535 < a.size
    · rw [decide_eq_true (show (a.size : Int) > 65535 by omega), if_pos (.inr hs)]; simp [spec_Reduce.j0]
    · rw [decide_eq_false (show ¬(a.size : Int) > 65535 by omega), if_neg (by omega)]
      simp only [spec_Reduce.j0]
      rw [if_neg (by decide)]
      exact spec_red (by omega) (by omega) hm a.size 0 k 0 (by omega) (by omega) (by omega) (by omega)

theorem impl_red {a : ByteArray} {m : Int} (hs : a.size ≤ 65535) (hm0 : 0 < m) (hm : m < 18446744073709551616) : ∀ (n i k : Nat) (r : Int), i + n = a.size → n + 10 < k → 0 ≤ r → r < m →
    impl_Reduce.l0 k a m r (a.size : Int) i = some (red a m i n r)
  | 0, i, k, r, hn, hk, _, _ => by
    obtain ⟨k, rfl⟩ : ∃ j, k = j + 1 := ⟨k - 1, by omega⟩
    simp only [impl_Reduce.l0]; rw [if_neg (by omega)]; rfl
  | n + 1, i, k, r, hn, hk, h0, h1 => by
    obtain ⟨k, rfl⟩ : ∃ j, k = j + 1 := ⟨k - 1, by omega⟩
    have hr := bt_range a i
    simp only [impl_Reduce.l0]
    have p8 : (2 : Int) ^ 8 = 256 := by decide
    have hw := wrap_u64 (r * 256)
    rw [if_pos (by omega), if_pos (by omega), if_pos (by omega), wu hr.1 (by omega), or_high 8 (by omega) (by omega) (by omega) (by rw [p8]; omega) hr.1 (by rw [p8]; omega), hw]
    obtain ⟨v, hv⟩ := div64 (r / 72057594037927936) (r * 256 % 18446744073709551616 + bt a i) m (by omega) (by omega) (by omega) (by omega) hm (k := k) (by omega)
    rw [hv]
    simp only [Option.bind_some]
    rw [show wrap64 ((i : Int) + 1) = ((i + 1 : Nat) : Int) by rw [wrap64_in (by omega) (by omega)]; omega]
    rw [impl_red hs hm0 hm n (i + 1) k _ (by omega) (by omega) (Int.emod_nonneg _ (by omega)) (Int.emod_lt_of_pos _ hm0)]
    rw [show r / 72057594037927936 * 18446744073709551616 + (r * 256 % 18446744073709551616 + bt a i) = 256 * r + bt a i by omega]
    rfl

theorem impl_reduce (a : ByteArray) (m : Int) (hm0 : 0 ≤ m) (hm : m < 18446744073709551616) {k : Nat} (hk : 700000 ≤ k) :
    impl_Reduce.f k a m = some (if m = 0 ∨ 65535 < a.size then 0 else red a m 0 a.size 0) := by
  obtain ⟨k, rfl⟩ : ∃ j, k = j + 1 := ⟨k - 1, by omega⟩
  unfold impl_Reduce.f
  by_cases h : m = 0
  · rw [if_pos h, if_pos (.inl h)]; simp [impl_Reduce.j0]
  · rw [if_neg h]
    by_cases hs : 65535 < a.size
    · rw [decide_eq_true (show (a.size : Int) > 65535 by omega), if_pos (.inr hs)]; simp [impl_Reduce.j0]
    · rw [decide_eq_false (show ¬(a.size : Int) > 65535 by omega), if_neg (by omega)]
      simp only [impl_Reduce.j0]
      rw [if_neg (by decide)]
      exact impl_red (by omega) (by omega) hm a.size 0 k 0 (by omega) (by omega) (by omega) (by omega)

end Go.Proofs.YtgdcafbdkidamaaGreatDoor.Pure
end
section
namespace Go.Proofs.YtgdcafbdkidamaaGreatDoor.Pure
open Go.RowKit Go.Proofs.YtgdcafbdkidamaaGreatDoor.B Go.Proofs.YtgdcafbdkidamaaGreatDoor.H0 Go.Proofs.YtgdcafbdkidamaaGreatDoor.H1 Go.Proofs.YtgdcafbdkidamaaGreatDoor.H2 Go.Proofs.YtgdcafbdkidamaaGreatDoor.H3 Go.Proofs.YtgdcafbdkidamaaGreatDoorW.PrintWords Go.Proofs.YtgdcafbdkidamaaGreatDoorW.PrintLast Go.Proofs.YtgdcafbdkidamaaGreatDoorW.PrintMore
set_option linter.unusedVariables false
set_option linter.unusedSimpArgs false
theorem power_P (a e : Int) (ha0 : 0 ≤ a) (ha : a < 18446744073709551616) (he0 : 0 ≤ e) (he : e < 18446744073709551616) :
    impl_num_impl_fieldP_power.f a e = some (a ^ e.toNat % 2305843009213693951) := by
  unfold impl_num_impl_fieldP_power.f
  rw [if_pos ⟨ha0, ha, he0, he⟩, pfold_eq a e primefieldP he0 he (by decide)]

end Go.Proofs.YtgdcafbdkidamaaGreatDoor.Pure
end
section
namespace Go.Proofs.YtgdcafbdkidamaaGreatDoor.Pure
open Go.RowKit Go.Proofs.YtgdcafbdkidamaaGreatDoor.B Go.Proofs.YtgdcafbdkidamaaGreatDoor.C Go.Proofs.YtgdcafbdkidamaaGreatDoor.H0 Go.Proofs.YtgdcafbdkidamaaGreatDoor.H1 Go.Proofs.YtgdcafbdkidamaaGreatDoor.H2 Go.Proofs.YtgdcafbdkidamaaGreatDoor.H3 Go.Proofs.YtgdcafbdkidamaaGreatDoorW.PrintWords Go.Proofs.YtgdcafbdkidamaaGreatDoorW.PrintLast Go.Proofs.YtgdcafbdkidamaaGreatDoorW.PrintMore
theorem inverse_P (a : Int) (ha0 : 0 ≤ a) (ha : a < 18446744073709551616) :
    impl_num_impl_fieldP_inverse.f a = some (a ^ 2305843009213693949 % 2305843009213693951) := by
  simp only [impl_num_impl_fieldP_inverse.f, impl_prime_impl_fieldP.f, Option.bind_some]
  rw [show IntKind.u64.wrap (primefieldP - 2) = 2305843009213693949 by decide]
  rw [power_P a 2305843009213693949 ha0 ha (by decide) (by decide)]
  rfl

end Go.Proofs.YtgdcafbdkidamaaGreatDoor.Pure
end
