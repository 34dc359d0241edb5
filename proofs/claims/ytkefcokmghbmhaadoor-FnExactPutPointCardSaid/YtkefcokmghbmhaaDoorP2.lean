/- The reference's arithmetic: sums, products and powers modulo m; a product modulo P. -/
import Derived.Test.YtkefcokmghbmhaaDoorP1
import Derived.Test.YtkefcokmghbmhaaDoorBx4
import Derived.Test.YtkefcokmghbmhaaDoorBx11
import Derived.Test.YtkefcokmghbmhaaDoorBx12
namespace Go.Proofs.YtkefcokmghbmhaaDoor.Pure
open Go.RowKit Go.Proofs.YtkefcokmghbmhaaDoor.B Go.Proofs.YtkefcokmghbmhaaDoor.H0 Go.Proofs.YtkefcokmghbmhaaDoorW.PrintWords Go.Proofs.YtkefcokmghbmhaaDoorW.PrintLast Go.Proofs.YtkefcokmghbmhaaDoorW.PrintMore
set_option linter.unusedVariables false

theorem emod_sub {a m : Int} (h0 : m ≤ a) (h1 : a < 2 * m) : a % m = a - m := by
  rw [← Int.sub_emod_right, Int.emod_eq_of_lt (by omega) (by omega)]

theorem l2Add {a b m : Int} (ha0 : 0 ≤ a) (ha : a < m) (hb0 : 0 ≤ b) (hb : b < m) (hm : m < 18446744073709551616) : spec_l2Add.f a b m = some ((a + b) % m) := by
  unfold spec_l2Add.f
  rw [wu (show 0 ≤ m - b by omega) (by omega)]
  by_cases h : a ≥ m - b
  · rw [if_pos h, wu (by omega) (by omega), emod_sub (by omega) (by omega)]; congr 1; omega
  · rw [if_neg h, wu (by omega) (by omega), Int.emod_eq_of_lt (by omega) (by omega)]

theorem shr_at (x : Int) (d : Nat) (hd : d ≤ 63) : shr .u64 x (IntKind.u64.wrap (d : Int)) = x / 2 ^ d := by
  rw [wu (by omega) (by omega)]; unfold shr; rw [show min (Int.toNat (d : Int)) IntKind.u64.bits = d by simp [IntKind.bits]; omega]

theorem half_pow (x : Int) (d : Nat) : x / 2 ^ (d + 1) = x / 2 ^ d / 2 := by
  rw [Int.pow_succ, Int.ediv_ediv_of_nonneg (Int.pow_nonneg (by decide))]

theorem wrap_pred (d : Nat) (hd : d ≤ 63) : wrap64 ((d : Int) - 1) = (d : Int) - 1 := wrap64_in (by omega) (by omega)

theorem mod_eq_iff_sub {a b m : Int} : a % m = b % m ↔ (a - b) % m = 0 := Int.emod_eq_emod_iff_emod_sub_eq_zero

theorem spec_mul_go {x y m : Int} (hx0 : 0 ≤ x) (hx : x < m) (hy0 : 0 ≤ y) (hm : m < 18446744073709551616) : ∀ (d k : Nat) (r : Int), d ≤ 64 → d < k → r = x * (y / 2 ^ d) % m →
    spec_MulMod.l0 k x y m r ((d : Int) - 1) = some (x * y % m)
  | 0, k, r, _, hk, hr => by
    obtain ⟨k, rfl⟩ : ∃ j, k = j + 1 := ⟨k - 1, by omega⟩
    simp only [spec_MulMod.l0]; rw [if_neg (by omega), hr]; simp
  | d + 1, k, r, hd, hk, hr => by
    obtain ⟨k, rfl⟩ : ∃ j, k = j + 1 := ⟨k - 1, by omega⟩
    have hm0 : 0 < m := by omega
    have hr0 := Int.emod_nonneg (x * (y / 2 ^ (d + 1))) (show m ≠ 0 by omega)
    have hr1 := Int.emod_lt_of_pos (x * (y / 2 ^ (d + 1))) hm0
    rw [← hr] at hr0 hr1
    have ht0 := Int.emod_nonneg (r + r) (show m ≠ 0 by omega)
    have ht1 := Int.emod_lt_of_pos (r + r) hm0
    simp only [spec_MulMod.l0]
    rw [if_pos (by omega), l2Add hr0 hr1 hr0 hr1 hm]
    simp only [Option.bind_some]
    rw [show ((d + 1 : Nat) : Int) - 1 = (d : Int) by omega, shr_at y d (by omega), wu (show 0 ≤ (d : Int) by omega) (by omega), if_pos (by omega), wrap_pred d (by omega)]
    have hyd : 0 ≤ y / 2 ^ d := Int.ediv_nonneg hy0 (Int.pow_nonneg (by decide))
    rw [Int.tmod_eq_emod_of_nonneg hyd]
    have hp := half_pow y d
    have e2 : (r + r) % m = x * (2 * (y / 2 ^ (d + 1))) % m := by
      rw [hr, ← Int.add_emod]; congr 1; rw [Int.mul_left_comm]; omega
    by_cases hb : y / 2 ^ d % 2 = 1
    · rw [if_pos hb, l2Add ht0 ht1 hx0 hx hm]
      simp only [Option.bind_some]
      apply spec_mul_go hx0 hx hy0 hm d k _ (by omega) (by omega)
      rw [e2, Int.emod_add_emod]
      congr 1
      have : y / 2 ^ d = 2 * (y / 2 ^ (d + 1)) + 1 := by omega
      rw [this, Int.mul_add, Int.mul_one]
    · rw [if_neg hb]
      apply spec_mul_go hx0 hx hy0 hm d k _ (by omega) (by omega)
      rw [e2]
      congr 2
      omega

/-- products of two halves -/
theorem l2_split {a b ah al bh bl q0 r0 q1 r1 q2 r2 : Int} (ea : a = ah * 4294967296 + al) (eb : b = bh * 4294967296 + bl)
    (h0 : al * bl = q0 * 4294967296 + r0) (h1 : ah * bl + q0 = q1 * 4294967296 + r1) (h2 : al * bh + r1 = q2 * 4294967296 + r2) :
    a * b = (ah * bh + q1 + q2) * 18446744073709551616 + (r2 * 4294967296 + r0) := by
  subst ea eb
  have e : (ah * 4294967296 + al) * (bh * 4294967296 + bl) = ah * bh * 18446744073709551616 + (ah * bl) * 4294967296 + (al * bh) * 4294967296 + al * bl := by grind
  rw [e]
  omega

theorem l2Times {a b : Int} (ha0 : 0 ≤ a) (ha : a < 2305843009213693951) (hb0 : 0 ≤ b) (hb : b < 2305843009213693951) : spec_l2Times.f a b = some (a * b % 2305843009213693951) := by
  have eda : IntKind.u64.wrap (Int.tdiv a 4294967296) = a / 4294967296 := by rw [Int.tdiv_eq_ediv_of_nonneg ha0]; exact wu (by omega) (by omega)
  have edb : IntKind.u64.wrap (Int.tdiv b 4294967296) = b / 4294967296 := by rw [Int.tdiv_eq_ediv_of_nonneg hb0]; exact wu (by omega) (by omega)
  have ema : Int.tmod a 4294967296 = a % 4294967296 := Int.tmod_eq_emod_of_nonneg ha0
  have emb : Int.tmod b 4294967296 = b % 4294967296 := Int.tmod_eq_emod_of_nonneg hb0
  unfold spec_l2Times.f
  rw [eda, edb, ema, emb]
  have hah : 0 ≤ a / 4294967296 ∧ a / 4294967296 < 536870912 := by omega
  have hbh : 0 ≤ b / 4294967296 ∧ b / 4294967296 < 536870912 := by omega
  have hal : 0 ≤ a % 4294967296 ∧ a % 4294967296 < 4294967296 := by omega
  have hbl : 0 ≤ b % 4294967296 ∧ b % 4294967296 < 4294967296 := by omega
  have ea : a = a / 4294967296 * 4294967296 + a % 4294967296 := by omega
  have eb : b = b / 4294967296 * 4294967296 + b % 4294967296 := by omega
  have hPm : a * b ≤ 2305843009213693950 * 2305843009213693950 := Int.mul_le_mul (by omega) (by omega) hb0 (by omega)
  have hab0 : 0 ≤ a * b := Int.mul_nonneg ha0 hb0
  generalize a / 4294967296 = ah at *
  generalize b / 4294967296 = bh at *
  generalize a % 4294967296 = al at *
  generalize b % 4294967296 = bl at *
  have p0 : 0 ≤ al * bl := Int.mul_nonneg hal.1 hbl.1
  have p0' : al * bl ≤ 4294967295 * 4294967295 := Int.mul_le_mul (by omega) (by omega) hbl.1 (by omega)
  have p1 : 0 ≤ ah * bl := Int.mul_nonneg hah.1 hbl.1
  have p1' : ah * bl ≤ 536870911 * 4294967295 := Int.mul_le_mul (by omega) (by omega) hbl.1 (by omega)
  have p2 : 0 ≤ al * bh := Int.mul_nonneg hal.1 hbh.1
  have p2' : al * bh ≤ 4294967295 * 536870911 := Int.mul_le_mul (by omega) (by omega) hbh.1 (by omega)
  have p3 : 0 ≤ ah * bh := Int.mul_nonneg hah.1 hbh.1
  have p3' : ah * bh ≤ 536870911 * 536870911 := Int.mul_le_mul (by omega) (by omega) hbh.1 (by omega)
  have W0 : IntKind.u64.wrap (al * bl) = al * bl := wu p0 (by omega)
  have D0 : IntKind.u64.wrap (Int.tdiv (al * bl) 4294967296) = al * bl / 4294967296 := by rw [Int.tdiv_eq_ediv_of_nonneg p0]; exact wu (by omega) (by omega)
  have M0 : Int.tmod (al * bl) 4294967296 = al * bl % 4294967296 := Int.tmod_eq_emod_of_nonneg p0
  have W1 : IntKind.u64.wrap (ah * bl) = ah * bl := wu p1 (by omega)
  have W2 : IntKind.u64.wrap (al * bh) = al * bh := wu p2 (by omega)
  have W3 : IntKind.u64.wrap (ah * bh) = ah * bh := wu p3 (by omega)
  rw [W0, D0, M0, W1, W2, W3]
  have S := l2_split (q0 := al * bl / 4294967296) (r0 := al * bl % 4294967296) (q1 := (ah * bl + al * bl / 4294967296) / 4294967296) (r1 := (ah * bl + al * bl / 4294967296) % 4294967296)
    (q2 := (al * bh + (ah * bl + al * bl / 4294967296) % 4294967296) / 4294967296) (r2 := (al * bh + (ah * bl + al * bl / 4294967296) % 4294967296) % 4294967296) ea eb (by omega) (by omega) (by omega)
  clear ea eb
  have hq0 : 0 ≤ al * bl / 4294967296 ∧ al * bl / 4294967296 < 4294967296 := by omega
  have hr0 : 0 ≤ al * bl % 4294967296 ∧ al * bl % 4294967296 < 4294967296 := by omega
  generalize al * bl / 4294967296 = q0 at *
  generalize al * bl % 4294967296 = r0 at *
  have W4 : IntKind.u64.wrap (ah * bl + q0) = ah * bl + q0 := wu (by omega) (by omega)
  rw [W4]
  have m1 : 0 ≤ ah * bl + q0 := by omega
  have m1' : ah * bl + q0 < 18446744073709551616 := by omega
  generalize ah * bl + q0 = m1v at *
  have D1 : IntKind.u64.wrap (Int.tdiv m1v 4294967296) = m1v / 4294967296 := by rw [Int.tdiv_eq_ediv_of_nonneg m1]; exact wu (by omega) (by omega)
  have M1 : Int.tmod m1v 4294967296 = m1v % 4294967296 := Int.tmod_eq_emod_of_nonneg m1
  rw [D1, M1]
  have W5 : IntKind.u64.wrap (al * bh + m1v % 4294967296) = al * bh + m1v % 4294967296 := wu (by omega) (by omega)
  rw [W5]
  have m2 : 0 ≤ al * bh + m1v % 4294967296 := by omega
  have m2' : al * bh + m1v % 4294967296 < 18446744073709551616 := by omega
  generalize al * bh + m1v % 4294967296 = m2v at *
  have D2 : IntKind.u64.wrap (Int.tdiv m2v 4294967296) = m2v / 4294967296 := by rw [Int.tdiv_eq_ediv_of_nonneg m2]; exact wu (by omega) (by omega)
  rw [D2]
  have W6 : IntKind.u64.wrap (ah * bh + m1v / 4294967296) = ah * bh + m1v / 4294967296 := wu (by omega) (by omega)
  rw [W6]
  have W7 : IntKind.u64.wrap (ah * bh + m1v / 4294967296 + m2v / 4294967296) = ah * bh + m1v / 4294967296 + m2v / 4294967296 := wu (by omega) (by omega)
  rw [W7]
  have elo : IntKind.u64.wrap (IntKind.u64.wrap (m2v * 4294967296) + r0) = m2v % 4294967296 * 4294967296 + r0 := by
    simp only [wrap_u64]; omega
  rw [elo]
  have hlo : 0 ≤ m2v % 4294967296 * 4294967296 + r0 ∧ m2v % 4294967296 * 4294967296 + r0 < 18446744073709551616 := by omega
  have hhi : 0 ≤ ah * bh + m1v / 4294967296 + m2v / 4294967296 := by omega
  generalize m2v % 4294967296 * 4294967296 + r0 = lo at *
  generalize ah * bh + m1v / 4294967296 + m2v / 4294967296 = hi at *
  have hi1 : hi * 18446744073709551616 ≤ 2305843009213693950 * 2305843009213693950 := by omega
  have W8 : IntKind.u64.wrap (hi * 8) = hi * 8 := wu (by omega) (by omega)
  have D3 : IntKind.u64.wrap (Int.tdiv lo 2305843009213693952) = lo / 2305843009213693952 := by rw [Int.tdiv_eq_ediv_of_nonneg hlo.1]; exact wu (by omega) (by omega)
  have W9 : IntKind.u64.wrap (hi * 8 + lo / 2305843009213693952) = hi * 8 + lo / 2305843009213693952 := wu (by omega) (by omega)
  rw [W8, D3, W9]
  have M2 : Int.tmod lo 2305843009213693952 = lo % 2305843009213693952 := Int.tmod_eq_emod_of_nonneg hlo.1
  have M3 : Int.tmod (lo % 2305843009213693952) 2305843009213693951 = lo % 2305843009213693952 % 2305843009213693951 := Int.tmod_eq_emod_of_nonneg (by omega)
  rw [M2, M3]
  have hx : hi * 8 + lo / 2305843009213693952 < 2305843009213693951 := by omega
  rw [l2Add (by omega) hx (by omega) (by omega) (by omega)]
  simp only [Option.bind_some]
  congr 1
  rw [S]
  omega

end Go.Proofs.YtkefcokmghbmhaaDoor.Pure
