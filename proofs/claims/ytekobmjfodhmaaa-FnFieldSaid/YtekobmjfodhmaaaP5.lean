/- Inverses modulo the two primes. -/
import Derived.Test.YtekobmjfodhmaaaP4
import Derived.Test.YtekobmjfodhmaaaNt
namespace Go.Proofs.Ytekobmjfodhmaaa.Pure
open NT Go.RowKit Go.Proofs.Ytekobmjfodhmaaa.B Go.Proofs.Ytekobmjfodhmaaa.C Go.Proofs.Ytekobmjfodhmaaa.H0 Go.Proofs.Ytekobmjfodhmaaa.H1 Go.Proofs.Ytekobmjfodhmaaa.H2 Go.Proofs.Ytekobmjfodhmaaa.H3 Go.Proofs.YtekobmjfodhmaaaW.PrintWords Go.Proofs.YtekobmjfodhmaaaW.PrintLast Go.Proofs.YtekobmjfodhmaaaW.PrintMore
set_option linter.unusedVariables false
set_option linter.unusedSimpArgs false

theorem inv_nat {n g : Nat} {qs : List Nat} (R : Root n g qs) (hn : 2 < n) {m : Nat} (h : m % n ≠ 0) : m * (m ^ (n - 2) % n) % n = 1 := by
  have e : m * m ^ (n - 2) = m ^ (n - 1) := by rw [Nat.mul_comm, ← Nat.pow_succ]; congr 1; omega
  rw [Nat.mul_mod, Nat.mod_mod, ← Nat.mul_mod, e, Nat.pow_mod]
  exact R.fermat (Nat.pos_of_ne_zero h) (Nat.mod_lt _ (by omega))

theorem inv_int {n g : Nat} {qs : List Nat} (R : Root n g qs) (hn : 2 < n) {a : Int} (ha : 0 ≤ a) (h : a % (n : Int) ≠ 0) : a * (a ^ (n - 2) % (n : Int)) % (n : Int) = 1 := by
  obtain ⟨m, rfl⟩ := Int.eq_ofNat_of_zero_le ha
  have := inv_nat R hn (m := m) (fun e => h (by rw [← Int.natCast_emod, e]; rfl))
  exact_mod_cast this

theorem inv_one_P {a : Int} (ha : 0 ≤ a) (h : a % 2305843009213693951 ≠ 0) : a * (a ^ 2305843009213693949 % 2305843009213693951) % 2305843009213693951 = 1 :=
  inv_int rootP (by decide) ha h
theorem inv_one_N {a : Int} (ha : 0 ≤ a) (h : a % 2305843010818082053 ≠ 0) : a * (a ^ 2305843010818082051 % 2305843010818082053) % 2305843010818082053 = 1 :=
  inv_int rootN (by decide) ha h

theorem invmod_P (a : Int) (ha0 : 0 ≤ a) (ha : a < 18446744073709551616) : impl_InvMod.f a 2305843009213693951 = some (a ^ 2305843009213693949 % 2305843009213693951) := by
  unfold impl_InvMod.f
  rw [if_neg (by decide), show IntKind.u64.wrap (2305843009213693951 - 2) = 2305843009213693949 by decide]
  rw [impl_powmod a 2305843009213693949 2305843009213693951 ha0 ha (by decide) (by decide) (by decide) (by decide), if_neg (by decide)]
  have e : Int.toNat 2305843009213693949 = 2305843009213693949 := by decide
  rw [e]; rfl
theorem invmod_N (a : Int) (ha0 : 0 ≤ a) (ha : a < 18446744073709551616) : impl_InvMod.f a 2305843010818082053 = some (a ^ 2305843010818082051 % 2305843010818082053) := by
  unfold impl_InvMod.f
  rw [if_neg (by decide), show IntKind.u64.wrap (2305843010818082053 - 2) = 2305843010818082051 by decide]
  rw [impl_powmod a 2305843010818082051 2305843010818082053 ha0 ha (by decide) (by decide) (by decide) (by decide), if_neg (by decide)]
  have e : Int.toNat 2305843010818082051 = 2305843010818082051 := by decide
  rw [e]; rfl

theorem even_even (r : Int) : Int.tmod (even r) 2 = 0 ∨ even r < 0 := by
  unfold even
  by_cases h : r % 2 = 1
  · rw [if_pos h]
    by_cases h0 : 2305843009213693951 - r < 0
    · exact .inr h0
    · left; rw [Int.tmod_eq_emod_of_nonneg (by omega)]; omega
  · rw [if_neg h]
    by_cases h0 : r < 0
    · exact .inr h0
    · left; rw [Int.tmod_eq_emod_of_nonneg (by omega)]; omega
theorem even_sq (r : Int) : even r * even r % 2305843009213693951 = r * r % 2305843009213693951 := by
  unfold even; split
  · exact neg_sq r
  · rfl
theorem even_range {r : Int} (h0 : 0 ≤ r) (h : r < 2305843009213693951) : 0 ≤ even r ∧ even r < 2305843009213693951 := by
  unfold even; split <;> omega

end Go.Proofs.Ytekobmjfodhmaaa.Pure
