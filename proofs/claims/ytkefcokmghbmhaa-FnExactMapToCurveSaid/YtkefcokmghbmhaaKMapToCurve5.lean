/- What the proof of FnExactMapToCurve leans on, part 5: cut out of the texts of this claim's making by a program (wip/tools/pack.py). -/
import Derived.Test.YtkefcokmghbmhaaKMapToCurve1
import Derived.Test.YtkefcokmghbmhaaKMapToCurve2
import Derived.Test.YtkefcokmghbmhaaKMapToCurve4
import Derived.Below
import Derived.KernelRfl
import Derived.WalkKit
section
namespace Go.Proofs.Ytkefcokmghbmhaa.H0
open Go.RowKit Go.Proofs.YtkefcokmghbmhaaW.PrintWords
abbrev primefieldP : Int := 2305843009213693951
def bits_LeadingZeros64.f (a : Int) : Option Int := if 0 ≤ a then if a ≤ 18446744073709551615 then some (64 - (Lib.bitLen a.toNat : Int)) else none else none
theorem bits_LeadingZeros64.calls (a r : Int) (w : World) (h : bits_LeadingZeros64.f a = some r) :
    Calls Try.prog 29 #[.int .u64 a] w fun e w' => e = .returned (.int .i64 r) ∧ Drawn0 w w' := by
  unfold bits_LeadingZeros64.f at h
  split at h
  · split at h
    · obtain rfl := Option.some.inj h
      refine (Try.bits_LeadingZeros64 a w (by assumption) (by assumption)).mono ?_
      rintro e w' ⟨rfl, rfl⟩
      exact ⟨rfl, Drawn0.refl _⟩
    · cases h
  · cases h

def bits_Mul64.f (a b : Int) : Option (Int × Int) :=
  if 0 ≤ a then if a < 18446744073709551616 then if 0 ≤ b then if b < 18446744073709551616 then
    some (a * b / 18446744073709551616, a * b % 18446744073709551616) else none else none else none else none
theorem bits_Mul64.calls (a b r1 r2 : Int) (w : World) (h : bits_Mul64.f a b = some (r1, r2)) :
    Calls Try.prog 26 #[.int .u64 a, .int .u64 b] w fun e w' => e = .returned (.tuple #[.int .u64 r1, .int .u64 r2]) ∧ Drawn0 w w' := by
  unfold bits_Mul64.f at h
  split at h
  · split at h
    · split at h
      · split at h
        · rename_i h1 h2 h3 h4
          obtain ⟨rfl, rfl⟩ := Prod.mk.inj (Option.some.inj h)
          obtain ⟨x, rfl⟩ := Int.eq_ofNat_of_zero_le h1
          obtain ⟨y, rfl⟩ := Int.eq_ofNat_of_zero_le h3
          refine (Try.bits_Mul64 x y (by omega) (by omega) w).mono ?_
          rintro e w' ⟨rfl, rfl⟩
          exact ⟨by simp, Drawn0.refl _⟩
        · cases h
      · cases h
    · cases h
  · cases h
def impl_prime_impl_fieldP.f : Option Int := some primefieldP
theorem impl_prime_impl_fieldP.calls (r : Int) (w : World) (h : impl_prime_impl_fieldP.f = some r) :
    Calls Try.prog 21 #[] w fun e w' => e = .returned (.int .u64 r) ∧ Below w.heap.size w w' := by
  obtain rfl := Option.some.inj h
  have hm : ∀ k w, (method (k + 1) 37 (.agg #[]) "loop.example/s02095/impl.prime").run Try.prog w = .ok (47, .agg #[]) w := fun _ _ => by kernel_rfl
  go_enter Try.func21, Try.ntmps21
  go_wp2
  go_ret
  exact ⟨rfl, ((Below.refl _ _).alloc (Nat.le_refl _) _).alloc (by simp) _⟩
end Go.Proofs.Ytkefcokmghbmhaa.H0
end
