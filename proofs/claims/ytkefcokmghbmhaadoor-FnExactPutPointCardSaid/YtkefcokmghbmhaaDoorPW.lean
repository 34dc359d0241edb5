/- Words as eight bytes; points as words: the same for both. -/
import Derived.Test.YtkefcokmghbmhaaDoorP6
import Derived.Test.YtkefcokmghbmhaaDoorBx11
import Derived.Test.YtkefcokmghbmhaaDoorBx10
namespace Go.Proofs.YtkefcokmghbmhaaDoor.Pure
open Go.RowKit Go.Proofs.YtkefcokmghbmhaaDoor.B Go.Proofs.YtkefcokmghbmhaaDoor.H0 Go.Proofs.YtkefcokmghbmhaaDoorW.PrintWords Go.Proofs.YtkefcokmghbmhaaDoorW.PrintLast Go.Proofs.YtkefcokmghbmhaaDoorW.PrintMore
set_option linter.unusedVariables false
set_option linter.unusedSimpArgs false

theorem at_least {α : Type} {f : Nat → Option α} (hm : ∀ k, LeO (f k) (f (k + 1))) {k0 : Nat} {r : α} (h : f k0 = some r) : ∀ {k : Nat}, k0 ≤ k → f k = some r
  | 0, hk => by rw [show k0 = 0 by omega] at h; exact h
  | k + 1, hk => by
    by_cases e : k0 = k + 1
    · rw [← e]; exact h
    · exact hm k _ (at_least hm h (by omega))

/-- a word's eight bytes -/
def putWord (a : Int) : ByteArray := strOfNums [shr .u64 a 56 % 256, shr .u64 a 48 % 256, shr .u64 a 40 % 256, shr .u64 a 32 % 256, shr .u64 a 24 % 256, shr .u64 a 16 % 256, shr .u64 a 8 % 256, shr .u64 a 0 % 256]

theorem spec_putWord (a : Int) {k : Nat} (hk : 20 ≤ k) : spec_PutWord.f k a = some (putWord a) := by
  have h : spec_PutWord.f 20 a = some (putWord a) := by
    simp [spec_PutWord.f, spec_PutWord.l0, wrap64, IntKind.wrap, IntKind.bits, IntKind.signed, putWord]
  exact at_least (f := fun k => spec_PutWord.f k a) (fun k => spec_PutWord.mono _ _) h hk

theorem impl_putWord (a : Int) {k : Nat} (hk : 20 ≤ k) : impl_PutWord.f k a = some (putWord a) := by
  have h : impl_PutWord.f 20 a = some (putWord a) := by
    simp [impl_PutWord.f, impl_bigEndian.f, impl_bigEndian.l0, wrap64, List.replicate_succ, putWord]
  exact at_least (f := fun k => impl_PutWord.f k a) (fun k => impl_PutWord.mono _ _) h hk

theorem putWord_size (a : Int) : (putWord a).size = 8 := by simp [putWord, strOfNums_size]

/-- a point's word -/
def ptWord (x y : Int) (inf : Bool) : Int := if oc x y inf = true ∧ inf = false then x + 4611686018427387904 + 2305843009213693952 * (y % 2) else 0

theorem proper_impl (x y : Int) (inf : Bool) (hx0 : 0 ≤ x) (hx : x < 18446744073709551616) (hy0 : 0 ≤ y) (hy : y < 18446744073709551616) {k : Nat} (hk : 11 ≤ k) :
    impl_proper.f k x y inf = some (oc x y inf && !inf) := by
  unfold impl_proper.f
  rw [onCurve_impl x y inf hx0 hx hy0 hy hk]; simp only [Option.bind_some]
  by_cases h : oc x y inf = true
  · rw [if_pos h, h]
    cases inf
    · simp
    · rw [oc_t, decide_eq_true_eq] at h
      simp [h.1, h.2]
  · rw [if_neg h]; simp [h]

theorem putPoint_impl (x y : Int) (inf : Bool) (hx0 : 0 ≤ x) (hx : x < 18446744073709551616) (hy0 : 0 ≤ y) (hy : y < 18446744073709551616) {k : Nat} (hk : 22 ≤ k) :
    impl_PutPoint.f k x y inf = some (putWord (ptWord x y inf)) := by
  unfold impl_PutPoint.f ptWord
  rw [proper_impl x y inf hx0 hx hy0 hy (by omega)]; simp only [Option.bind_some]
  by_cases h : oc x y inf = true
  · cases inf
    · have h2 := h
      rw [oc_f, decide_eq_true_eq] at h2
      rw [if_pos (by simp [h]), if_pos (by simp [h]), Int.tmod_eq_emod_of_nonneg hy0, wu (n := x + 4611686018427387904) (by omega) (by omega), wu (n := y % 2 * 2305843009213693952) (by omega) (by omega), wu (by omega) (by omega), impl_putWord _ (by omega)]
      simp only [Option.bind_some]
      rw [Int.mul_comm (y % 2)]
    · rw [if_neg (by simp), if_neg (by simp), impl_putWord _ (by omega)]; rfl
  · rw [if_neg (by simp [h]), if_neg (by simp [h]), impl_putWord _ (by omega)]; rfl

theorem putPoint_spec (x y : Int) (inf : Bool) (hx0 : 0 ≤ x) (hx : x < 18446744073709551616) (hy0 : 0 ≤ y) (hy : y < 18446744073709551616) {k : Nat} (hk : 22 ≤ k) :
    spec_PutPoint.f k x y inf = some (putWord (ptWord x y inf)) := by
  obtain ⟨k, rfl⟩ : ∃ j, k = j + 1 := ⟨k - 1, by omega⟩
  unfold spec_PutPoint.f ptWord
  cases inf
  · rw [if_neg (by decide), onCurve_spec x y false hx0 hy0]; simp only [Option.bind_some, spec_PutPoint.j0]
    by_cases h : oc x y false = true
    · have h2 := h
      rw [oc_f, decide_eq_true_eq] at h2
      rw [if_neg (by simp [h]), if_pos (by simp [h]), Int.tmod_eq_emod_of_nonneg hy0, wu (n := x + 4611686018427387904) (by omega) (by omega), wu (n := 2305843009213693952 * (y % 2)) (by omega) (by omega), wu (by omega) (by omega), spec_putWord _ (by omega)]
      rfl
    · rw [if_pos (by simp [h]), if_neg (by simp [h]), spec_putWord _ (by omega)]; rfl
  · rw [if_pos rfl]; simp only [spec_PutPoint.j0]
    rw [if_pos trivial, if_neg (by simp), spec_putWord _ (by omega)]; rfl

/-- the other point with this x -/
def ngt (x y : Int) (inf : Bool) : Int × Int × Bool := if oc x y inf = true ∧ inf = false then (x, (2305843009213693951 - y) % 2305843009213693951, false) else (0, 0, true)

theorem bool_u {y : Int} (h0 : 0 ≤ y) (h : y < 2305843009213693951) : (if y = 0 then 0 else 2305843009213693951 - y) = (2305843009213693951 - y) % 2305843009213693951 := by
  split <;> omega

end Go.Proofs.YtkefcokmghbmhaaDoor.Pure
