/- What the proof of FnKeys leans on, part 14: cut out of the texts of this claim's making by a program (wip/tools/pack.py). -/
import Derived.Test.YtgdcafbdkidamaaGreatDoorKKeys10
import Derived.Test.YtgdcafbdkidamaaGreatDoorKKeys12
import Derived.Test.YtgdcafbdkidamaaGreatDoorKKeys13
import Derived.Lib.ItoaNum
section
namespace Go.Proofs.YtgdcafbdkidamaaGreatDoor.Pure
open Go.RowKit Go.Proofs.YtgdcafbdkidamaaGreatDoor.B Go.Proofs.YtgdcafbdkidamaaGreatDoor.H0 Go.Proofs.YtgdcafbdkidamaaGreatDoorW.PrintWords Go.Proofs.YtgdcafbdkidamaaGreatDoorW.PrintLast Go.Proofs.YtgdcafbdkidamaaGreatDoorW.PrintMore
set_option linter.unusedVariables false
theorem wrap_u64 (n : Int) : IntKind.u64.wrap n = n % 18446744073709551616 := by simp [IntKind.wrap, IntKind.bits, IntKind.signed]
theorem wrap64_in {n : Int} (h0 : -9223372036854775808 ≤ n) (h : n < 9223372036854775808) : wrap64 n = n := by unfold wrap64; omega
theorem wraps_u64 (n : Int) (h₀ : 0 ≤ n) (h₁ : n < 2 ^ 64) : IntKind.u64.wrap n = n := by rw [wrap_u64]; omega
theorem wu {n : Int} (h₀ : 0 ≤ n) (h₁ : n < 18446744073709551616) : IntKind.u64.wrap n = n := by rw [wrap_u64]; omega

/-- the estimate of a digit: what the loop keeps -/
structure Est (y yn1 yn0 u d q r : Int) : Prop where
  ey : y = yn1 * 4294967296 + yn0
  n1 : 2147483648 ≤ yn1
  n1' : yn1 < 4294967296
  n0 : 0 ≤ yn0
  n0' : yn0 < 4294967296
  u0 : 0 ≤ u
  uy : u < y
  d0 : 0 ≤ d
  d1 : d < 4294967296
  qr : q * yn1 + r = u
  r0 : 0 ≤ r
  r1 : r < 4294967296
  lo : (u * 4294967296 + d) / y ≤ q
  q0 : 0 ≤ q

theorem Est.ypos {y yn1 yn0 u d q r : Int} (h : Est y yn1 yn0 u d q r) : 0 < y := by obtain ⟨e, a, _, b, _⟩ := h; omega

theorem Est.quo_lt {y yn1 yn0 u d q r : Int} (h : Est y yn1 yn0 u d q r) : (u * 4294967296 + d) / y < 4294967296 := by
  have hy := h.ypos
  have := h.uy; have := h.d1
  apply Int.ediv_lt_of_lt_mul hy
  have : (u + 1) * 4294967296 ≤ y * 4294967296 := Int.mul_le_mul_of_nonneg_right (by omega) (by omega)
  rw [Int.mul_comm 4294967296 y]
  omega

/-- q y against u b + d is q yn0 against r b + d -/
theorem Est.cmp {y yn1 yn0 u d q r : Int} (h : Est y yn1 yn0 u d q r) : q * y - (u * 4294967296 + d) = q * yn0 - (4294967296 * r + d) := by
  have e : q * y = (q * yn1) * 4294967296 + q * yn0 := by rw [h.ey, Int.mul_add, Int.mul_assoc]
  have := h.qr
  rw [e]
  omega

/-- the test's answer -/
theorem Est.high {y yn1 yn0 u d q r : Int} (h : Est y yn1 yn0 u d q r) (hc : 4294967296 ≤ q ∨ 4294967296 * r + d < q * yn0) : (u * 4294967296 + d) / y ≤ q - 1 := by
  have hy := h.ypos
  rcases hc with hc | hc
  · have := h.quo_lt; omega
  · have := h.cmp
    have : (u * 4294967296 + d) / y < q := by
      apply Int.ediv_lt_of_lt_mul hy
      rw [Int.mul_comm]
      rw [Int.mul_comm] at this
      rw [Int.mul_comm q y] at *
      omega
    omega

theorem Est.exact {y yn1 yn0 u d q r : Int} (h : Est y yn1 yn0 u d q r) (hc : q * yn0 ≤ 4294967296 * r + d) : q = (u * 4294967296 + d) / y := by
  have hy := h.ypos
  have := h.cmp
  have := h.lo
  have : q ≤ (u * 4294967296 + d) / y := by
    apply (Int.le_ediv_iff_mul_le hy).2
    omega
  omega

/-- one less, and the loop ends: it is exact -/
theorem Est.broke {y yn1 yn0 u d q r : Int} (h : Est y yn1 yn0 u d q r) (hc : (u * 4294967296 + d) / y ≤ q - 1) (hr : 4294967296 ≤ r + yn1) : q - 1 = (u * 4294967296 + d) / y := by
  have hy := h.ypos
  have hq0 : 0 ≤ (u * 4294967296 + d) / y := Int.ediv_nonneg (by have := h.u0; have := h.d0; omega) (by omega)
  have e : (q - 1) * yn1 + (r + yn1) = u := by have := h.qr; rw [Int.sub_mul]; omega
  have hql : q - 1 < 4294967296 := by
    have h1 : (q - 1) * yn1 < 4294967296 * yn1 := by
      have := h.uy; have := h.ey; have := h.n0'
      omega
    exact Int.lt_of_mul_lt_mul_right h1 (by have := h.n1; omega)
  have hp : (q - 1) * yn0 ≤ 4294967296 * (r + yn1) + d := by
    have a : (q - 1) * yn0 ≤ 4294967296 * 4294967296 := by
      have := h.n0; have := h.n0'
      have p1 : (q - 1) * yn0 ≤ (q - 1) * 4294967296 := Int.mul_le_mul_of_nonneg_left (by omega) (by omega)
      omega
    have := h.d0
    omega
  have c : (q - 1) * y - (u * 4294967296 + d) = (q - 1) * yn0 - (4294967296 * (r + yn1) + d) := by
    have e2 : (q - 1) * y = ((q - 1) * yn1) * 4294967296 + (q - 1) * yn0 := by rw [h.ey, Int.mul_add, Int.mul_assoc]
    rw [e2]; omega
  have : q - 1 ≤ (u * 4294967296 + d) / y := by
    apply (Int.le_ediv_iff_mul_le hy).2
    omega
  omega

theorem Est.next {y yn1 yn0 u d q r : Int} (h : Est y yn1 yn0 u d q r) (hc : (u * 4294967296 + d) / y ≤ q - 1) (hr : r + yn1 < 4294967296) : Est y yn1 yn0 u d (q - 1) (r + yn1) := by
  have hy := h.ypos
  have hq0 : 0 ≤ (u * 4294967296 + d) / y := Int.ediv_nonneg (by have := h.u0; have := h.d0; omega) (by omega)
  have e : (q - 1) * yn1 + (r + yn1) = u := by have := h.qr; rw [Int.sub_mul]; omega
  exact ⟨h.ey, h.n1, h.n1', h.n0, h.n0', h.u0, h.uy, h.d0, h.d1, e, by have := h.r0; have := h.n1; omega, hr, hc, by omega⟩

/-- the first estimate -/
theorem Est.first {y yn1 yn0 u d : Int} (ey : y = yn1 * 4294967296 + yn0) (n1 : 2147483648 ≤ yn1) (n1' : yn1 < 4294967296) (n0 : 0 ≤ yn0) (n0' : yn0 < 4294967296)
    (u0 : 0 ≤ u) (uy : u < y) (d0 : 0 ≤ d) (d1 : d < 4294967296) : Est y yn1 yn0 u d (u / yn1) (u % yn1) := by
  have hy : 0 < y := by omega
  refine ⟨ey, n1, n1', n0, n0', u0, uy, d0, d1, ?_, Int.emod_nonneg _ (by omega), ?_, ?_, Int.ediv_nonneg u0 (by omega)⟩
  · rw [Int.mul_comm]; exact Int.mul_ediv_add_emod u yn1
  · have := Int.emod_lt_of_pos u (show 0 < yn1 by omega); omega
  · apply Int.le_of_lt_add_one
    apply Int.ediv_lt_of_lt_mul hy
    have h1 : u < (u / yn1 + 1) * yn1 := by
      have := Int.mul_ediv_add_emod u yn1
      have := Int.emod_lt_of_pos u (show 0 < yn1 by omega)
      rw [Int.add_mul, Int.mul_comm (u / yn1)]; omega
    have h2 : (u + 1) * 4294967296 ≤ (u / yn1 + 1) * yn1 * 4294967296 := Int.mul_le_mul_of_nonneg_right (by omega) (by omega)
    have hq : 0 ≤ u / yn1 := Int.ediv_nonneg u0 (by omega)
    have h3 : (u / yn1 + 1) * y = (u / yn1 + 1) * yn1 * 4294967296 + (u / yn1 + 1) * yn0 := by rw [ey, Int.mul_add, Int.mul_assoc]
    have h4 : 0 ≤ (u / yn1 + 1) * yn0 := Int.mul_nonneg (by omega) n0
    first | omega | (rw [Int.mul_comm] ; omega)

theorem Est.bounds {y yn1 yn0 u d q r : Int} (h : Est y yn1 yn0 u d q r) (hq : q < 4294967296) : 0 ≤ q * yn0 ∧ q * yn0 < 18446744073709551616 := by
  refine ⟨Int.mul_nonneg h.q0 h.n0, ?_⟩
  have a : q * yn0 ≤ q * 4294967296 := Int.mul_le_mul_of_nonneg_left (by have := h.n0'; omega) h.q0
  omega

theorem Est.y_lt {y yn1 yn0 u d q r : Int} (h : Est y yn1 yn0 u d q r) : y < 18446744073709551616 := by
  have := h.ey; have := h.n1'; have := h.n0'; omega
theorem Est.q_le {y yn1 yn0 u d q r : Int} (h : Est y yn1 yn0 u d q r) : q < 18446744073709551616 := by
  have a : q * 1 ≤ q * yn1 := Int.mul_le_mul_of_nonneg_left (by have := h.n1; omega) h.q0
  have := h.qr; have := h.r0; have := h.uy; have := h.y_lt
  omega

/-- the first loop ends at the digit -/
theorem div_l0 {y s yn1 yn0 u d z : Int} : ∀ (n k : Nat) (q r : Int), Est y yn1 yn0 u d q r → 4294967296 ≤ r + n * 2147483648 → 2 * n ≤ k →
    ∃ k', k ≤ k' + 2 * n ∧ bits_Div64.l0 k y s yn1 yn0 u d z q r = bits_Div64.j2 k' y s yn1 yn0 u d z ((u * 4294967296 + d) / y)
  | 0, k, q, r, h, hn, _ => by have := h.r1; omega
  | n + 1, k, q, r, h, hn, hk => by
    obtain ⟨k, rfl⟩ : ∃ m, k = m + 2 := ⟨k - 2, by omega⟩
    have hq1 := h.q_le
    have hr0 := h.r0; have hr1 := h.r1; have hd0 := h.d0; have hd1 := h.d1; have hn1 := h.n1; have hn1' := h.n1'; have hq0 := h.q0
    have er : IntKind.u64.wrap (4294967296 * r) = 4294967296 * r := wu (by omega) (by omega)
    have erd : IntKind.u64.wrap (IntKind.u64.wrap (4294967296 * r) + d) = 4294967296 * r + d := by rw [er]; exact wu (by omega) (by omega)
    have eadd : IntKind.u64.wrap (r + yn1) = r + yn1 := wu (by omega) (by omega)
    -- the true way
    have yes : (u * 4294967296 + d) / y ≤ q - 1 → ∃ k', k + 2 ≤ k' + 2 * (n + 1) ∧ bits_Div64.j1 (k + 1) y s yn1 yn0 u d z q r true = bits_Div64.j2 k' y s yn1 yn0 u d z ((u * 4294967296 + d) / y) := by
      intro hc
      have hqq : 0 ≤ (u * 4294967296 + d) / y := Int.ediv_nonneg (by have := h.u0; omega) (by have := h.ypos; omega)
      have eq1 : IntKind.u64.wrap (q - 1) = q - 1 := wu (by omega) (by omega)
      simp only [bits_Div64.j1, if_true]
      rw [eadd, eq1]
      by_cases hb : r + yn1 ≥ 4294967296
      · rw [if_pos hb]
        exact ⟨k, by omega, by rw [h.broke hc hb]⟩
      · rw [if_neg hb]
        obtain ⟨k', hk', e⟩ := div_l0 (s := s) (z := z) n k (q - 1) (r + yn1) (h.next hc (by omega)) (by omega) (by omega)
        exact ⟨k', by omega, e⟩
    simp only [bits_Div64.l0]
    by_cases hb : q ≥ 4294967296
    · rw [if_pos hb]
      exact yes (h.high (.inl hb))
    · rw [if_neg hb]
      have eqn : IntKind.u64.wrap (q * yn0) = q * yn0 := wu (h.bounds (by omega)).1 (h.bounds (by omega)).2
      rw [eqn, erd]
      by_cases hc : q * yn0 > 4294967296 * r + d
      · rw [decide_eq_true hc]
        exact yes (h.high (.inr hc))
      · rw [decide_eq_false hc]
        simp only [bits_Div64.j1]
        rw [if_neg (by decide)]
        exact ⟨k, by omega, by rw [← h.exact (by omega)]⟩

/-- what is left behind the second digit -/
theorem div_l1 {y s yn1 yn0 u d q1 : Int} (hs : 0 ≤ s) : ∀ (n k : Nat) (q r : Int), Est y yn1 yn0 u d q r → 4294967296 ≤ r + n * 2147483648 → 2 * n ≤ k →
    ∃ v, bits_Div64.l1 k y s yn1 yn0 d q1 r u q = some (v, shr .u64 ((u * 4294967296 + d) % y) s)
  | 0, k, q, r, h, hn, _ => by have := h.r1; omega
  | n + 1, k, q, r, h, hn, hk => by
    obtain ⟨k, rfl⟩ : ∃ m, k = m + 2 := ⟨k - 2, by omega⟩
    have hq1 := h.q_le
    have hr0 := h.r0; have hr1 := h.r1; have hd0 := h.d0; have hd1 := h.d1; have hn1 := h.n1; have hn1' := h.n1'; have hq0 := h.q0
    have hy := h.ypos; have hyl := h.y_lt
    have er : IntKind.u64.wrap (4294967296 * r) = 4294967296 * r := wu (by omega) (by omega)
    have erd : IntKind.u64.wrap (IntKind.u64.wrap (4294967296 * r) + d) = 4294967296 * r + d := by rw [er]; exact wu (by omega) (by omega)
    have eadd : IntKind.u64.wrap (r + yn1) = r + yn1 := wu (by omega) (by omega)
    have fin : ∀ w : Int, w = (u * 4294967296 + d) / y → IntKind.u64.wrap ((IntKind.u64.wrap ((IntKind.u64.wrap (u * 4294967296)) + d)) - (IntKind.u64.wrap (w * y))) = (u * 4294967296 + d) % y := by
      intro w hw
      have a := Int.mul_ediv_add_emod (u * 4294967296 + d) y
      rw [← hw, Int.mul_comm] at a
      have b := Int.emod_nonneg (u * 4294967296 + d) (show y ≠ 0 by omega)
      have c := Int.emod_lt_of_pos (u * 4294967296 + d) hy
      simp only [wrap_u64]
      omega
    have yes : (u * 4294967296 + d) / y ≤ q - 1 → ∃ v, bits_Div64.j4 (k + 1) y s yn1 yn0 d q1 r u q true = some (v, shr .u64 ((u * 4294967296 + d) % y) s) := by
      intro hc
      have hqq : 0 ≤ (u * 4294967296 + d) / y := Int.ediv_nonneg (by have := h.u0; omega) (by omega)
      have eq1 : IntKind.u64.wrap (q - 1) = q - 1 := wu (by omega) (by omega)
      simp only [bits_Div64.j4, if_true]
      rw [eadd, eq1]
      by_cases hb : r + yn1 ≥ 4294967296
      · rw [if_pos hb, if_pos hs, fin _ (h.broke hc hb)]
        exact ⟨_, rfl⟩
      · rw [if_neg hb]
        exact div_l1 hs n k (q - 1) (r + yn1) (h.next hc (by omega)) (by omega) (by omega)
    simp only [bits_Div64.l1]
    by_cases hb : q ≥ 4294967296
    · rw [if_pos hb]
      exact yes (h.high (.inl hb))
    · rw [if_neg hb]
      have eqn : IntKind.u64.wrap (q * yn0) = q * yn0 := wu (h.bounds (by omega)).1 (h.bounds (by omega)).2
      rw [eqn, erd]
      by_cases hc : q * yn0 > 4294967296 * r + d
      · rw [decide_eq_true hc]
        exact yes (h.high (.inr hc))
      · rw [decide_eq_false hc]
        simp only [bits_Div64.j4]
        rw [if_neg (by decide), if_pos hs, fin _ (h.exact (by omega))]
        exact ⟨_, rfl⟩

theorem bitLen_spec {m : Int} (h0 : 0 < m) (h1 : m < 18446744073709551616) : 1 ≤ Lib.bitLen m.toNat ∧ Lib.bitLen m.toNat ≤ 64 ∧ (2 : Int) ^ (Lib.bitLen m.toNat - 1) ≤ m ∧ m < 2 ^ Lib.bitLen m.toNat := by
  have h := Lib.bitLenAux_bounds 64 m.toNat (by omega) (by omega)
  have e := Lib.bitLen_le m.toNat 64 (by omega) (by omega)
  unfold Lib.bitLen at *
  obtain ⟨a, b, c⟩ := h
  refine ⟨a, e, ?_, ?_⟩
  · have : ((2 ^ (Lib.bitLenAux 64 m.toNat - 1) : Nat) : Int) ≤ (m.toNat : Int) := by exact_mod_cast b
    simp at this; omega
  · have : (m.toNat : Int) < ((2 ^ Lib.bitLenAux 64 m.toNat : Nat) : Int) := by exact_mod_cast c
    simp at this; omega

theorem and_low (x : Int) (h0 : 0 ≤ x) (h1 : x < 18446744073709551616) : Go.bits .and .u64 x 4294967295 = x % 4294967296 :=
  bits_mask .u64 64 (by decide) wraps_u64 32 (by decide) x h0 h1

theorem or_high {x y : Int} (i : Nat) (hi : i ≤ 64) (hx0 : 0 ≤ x) (hx1 : x < 18446744073709551616) (hx : x % 2 ^ i = 0) (hy0 : 0 ≤ y) (hy : y < 2 ^ i) : Go.bits .or .u64 x y = x + y := by
  have hp : (2 : Int) ^ i ≤ 2 ^ 64 := by
    have : 2 ^ i ≤ 2 ^ 64 := Nat.pow_le_pow_right (by decide) hi
    exact_mod_cast this
  exact bits_join .u64 64 (by decide) wraps_u64 i x y hx0 hx hx1 hy0 hy (by omega)

/-- the remainder, over a power of two -/
theorem mod_pow {V m : Int} (s : Nat) (hm : 0 < m) : (V * 2 ^ s) % (m * 2 ^ s) / 2 ^ s = V % m := by
  have hp : (0 : Int) < 2 ^ s := Int.pow_pos (by decide)
  rw [Int.mul_comm V, Int.mul_comm m, Int.mul_emod_mul_of_pos _ _ hp]
  exact Int.mul_ediv_cancel_left _ (by omega)

/-- a quotient and what it leaves, as the code spells them -/
theorem quo_rem {t n : Int} (h0 : 0 ≤ t) (ht : t < 18446744073709551616) (hn : 0 < n) :
    IntKind.u64.wrap (Int.tdiv t n) = t / n ∧ IntKind.u64.wrap (t - IntKind.u64.wrap (IntKind.u64.wrap (Int.tdiv t n) * n)) = t % n := by
  have et : Int.tdiv t n = t / n := Int.tdiv_eq_ediv_of_nonneg h0
  have hq0 : 0 ≤ t / n := Int.ediv_nonneg h0 (by omega)
  have hql : t / n ≤ t := Int.ediv_le_self _ h0
  have em := Int.mul_ediv_add_emod t n
  have er0 := Int.emod_nonneg t (show n ≠ 0 by omega)
  have ec : t / n * n = n * (t / n) := Int.mul_comm _ _
  have p0 : 0 ≤ t / n * n := Int.mul_nonneg hq0 (by omega)
  have e1 : IntKind.u64.wrap (Int.tdiv t n) = t / n := by rw [et]; exact wu hq0 (by omega)
  refine ⟨e1, ?_⟩
  have e2 : IntKind.u64.wrap (t / n * n) = t / n * n := wu p0 (by omega)
  rw [e1, e2, wu (by omega) (by omega)]
  omega

theorem div_j2 {y s yn1 yn0 u un1 un0 : Int} (hs : 0 ≤ s) (ey : y = yn1 * 4294967296 + yn0) (n1 : 2147483648 ≤ yn1) (n1' : yn1 < 4294967296) (n0 : 0 ≤ yn0) (n0' : yn0 < 4294967296)
    (u0 : 0 ≤ u) (uy : u < y) (d0 : 0 ≤ un1) (d1 : un1 < 4294967296) (z0 : 0 ≤ un0) (z1 : un0 < 4294967296) {k : Nat} (hk : 5 ≤ k) :
    ∃ v, bits_Div64.j2 k y s yn1 yn0 u un1 un0 ((u * 4294967296 + un1) / y) = some (v, shr .u64 ((((u * 4294967296 + un1) % y) * 4294967296 + un0) % y) s) := by
  obtain ⟨k, rfl⟩ : ∃ m, k = m + 1 := ⟨k - 1, by omega⟩
  have hy : 0 < y := by omega
  have hm0 := Int.emod_nonneg (u * 4294967296 + un1) (show y ≠ 0 by omega)
  have hm1 := Int.emod_lt_of_pos (u * 4294967296 + un1) hy
  have e : IntKind.u64.wrap ((IntKind.u64.wrap ((IntKind.u64.wrap (u * 4294967296)) + un1)) - (IntKind.u64.wrap ((u * 4294967296 + un1) / y * y))) = (u * 4294967296 + un1) % y := by
    have a := Int.mul_ediv_add_emod (u * 4294967296 + un1) y
    rw [Int.mul_comm] at a
    simp only [wrap_u64]
    omega
  simp only [bits_Div64.j2]
  rw [if_neg (by omega), e]
  generalize (u * 4294967296 + un1) % y = t at *
  obtain ⟨eq1, eq2⟩ := quo_rem (n := yn1) hm0 (show t < 18446744073709551616 by omega) (by omega)
  rw [eq2, eq1]
  exact div_l1 hs 2 k _ _ (Est.first ey n1 n1' n0 n0' hm0 hm1 z0 z1) (by have := Int.emod_nonneg t (show yn1 ≠ 0 by omega); omega) (by omega)

/-- DIV64: the remainder -/
theorem div64 (hi lo m : Int) (hh0 : 0 ≤ hi) (hh : hi < m) (hl0 : 0 ≤ lo) (hl : lo < 18446744073709551616) (hm : m < 18446744073709551616) {k : Nat} (hk : 10 ≤ k) :
    ∃ v, bits_Div64.f k hi lo m = some (v, (hi * 18446744073709551616 + lo) % m) := by
  unfold bits_Div64.f
  rw [if_neg (by omega), if_neg (by omega)]
  by_cases h0 : hi = 0
  · rw [if_pos h0]
    subst h0
    rw [Int.tmod_eq_emod_of_nonneg hl0]
    exact ⟨IntKind.u64.wrap (Int.tdiv lo m), by simp⟩
  · rw [if_neg h0]
    obtain ⟨b1, b2, b3, b4⟩ := bitLen_spec (show 0 < m by omega) hm
    unfold bits_LeadingZeros64.f
    rw [if_pos (by omega), if_pos (by omega)]
    simp only [Option.bind_some]
    obtain ⟨s, hs⟩ : ∃ s : Nat, s = 64 - Lib.bitLen m.toNat := ⟨_, rfl⟩
    have es : 64 - (Lib.bitLen m.toNat : Int) = (s : Int) := by omega
    have hs63 : s ≤ 63 := by omega
    have ebl : Lib.bitLen m.toNat = 64 - s := by omega
    rw [ebl] at b3 b4
    rw [es]
    have ws : IntKind.u64.wrap (s : Int) = s := wu (by omega) (by omega)
    have ws2 : IntKind.u64.wrap (64 - (s : Int)) = 64 - (s : Int) := wu (by omega) (by omega)
    rw [ws, ws2, if_pos (by omega), if_pos (by omega)]
    have hp : (0 : Int) < 2 ^ s := Int.pow_pos (by decide)
    have hpp : (2 : Int) ^ s * 2 ^ (64 - s) = 18446744073709551616 := by
      rw [← Int.pow_add, show s + (64 - s) = 64 by omega]; rfl
    have hpp1 : (2 : Int) ^ s * 2 ^ (64 - s - 1) = 9223372036854775808 := by
      rw [← Int.pow_add, show s + (64 - s - 1) = 63 by omega]; rfl
    have hP : (0 : Int) < 2 ^ (64 - s) := Int.pow_pos (by decide)
    -- the divisor, normalised
    have y1 : m * 2 ^ s < 18446744073709551616 := by
      rw [← hpp, Int.mul_comm (2 ^ s)]; exact Int.mul_lt_mul_of_pos_right b4 hp
    have y0 : 9223372036854775808 ≤ m * 2 ^ s := by
      rw [← hpp1, Int.mul_comm (2 ^ s)]; exact Int.mul_le_mul_of_nonneg_right b3 (by omega)
    have ey : shl .u64 m (s : Int) = m * 2 ^ s := by
      unfold shl; rw [show min (Int.toNat (s : Int)) IntKind.u64.bits = s by simp [IntKind.bits]; omega]
      exact wu (by omega) y1
    have hh1 : hi * 2 ^ s < m * 2 ^ s := Int.mul_lt_mul_of_pos_right hh hp
    have hh2 : 0 ≤ hi * 2 ^ s := Int.mul_nonneg hh0 (by omega)
    have eh : shl .u64 hi (s : Int) = hi * 2 ^ s := by
      unfold shl; rw [show min (Int.toNat (s : Int)) IntKind.u64.bits = s by simp [IntKind.bits]; omega]
      exact wu hh2 (by omega)
    have el : shl .u64 lo (s : Int) = lo * 2 ^ s % 18446744073709551616 := by
      unfold shl; rw [show min (Int.toNat (s : Int)) IntKind.u64.bits = s by simp [IntKind.bits]; omega]
      exact wrap_u64 _
    have er : shr .u64 lo (64 - (s : Int)) = lo / 2 ^ (64 - s) := by
      unfold shr; rw [show min (Int.toNat (64 - (s : Int))) IntKind.u64.bits = 64 - s by simp [IntKind.bits]]
    have hr0 : 0 ≤ lo / 2 ^ (64 - s) := Int.ediv_nonneg hl0 (by omega)
    have hr1 : lo / 2 ^ (64 - s) < 2 ^ s := Int.ediv_lt_of_lt_mul hP (by rw [hpp]; omega)
    have eor : Go.bits .or .u64 (hi * 2 ^ s) (lo / 2 ^ (64 - s)) = hi * 2 ^ s + lo / 2 ^ (64 - s) :=
      or_high s (by omega) hh2 (by omega) (Int.mul_emod_left _ _) hr0 hr1
    rw [ey, eh, el, er, eor, and_low _ (by omega) y1, and_low _ (by omega) (by omega)]
    -- the whole
    have eV : ((hi * 2 ^ s + lo / 2 ^ (64 - s)) * 4294967296 + lo * 2 ^ s % 18446744073709551616 / 4294967296) * 4294967296 + lo * 2 ^ s % 18446744073709551616 % 4294967296 = (hi * 18446744073709551616 + lo) * 2 ^ s := by
      have a := Int.mul_ediv_add_emod (lo * 2 ^ s) 18446744073709551616
      have b : lo * 2 ^ s / 18446744073709551616 = lo / 2 ^ (64 - s) := by
        rw [← hpp, Int.mul_comm (2 ^ s) (2 ^ (64 - s))]
        exact Int.mul_ediv_mul_of_pos_left _ _ hp
      rw [b] at a
      have c : (hi * 18446744073709551616 + lo) * 2 ^ s = hi * 2 ^ s * 18446744073709551616 + lo * 2 ^ s := by
        rw [Int.add_mul, Int.mul_right_comm]
      rw [c]
      omega
    have hul : hi * 2 ^ s + lo / 2 ^ (64 - s) < m * 2 ^ s := by
      have : (hi + 1) * 2 ^ s ≤ m * 2 ^ s := Int.mul_le_mul_of_nonneg_right (by omega) (by omega)
      rw [Int.add_mul] at this; omega
    generalize hY : m * 2 ^ s = y at *
    generalize hU : hi * 2 ^ s + lo / 2 ^ (64 - s) = u at *
    generalize hL : lo * 2 ^ s % 18446744073709551616 = l at *
    have hl1 : 0 ≤ l ∧ l < 18446744073709551616 := by rw [← hL]; omega
    have hu0 : 0 ≤ u := by omega
    rw [if_neg (by omega)]
    obtain ⟨eq1, eq2⟩ := quo_rem (n := y / 4294967296) hu0 (show u < 18446744073709551616 by omega) (by omega)
    rw [eq2, eq1]
    have er0 := Int.emod_nonneg u (show y / 4294967296 ≠ 0 by omega)
    obtain ⟨k', hk', e1⟩ := div_l0 (s := (s : Int)) (z := l % 4294967296) (d := l / 4294967296) 2 k (u / (y / 4294967296)) (u % (y / 4294967296))
      (Est.first (y := y) (yn1 := y / 4294967296) (yn0 := y % 4294967296) (by omega) (by omega) (by omega) (by omega) (by omega) hu0 hul (by omega) (by omega))
      (by omega) (by omega)
    rw [e1]
    obtain ⟨v, e2⟩ := div_j2 (s := (s : Int)) (un0 := l % 4294967296) (by omega) (show y = y / 4294967296 * 4294967296 + y % 4294967296 by omega) (by omega) (by omega) (by omega) (by omega) hu0 hul
      (show 0 ≤ l / 4294967296 by omega) (by omega) (by omega) (by omega) (k := k') (by omega)
    refine ⟨v, ?_⟩
    rw [e2]
    have e3 : (((u * 4294967296 + l / 4294967296) % y) * 4294967296 + l % 4294967296) % y = ((hi * 18446744073709551616 + lo) * 2 ^ s) % y := by
      rw [← eV]
      rw [Int.add_emod, Int.mul_emod, Int.emod_emod_of_dvd _ (Int.dvd_refl _), ← Int.mul_emod, ← Int.add_emod]
    rw [e3]
    unfold shr
    rw [show min (Int.toNat (s : Int)) IntKind.u64.bits = s by simp [IntKind.bits]; omega, ← hY, mod_pow s (by omega)]

/-- the product modulo m -/
theorem mulmod (a b m : Int) (ha0 : 0 ≤ a) (ha : a < 18446744073709551616) (hb0 : 0 ≤ b) (hb : b < 18446744073709551616) (hm0 : 0 ≤ m) (hm : m < 18446744073709551616) {k : Nat} (hk : 10 ≤ k) :
    impl_MulMod.f k a b m = some (if m = 0 then 0 else a * b % m) := by
  unfold impl_MulMod.f
  by_cases h : m = 0
  · rw [if_pos h, if_pos h]
  · rw [if_neg h, if_neg h]
    unfold bits_Mul64.f
    rw [if_pos ha0, if_pos ha, if_pos hb0, if_pos hb]
    simp only [Option.bind_some]
    have hab : 0 ≤ a * b := Int.mul_nonneg ha0 hb0
    have h1 : 0 ≤ a * b / 18446744073709551616 := by omega
    rw [Int.tmod_eq_emod_of_nonneg h1]
    obtain ⟨v, e⟩ := div64 (a * b / 18446744073709551616 % m) (a * b % 18446744073709551616) m (Int.emod_nonneg _ h) (Int.emod_lt_of_pos _ (by omega)) (by omega) (by omega) hm hk
    rw [e]
    simp only [Option.bind_some]
    congr 1
    have e4 : a * b = a * b / 18446744073709551616 * 18446744073709551616 + a * b % 18446744073709551616 := by omega
    conv => rhs; rw [e4]
    rw [Int.add_emod, Int.mul_emod, Int.emod_emod_of_dvd _ (Int.dvd_refl _), ← Int.mul_emod, ← Int.add_emod]

end Go.Proofs.YtgdcafbdkidamaaGreatDoor.Pure
end
section
namespace Go.Proofs.YtgdcafbdkidamaaGreatDoor.Pure
open Go.RowKit Go.Proofs.YtgdcafbdkidamaaGreatDoor.B Go.Proofs.YtgdcafbdkidamaaGreatDoor.H0 Go.Proofs.YtgdcafbdkidamaaGreatDoorW.PrintWords Go.Proofs.YtgdcafbdkidamaaGreatDoorW.PrintLast Go.Proofs.YtgdcafbdkidamaaGreatDoorW.PrintMore
set_option linter.unusedVariables false
theorem emod_sub {a m : Int} (h0 : m ≤ a) (h1 : a < 2 * m) : a % m = a - m := by
  rw [← Int.sub_emod_right, Int.emod_eq_of_lt (by omega) (by omega)]

theorem l2Add {a b m : Int} (ha0 : 0 ≤ a) (ha : a < m) (hb0 : 0 ≤ b) (hb : b < m) (hm : m < 18446744073709551616) : spec_l2Add.f a b m = some ((a + b) % m) := by
  unfold spec_l2Add.f
  rw [wu (show 0 ≤ m - b by omega) (by omega)]
  by_cases h : a ≥ m - b
  · rw [if_pos h, wu (by omega) (by omega), emod_sub (by omega) (by omega)]; congr 1; omega
  · rw [if_neg h, wu (by omega) (by omega), Int.emod_eq_of_lt (by omega) (by omega)]

theorem shr_at (x : Int) (d : Nat) (hd : d ≤ 63) : shr .u64 x (IntKind.u64.wrap (d : Int)) = x / 2 ^ d := by
  rw [wu (by omega) (by omega)]; unfold shr; rw [show min (Int.toNat (d : Int)) IntKind.u64.bits = d by simp [IntKind.bits]; omega]

theorem half_pow (x : Int) (d : Nat) : x / 2 ^ (d + 1) = x / 2 ^ d / 2 := by
  rw [Int.pow_succ, Int.ediv_ediv_of_nonneg (Int.pow_nonneg (by decide))]

theorem wrap_pred (d : Nat) (hd : d ≤ 63) : wrap64 ((d : Int) - 1) = (d : Int) - 1 := wrap64_in (by omega) (by omega)

theorem spec_mul_go {x y m : Int} (hx0 : 0 ≤ x) (hx : x < m) (hy0 : 0 ≤ y) (hm : m < 18446744073709551616) : ∀ (d k : Nat) (r : Int), d ≤ 64 → d < k → r = x * (y / 2 ^ d) % m →
    spec_MulMod.l0 k x y m r ((d : Int) - 1) = some (x * y % m)
  | 0, k, r, _, hk, hr => by
    obtain ⟨k, rfl⟩ : ∃ j, k = j + 1 := ⟨k - 1, by omega⟩
    simp only [spec_MulMod.l0]; rw [if_neg (by omega), hr]; simp
  | d + 1, k, r, hd, hk, hr => by
    obtain ⟨k, rfl⟩ : ∃ j, k = j + 1 := ⟨k - 1, by omega⟩
    have hm0 : 0 < m := by omega
    have hr0 := Int.emod_nonneg (x * (y / 2 ^ (d + 1))) (show m ≠ 0 by omega)
    have hr1 := Int.emod_lt_of_pos (x * (y / 2 ^ (d + 1))) hm0
    rw [← hr] at hr0 hr1
    have ht0 := Int.emod_nonneg (r + r) (show m ≠ 0 by omega)
    have ht1 := Int.emod_lt_of_pos (r + r) hm0
    simp only [spec_MulMod.l0]
    rw [if_pos (by omega), l2Add hr0 hr1 hr0 hr1 hm]
    simp only [Option.bind_some]
    rw [show ((d + 1 : Nat) : Int) - 1 = (d : Int) by omega, shr_at y d (by omega), wu (show 0 ≤ (d : Int) by omega) (by omega), if_pos (by omega), wrap_pred d (by omega)]
    have hyd : 0 ≤ y / 2 ^ d := Int.ediv_nonneg hy0 (Int.pow_nonneg (by decide))
    rw [Int.tmod_eq_emod_of_nonneg hyd]
    have hp := half_pow y d
    have e2 : (r + r) % m = x * (2 * (y / 2 ^ (d + 1))) % m := by
      rw [hr, ← Int.add_emod]; congr 1; rw [Int.mul_left_comm]; omega
    by_cases hb : y / 2 ^ d % 2 = 1
    · rw [if_pos hb, l2Add ht0 ht1 hx0 hx hm]
      simp only [Option.bind_some]
      apply spec_mul_go hx0 hx hy0 hm d k _ (by omega) (by omega)
      rw [e2, Int.emod_add_emod]
      congr 1
      have : y / 2 ^ d = 2 * (y / 2 ^ (d + 1)) + 1 := by omega
      rw [this, Int.mul_add, Int.mul_one]
    · rw [if_neg hb]
      apply spec_mul_go hx0 hx hy0 hm d k _ (by omega) (by omega)
      rw [e2]
      congr 2
      omega

/-- products of two halves -/
theorem l2_split {a b ah al bh bl q0 r0 q1 r1 q2 r2 : Int} (ea : a = ah * 4294967296 + al) (eb : b = bh * 4294967296 + bl)
    (h0 : al * bl = q0 * 4294967296 + r0) (h1 : ah * bl + q0 = q1 * 4294967296 + r1) (h2 : al * bh + r1 = q2 * 4294967296 + r2) :
    a * b = (ah * bh + q1 + q2) * 18446744073709551616 + (r2 * 4294967296 + r0) := by
  subst ea eb
  have e : (ah * 4294967296 + al) * (bh * 4294967296 + bl) = ah * bh * 18446744073709551616 + (ah * bl) * 4294967296 + (al * bh) * 4294967296 + al * bl := by grind
  rw [e]
  omega

theorem l2Times {a b : Int} (ha0 : 0 ≤ a) (ha : a < 2305843009213693951) (hb0 : 0 ≤ b) (hb : b < 2305843009213693951) : spec_l2Times.f a b = some (a * b % 2305843009213693951) := by
  have eda : IntKind.u64.wrap (Int.tdiv a 4294967296) = a / 4294967296 := by rw [Int.tdiv_eq_ediv_of_nonneg ha0]; exact wu (by omega) (by omega)
  have edb : IntKind.u64.wrap (Int.tdiv b 4294967296) = b / 4294967296 := by rw [Int.tdiv_eq_ediv_of_nonneg hb0]; exact wu (by omega) (by omega)
  have ema : Int.tmod a 4294967296 = a % 4294967296 := Int.tmod_eq_emod_of_nonneg ha0
  have emb : Int.tmod b 4294967296 = b % 4294967296 := Int.tmod_eq_emod_of_nonneg hb0
  unfold spec_l2Times.f
  rw [eda, edb, ema, emb]
  have hah : 0 ≤ a / 4294967296 ∧ a / 4294967296 < 536870912 := by omega
  have hbh : 0 ≤ b / 4294967296 ∧ b / 4294967296 < 536870912 := by omega
  have hal : 0 ≤ a % 4294967296 ∧ a % 4294967296 < 4294967296 := by omega
  have hbl : 0 ≤ b % 4294967296 ∧ b % 4294967296 < 4294967296 := by omega
  have ea : a = a / 4294967296 * 4294967296 + a % 4294967296 := by omega
  have eb : b = b / 4294967296 * 4294967296 + b % 4294967296 := by omega
  have hPm : a * b ≤ 2305843009213693950 * 2305843009213693950 := Int.mul_le_mul (by omega) (by omega) hb0 (by omega)
  have hab0 : 0 ≤ a * b := Int.mul_nonneg ha0 hb0
  generalize a / 4294967296 = ah at *
  generalize b / 4294967296 = bh at *
  generalize a % 4294967296 = al at *
  generalize b % 4294967296 = bl at *
  have p0 : 0 ≤ al * bl := Int.mul_nonneg hal.1 hbl.1
  have p0' : al * bl ≤ 4294967295 * 4294967295 := Int.mul_le_mul (by omega) (by omega) hbl.1 (by omega)
  have p1 : 0 ≤ ah * bl := Int.mul_nonneg hah.1 hbl.1
  have p1' : ah * bl ≤ 536870911 * 4294967295 := Int.mul_le_mul (by omega) (by omega) hbl.1 (by omega)
  have p2 : 0 ≤ al * bh := Int.mul_nonneg hal.1 hbh.1
  have p2' : al * bh ≤ 4294967295 * 536870911 := Int.mul_le_mul (by omega) (by omega) hbh.1 (by omega)
  have p3 : 0 ≤ ah * bh := Int.mul_nonneg hah.1 hbh.1
  have p3' : ah * bh ≤ 536870911 * 536870911 := Int.mul_le_mul (by omega) (by omega) hbh.1 (by omega)
  have W0 : IntKind.u64.wrap (al * bl) = al * bl := wu p0 (by omega)
  have D0 : IntKind.u64.wrap (Int.tdiv (al * bl) 4294967296) = al * bl / 4294967296 := by rw [Int.tdiv_eq_ediv_of_nonneg p0]; exact wu (by omega) (by omega)
  have M0 : Int.tmod (al * bl) 4294967296 = al * bl % 4294967296 := Int.tmod_eq_emod_of_nonneg p0
  have W1 : IntKind.u64.wrap (ah * bl) = ah * bl := wu p1 (by omega)
  have W2 : IntKind.u64.wrap (al * bh) = al * bh := wu p2 (by omega)
  have W3 : IntKind.u64.wrap (ah * bh) = ah * bh := wu p3 (by omega)
  rw [W0, D0, M0, W1, W2, W3]
  have S := l2_split (q0 := al * bl / 4294967296) (r0 := al * bl % 4294967296) (q1 := (ah * bl + al * bl / 4294967296) / 4294967296) (r1 := (ah * bl + al * bl / 4294967296) % 4294967296)
    (q2 := (al * bh + (ah * bl + al * bl / 4294967296) % 4294967296) / 4294967296) (r2 := (al * bh + (ah * bl + al * bl / 4294967296) % 4294967296) % 4294967296) ea eb (by omega) (by omega) (by omega)
  clear ea eb
  have hq0 : 0 ≤ al * bl / 4294967296 ∧ al * bl / 4294967296 < 4294967296 := by omega
  have hr0 : 0 ≤ al * bl % 4294967296 ∧ al * bl % 4294967296 < 4294967296 := by omega
  generalize al * bl / 4294967296 = q0 at *
  generalize al * bl % 4294967296 = r0 at *
  have W4 : IntKind.u64.wrap (ah * bl + q0) = ah * bl + q0 := wu (by omega) (by omega)
  rw [W4]
  have m1 : 0 ≤ ah * bl + q0 := by omega
  have m1' : ah * bl + q0 < 18446744073709551616 := by omega
  generalize ah * bl + q0 = m1v at *
  have D1 : IntKind.u64.wrap (Int.tdiv m1v 4294967296) = m1v / 4294967296 := by rw [Int.tdiv_eq_ediv_of_nonneg m1]; exact wu (by omega) (by omega)
  have M1 : Int.tmod m1v 4294967296 = m1v % 4294967296 := Int.tmod_eq_emod_of_nonneg m1
  rw [D1, M1]
  have W5 : IntKind.u64.wrap (al * bh + m1v % 4294967296) = al * bh + m1v % 4294967296 := wu (by omega) (by omega)
  rw [W5]
  have m2 : 0 ≤ al * bh + m1v % 4294967296 := by omega
  have m2' : al * bh + m1v % 4294967296 < 18446744073709551616 := by omega
  generalize al * bh + m1v % 4294967296 = m2v at *
  have D2 : IntKind.u64.wrap (Int.tdiv m2v 4294967296) = m2v / 4294967296 := by rw [Int.tdiv_eq_ediv_of_nonneg m2]; exact wu (by omega) (by omega)
  rw [D2]
  have W6 : IntKind.u64.wrap (ah * bh + m1v / 4294967296) = ah * bh + m1v / 4294967296 := wu (by omega) (by omega)
  rw [W6]
  have W7 : IntKind.u64.wrap (ah * bh + m1v / 4294967296 + m2v / 4294967296) = ah * bh + m1v / 4294967296 + m2v / 4294967296 := wu (by omega) (by omega)
  rw [W7]
  have elo : IntKind.u64.wrap (IntKind.u64.wrap (m2v * 4294967296) + r0) = m2v % 4294967296 * 4294967296 + r0 := by
    simp only [wrap_u64]; omega
  rw [elo]
  have hlo : 0 ≤ m2v % 4294967296 * 4294967296 + r0 ∧ m2v % 4294967296 * 4294967296 + r0 < 18446744073709551616 := by omega
  have hhi : 0 ≤ ah * bh + m1v / 4294967296 + m2v / 4294967296 := by omega
  generalize m2v % 4294967296 * 4294967296 + r0 = lo at *
  generalize ah * bh + m1v / 4294967296 + m2v / 4294967296 = hi at *
  have hi1 : hi * 18446744073709551616 ≤ 2305843009213693950 * 2305843009213693950 := by omega
  have W8 : IntKind.u64.wrap (hi * 8) = hi * 8 := wu (by omega) (by omega)
  have D3 : IntKind.u64.wrap (Int.tdiv lo 2305843009213693952) = lo / 2305843009213693952 := by rw [Int.tdiv_eq_ediv_of_nonneg hlo.1]; exact wu (by omega) (by omega)
  have W9 : IntKind.u64.wrap (hi * 8 + lo / 2305843009213693952) = hi * 8 + lo / 2305843009213693952 := wu (by omega) (by omega)
  rw [W8, D3, W9]
  have M2 : Int.tmod lo 2305843009213693952 = lo % 2305843009213693952 := Int.tmod_eq_emod_of_nonneg hlo.1
  have M3 : Int.tmod (lo % 2305843009213693952) 2305843009213693951 = lo % 2305843009213693952 % 2305843009213693951 := Int.tmod_eq_emod_of_nonneg (by omega)
  rw [M2, M3]
  have hx : hi * 8 + lo / 2305843009213693952 < 2305843009213693951 := by omega
  rw [l2Add (by omega) hx (by omega) (by omega) (by omega)]
  simp only [Option.bind_some]
  congr 1
  rw [S]
  omega

end Go.Proofs.YtgdcafbdkidamaaGreatDoor.Pure
end
