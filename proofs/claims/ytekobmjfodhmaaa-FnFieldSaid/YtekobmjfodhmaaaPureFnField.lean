/- The field's law: products, powers, inverses, remainders and roots of drawn numbers. -/
import Derived.Test.YtekobmjfodhmaaaP5
import Derived.Test.YtekobmjfodhmaaaD1
import Derived.Test.YtekobmjfodhmaaaCx5
namespace Go.Proofs.Ytekobmjfodhmaaa.Pure
open Go.RowKit Go.Proofs.Ytekobmjfodhmaaa.B Go.Proofs.Ytekobmjfodhmaaa.C Go.Proofs.Ytekobmjfodhmaaa.H2 Go.Proofs.YtekobmjfodhmaaaW.PrintWords Go.Proofs.YtekobmjfodhmaaaW.PrintLast
set_option linter.unusedVariables false
set_option linter.unusedSimpArgs false

theorem drawMulMod (l : List Int) (hl : l.length ≤ 1048576) {k : Nat} (hk : 1002 ≤ k) :
    ∃ a b m, spec_DrawMulMod.f k l = some (a, b, m) ∧ (0 ≤ a ∧ a < 18446744073709551616) ∧ (0 ≤ b ∧ b < 18446744073709551616) ∧ 0 ≤ m ∧ m < 18446744073709551616 := by
  unfold spec_DrawMulMod.f
  obtain ⟨a, p, e1, a0, a1, p0, p1⟩ := Draw.drawWord l hl (p := 0) (by omega) (by omega) hk
  rw [e1]; simp only [Option.bind_some]
  obtain ⟨b, q, e2, b0, b1, q0, q1⟩ := Draw.drawWord l hl (p := p) (by omega) (by omega) hk
  rw [e2]; simp only [Option.bind_some]
  obtain ⟨m, s, e3, m0, m1, _, _⟩ := Draw.drawMod l hl (p := q) (by omega) (by omega) hk
  rw [e3]; simp only [Option.bind_some]
  exact ⟨a, b, m, rfl, ⟨a0, a1⟩, ⟨b0, b1⟩, m0, m1⟩

theorem drawReduce (l : List Int) (hl : l.length ≤ 1048576) : ∃ K, ∀ k, K ≤ k → ∃ s m, spec_DrawReduce.f k l = some (s, m) ∧ 0 ≤ m ∧ m < 18446744073709551616 := by
  obtain ⟨m, p, e1, m0, m1, p0, p1⟩ := Draw.drawMod l hl (p := 0) (by omega) (by omega) (k := 1002) (by omega)
  obtain ⟨K, s, q, e2, _, _, _⟩ := Draw.some_ l hl (p := p) (by omega) (by omega)
  refine ⟨K + 1002, fun k hk => ⟨s, m, ?_, m0, m1⟩⟩
  unfold spec_DrawReduce.f
  rw [Draw.up (g := fun k => spec_l2DrawMod.f k l 0) (spec_l2DrawMod.mono _ _) (show 1002 ≤ k by omega) e1]; simp only [Option.bind_some]
  rw [e2 k (by omega)]; rfl

theorem drawSqrt (l : List Int) (hl : l.length ≤ 1048576) {k : Nat} (hk : 1002 ≤ k) : ∃ x, spec_DrawSqrt.f k l = some x ∧ 0 ≤ x ∧ x < 18446744073709551616 := by
  unfold spec_DrawSqrt.f
  obtain ⟨a, p, e1, a0, a1, p0, p1⟩ := Draw.drawWord l hl (p := 0) (by omega) (by omega) hk
  rw [e1]; simp only [Option.bind_some]
  obtain ⟨h, _, _, e2⟩ := Draw.take l (p := p) (n := 2) hl (by omega) (by omega) (by omega) (k := k) (by omega)
  rw [e2]; simp only [Option.bind_some]
  split
  · rw [spec_mulmod a a 2305843009213693951 a0 a0 (by decide) (by decide) (by omega), if_neg (by decide)]
    simp only [Option.bind_some]
    have := Int.emod_nonneg (a * a) (show (2305843009213693951 : Int) ≠ 0 by decide)
    have := Int.emod_lt_of_pos (a * a) (show (0 : Int) < 2305843009213693951 by decide)
    exact ⟨_, rfl, by omega, by omega⟩
  · exact ⟨a, rfl, a0, a1⟩

theorem field_j1 (l : List Int) (hl : l.length ≤ 1048576) : ∃ K, ∀ k, K ≤ k → laws_FnField.j1 k l false = some true := by
  obtain ⟨K, hK⟩ := drawReduce l hl
  refine ⟨K + 700001, fun k hk => ?_⟩
  obtain ⟨k, rfl⟩ : ∃ j, k = j + 1 := ⟨k - 1, by omega⟩
  simp only [laws_FnField.j1]
  rw [if_neg (by decide)]
  obtain ⟨s, m, e1, m0, m1⟩ := hK k (by omega)
  rw [e1]; simp only [Option.bind_some]
  rw [impl_reduce s m m0 m1 (by omega)]; simp only [Option.bind_some]
  rw [spec_reduce s m m0 m1 (by omega)]; simp only [Option.bind_some]
  rw [if_pos trivial]
  obtain ⟨x, e2, x0, x1⟩ := drawSqrt l hl (k := k) (by omega)
  rw [e2]; simp only [Option.bind_some]
  rw [sqrt_impl x x0 x1 (by omega)]; simp only [Option.bind_some]
  rw [sqrt_spec x x0 x1 (by omega)]; simp only [Option.bind_some]
  have r0 := Int.emod_nonneg (x ^ 576460752303423488) (show (2305843009213693951 : Int) ≠ 0 by decide)
  have r1 := Int.emod_lt_of_pos (x ^ 576460752303423488) (show (0 : Int) < 2305843009213693951 by decide)
  generalize x ^ 576460752303423488 % 2305843009213693951 = r at *
  have hr := even_range r0 r1
  by_cases c1 : x ≥ 2305843009213693951
  · rw [if_pos c1]; rfl
  · rw [if_neg c1]
    by_cases c2 : r * r % 2305843009213693951 = x
    · rw [if_pos c2]
      have h2 : Int.tmod (even r) 2 = 0 := (even_even r).resolve_right (by omega)
      rw [if_neg (by simp), if_pos rfl, if_pos h2, mulmod (even r) (even r) 2305843009213693951 hr.1 (by omega) hr.1 (by omega) (by decide) (by decide) (by omega), if_neg (by decide), even_sq, c2]
      simp
    · rw [if_neg c2]; rfl

theorem FnField : laws_FnField.Pure := by
  intro l _ _ _
  by_cases hl : (l.length : Int) > 1048576
  · exact ⟨0, by unfold laws_FnField.f; rw [if_pos hl]⟩
  · obtain ⟨K, hj⟩ := field_j1 l (by omega)
    refine ⟨K + 2000 + 1, ?_⟩
    obtain ⟨a, b, m, e1, ha, hb, hm⟩ := drawMulMod l (by omega) (k := K + 2000 + 1) (by omega)
    unfold laws_FnField.f
    rw [if_neg hl, e1]; simp only [Option.bind_some]
    rw [mulmod a b m ha.1 ha.2 hb.1 hb.2 hm.1 hm.2 (by omega)]; simp only [Option.bind_some]
    rw [spec_mulmod a b m ha.1 hb.1 hm.1 hm.2 (by omega)]; simp only [Option.bind_some]
    rw [if_pos trivial, impl_powmod a b m ha.1 ha.2 hb.1 hb.2 hm.1 hm.2]; simp only [Option.bind_some]
    rw [spec_powmod a b m ha.1 hb.1 hb.2 hm.1 hm.2 (by omega)]; simp only [Option.bind_some]
    rw [bne_self_eq_false]
    simp only [laws_FnField.j0]
    rw [if_neg (by decide), Int.tmod_eq_emod_of_nonneg ha.1, Int.tmod_eq_emod_of_nonneg ha.1]
    have hj' := hj (K + 2000) (by omega)
    have nP : ∀ x : Int, x % 2305843009213693951 < 18446744073709551616 ∧ 0 ≤ x % 2305843009213693951 := fun x => by omega
    have nN : ∀ x : Int, x % 2305843010818082053 < 18446744073709551616 ∧ 0 ≤ x % 2305843010818082053 := fun x => by omega
    have N : a % 2305843010818082053 ≠ 0 → (((impl_InvMod.f a 2305843010818082053).bind fun t120 => ((impl_MulMod.f (K + 2000) a t120 2305843010818082053).bind fun t121 => (laws_FnField.j1 (K + 2000) l (t121 != 1)))) = some true) := by
      intro h
      rw [invmod_N a ha.1 ha.2]; simp only [Option.bind_some]
      rw [mulmod a _ 2305843010818082053 ha.1 ha.2 (nN _).2 (nN _).1 (by decide) (by decide) (by omega), if_neg (by decide), inv_one_N ha.1 h]
      simp only [Option.bind_some]
      rw [bne_self_eq_false, hj']
    by_cases hP : a % 2305843009213693951 = 0
    · rw [if_pos hP]
      by_cases hN : a % 2305843010818082053 = 0
      · rw [if_pos hN, hj']
      · rw [if_neg hN]; exact N hN
    · rw [if_neg hP, invmod_P a ha.1 ha.2]; simp only [Option.bind_some]
      rw [mulmod a _ 2305843009213693951 ha.1 ha.2 (nP _).2 (nP _).1 (by decide) (by decide) (by omega), if_neg (by decide), inv_one_P ha.1 hP]
      simp only [Option.bind_some]
      rw [if_pos trivial]
      by_cases hN : a % 2305843010818082053 = 0
      · rw [if_pos hN, hj']
      · rw [if_neg hN]; exact N hN

end Go.Proofs.Ytekobmjfodhmaaa.Pure
