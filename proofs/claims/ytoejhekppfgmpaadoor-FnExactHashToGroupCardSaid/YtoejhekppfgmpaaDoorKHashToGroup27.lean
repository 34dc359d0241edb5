/- What the proof of FnExactHashToGroup leans on, part 27: cut out of the texts of this claim's making by a program (wip/tools/pack.py). -/
import Derived.Test.YtoejhekppfgmpaaDoorKHashToGroup11
import Derived.Test.YtoejhekppfgmpaaDoorKHashToGroup12
import Derived.Test.YtoejhekppfgmpaaDoorKHashToGroup13
import Derived.Test.YtoejhekppfgmpaaDoorKHashToGroup14
import Derived.Test.YtoejhekppfgmpaaDoorKHashToGroup18
import Derived.Test.YtoejhekppfgmpaaDoorKHashToGroup23
import Derived.Test.YtoejhekppfgmpaaDoorKHashToGroup25
import Derived.Test.YtoejhekppfgmpaaDoorKHashToGroup26
section
namespace Go.Proofs.YtoejhekppfgmpaaDoor.Pure
open Go.RowKit Go.Proofs.YtoejhekppfgmpaaDoor.B Go.Proofs.YtoejhekppfgmpaaDoor.C Go.Proofs.YtoejhekppfgmpaaDoor.H0 Go.Proofs.YtoejhekppfgmpaaDoor.H1 Go.Proofs.YtoejhekppfgmpaaDoor.H2 Go.Proofs.YtoejhekppfgmpaaDoor.H3 Go.Proofs.YtoejhekppfgmpaaDoorW.PrintWords Go.Proofs.YtoejhekppfgmpaaDoorW.PrintLast Go.Proofs.YtoejhekppfgmpaaDoorW.PrintMore
theorem inverse_P (a : Int) (ha0 : 0 ≤ a) (ha : a < 18446744073709551616) :
    impl_num_impl_fieldP_inverse.f a = some (a ^ 2305843009213693949 % 2305843009213693951) := by
  simp only [impl_num_impl_fieldP_inverse.f, impl_prime_impl_fieldP.f, Option.bind_some]
  rw [show IntKind.u64.wrap (primefieldP - 2) = 2305843009213693949 by decide]
  rw [power_P a 2305843009213693949 ha0 ha (by decide) (by decide)]
  rfl

end Go.Proofs.YtoejhekppfgmpaaDoor.Pure
end
section
namespace Go.Proofs.YtoejhekppfgmpaaDoor.Pure
open Go.RowKit Go.Proofs.YtoejhekppfgmpaaDoor.B Go.Proofs.YtoejhekppfgmpaaDoor.C Go.Proofs.YtoejhekppfgmpaaDoor.H0 Go.Proofs.YtoejhekppfgmpaaDoor.H1 Go.Proofs.YtoejhekppfgmpaaDoor.H2 Go.Proofs.YtoejhekppfgmpaaDoor.H3 Go.Proofs.YtoejhekppfgmpaaDoor.H4 Go.Proofs.YtoejhekppfgmpaaDoor.CD Go.Proofs.YtoejhekppfgmpaaDoor.V2 Go.Proofs.YtoejhekppfgmpaaDoorW.PrintWords Go.Proofs.YtoejhekppfgmpaaDoorW.PrintLast Go.Proofs.YtoejhekppfgmpaaDoorW.PrintMore Go.Proofs.YtoejhekppfgmpaaDoor.F
open EC Fp Grp Vi
set_option linter.unusedVariables false
set_option linter.unusedSimpArgs false
def enc : Pt → Int × Int × Bool
  | .zero => (0, 0, true)
  | .aff x y => (vi x, vi y, false)

theorem vi_u (a : Fp) : 0 ≤ vi a ∧ vi a < 18446744073709551616 := by have := vi_range a; omega

theorem rhs_ints (x p : Int) : (((x * x % p * x) % p - (3 * x) % p) % p + 111) % p = (x * x * x - 3 * x + 111) % p := by
  obtain ⟨k1, e1⟩ := mod_out (x * x) p
  obtain ⟨k2, e2⟩ := mod_out (x * x % p * x) p
  obtain ⟨k3, e3⟩ := mod_out (3 * x) p
  obtain ⟨k4, e4⟩ := mod_out ((x * x % p * x) % p - (3 * x) % p) p
  rw [e4, e3, e2, e1]
  refine Int.emod_eq_emod_iff_emod_sub_eq_zero.2 (Int.emod_eq_zero_of_dvd ⟨-k4 + k3 - k2 - k1 * x, ?_⟩)
  grind
theorem rhs_vi (a : Fp) : rhs (vi a) = vi (Swu.g a) := by
  have e : Swu.g a = a * a * a - 3 * a + 111 := by unfold Swu.g; grobner
  rw [e, ← vi_add, ← vi_sub, ← vi_mul, ← vi_mul, ← vi_mul, show vi 3 = 3 from rfl, show vi 111 = 111 from rfl, rhs_ints]
  rfl

theorem oc_aff (a b : Fp) : oc (vi a) (vi b) false = true ↔ Cv (.aff a b) := by
  rw [oc_f, decide_eq_true_eq]
  rw [vi_mul, rhs_vi]
  constructor
  · rintro ⟨_, _, h⟩
    exact vi_inj h
  · intro h
    exact ⟨(vi_range a).2, (vi_range b).2, congrArg vi h⟩

theorem oc_enc {p : Pt} (h : Cv p) : oc (enc p).1 (enc p).2.1 (enc p).2.2 = true := by
  cases p with
  | zero => rfl
  | aff x y => exact (oc_aff x y).2 h

theorem inv_spec (a : Fp) {k : Nat} (hk : 131 ≤ k) : spec_InvMod.f k (vi a) 2305843009213693951 = some (vi (inv a)) := by
  unfold spec_InvMod.f
  rw [if_neg (by decide), show IntKind.u64.wrap (2305843009213693951 - 2) = 2305843009213693949 by decide, spec_powmod _ _ _ (vi_u a).1 (by decide) (by decide) (by decide) (by decide) hk]
  simp only [Option.bind_some]
  rw [if_neg (by decide), vi_inv a (2305843009213693949 : Int).toNat (by decide)]

theorem inv_impl (a : Fp) : impl_num_impl_fieldP_inverse.f (vi a) = some (vi (inv a)) := by
  rw [inverse_P _ (vi_u a).1 (vi_u a).2, vi_inv a 2305843009213693949 rfl]

theorem l2T (a b : Fp) : spec_l2Times.f (vi a) (vi b) = some (vi (a * b)) := by
  rw [l2Times (vi_range a).1 (vi_range a).2 (vi_range b).1 (vi_range b).2, vi_mul]
theorem l3M (a b : Fp) : spec_l3Minus.f (vi a) (vi b) = some (vi (a - b)) := by
  rw [l3Minus_P _ _ (vi_range a).1 (vi_range a).2 (vi_range b).1 (vi_range b).2, vi_sub]
theorem l2A (a b : Fp) : spec_l2Add.f (vi a) (vi b) 2305843009213693951 = some (vi (a + b)) := by
  rw [l2Add (vi_range a).1 (vi_range a).2 (vi_range b).1 (vi_range b).2 (by decide), vi_add]

theorem l3Sum_by (x1 y1 x2 y2 u d : Fp) {k : Nat} (hk : 132 ≤ k) :
    spec_l3Sum.j0 k (vi u) (vi d) (vi x1) (vi y1) false (vi x2) (vi y2) false = some (enc (by' (u * inv d) x1 y1 x2)) := by
  obtain ⟨k, rfl⟩ : ∃ j, k = j + 1 := ⟨k - 1, by omega⟩
  rw [spec_l3Sum.j0]
  rw [inv_spec _ (by omega), Option.bind_some]
  rw [l2T, Option.bind_some]
  rw [l2T, Option.bind_some]
  rw [l3M, Option.bind_some]
  rw [l3M, Option.bind_some]
  rw [l3M, Option.bind_some]
  rw [l2T, Option.bind_some]
  rw [l3M, Option.bind_some]
  simp only [enc, by']

theorem l3Sum_aff (x1 y1 x2 y2 : Fp) {k : Nat} (hk : 132 ≤ k) : spec_l3Sum.f k (vi x1) (vi y1) false (vi x2) (vi y2) false = some (enc (pl (.aff x1 y1) (.aff x2 y2))) := by
  unfold spec_l3Sum.f
  rw [if_neg (by decide), if_neg (by decide), l3M, Option.bind_some, l3M, Option.bind_some]
  by_cases hx : x1 = x2
  · subst hx
    rw [if_pos rfl, l2A, Option.bind_some]
    rw [show pl (Pt.aff x1 y1) (Pt.aff x1 y2) = if y1 + y2 = 0 then Pt.zero else by' ((3*(x1*x1)+(-3))*inv (y1+y1)) x1 y1 x1 from by simp [pl, add]]
    by_cases hy : y1 + y2 = 0
    · rw [if_pos (vi_zero.2 hy), if_pos hy]; rfl
    · rw [if_neg (fun h => hy (vi_zero.1 h)), if_neg hy, l2T, Option.bind_some]
      rw [show (3 : Int) = vi 3 from rfl, l2T, Option.bind_some]
      rw [l3M, Option.bind_some]
      rw [l2A, Option.bind_some]
      rw [l3Sum_by _ _ _ _ _ _ hk, show 3 * (x1 * x1) - 3 = 3 * (x1 * x1) + (-3) by grobner]
  · rw [if_neg (fun h => hx (vi_inj h)), l3Sum_by _ _ _ _ _ _ hk]
    rw [show pl (Pt.aff x1 y1) (Pt.aff x2 y2) = by' ((y2-y1)*inv (x2-x1)) x1 y1 x2 from by simp [pl, add, hx]]

theorem l3Sum_spec (p q : Pt) {k : Nat} (hk : 132 ≤ k) : spec_l3Sum.f k (enc p).1 (enc p).2.1 (enc p).2.2 (enc q).1 (enc q).2.1 (enc q).2.2 = some (enc (pl p q)) := by
  cases p with
  | zero =>
    unfold spec_l3Sum.f
    rw [if_pos (show (enc Pt.zero).2.2 = true from rfl), show pl .zero q = q from add_zero_left _ q]
  | aff x1 y1 =>
    cases q with
    | zero =>
      unfold spec_l3Sum.f
      rw [if_neg (by simp [enc]), if_pos (show (enc Pt.zero).2.2 = true from rfl)]; rfl
    | aff x2 y2 => exact l3Sum_aff x1 y1 x2 y2 hk

theorem point_impl (s : Sp) {k : Nat} (hk : 10 ≤ k) : impl_spatial_point.f k (v3 s).1 (v3 s).2.1 (v3 s).2.2 = some (enc (ptOf s)) := by
  unfold impl_spatial_point.f ptOf v3
  simp only []
  by_cases h : s.2.2 = 0
  · rw [if_pos (vi_zero.2 h), if_pos h]; rfl
  · rw [if_neg (fun e => h (vi_zero.1 e)), if_neg h, inv_impl, Option.bind_some]
    rw [prod_P _ _ (vi_u _).1 (vi_u _).2 (vi_u _).1 (vi_u _).2 hk, Option.bind_some]
    rw [vi_mul, prod_P _ _ (vi_u _).1 (vi_u _).2 (vi_u _).1 (vi_u _).2 hk, Option.bind_some]
    rw [prod_P _ _ (vi_u _).1 (vi_u _).2 (vi_u _).1 (vi_u _).2 hk, Option.bind_some]
    rw [vi_mul, vi_mul, prod_P _ _ (vi_u _).1 (vi_u _).2 (vi_u _).1 (vi_u _).2 hk, Option.bind_some]
    rw [vi_mul]; rfl

theorem spatial_impl (p : Pt) : impl_onCurve_spatial.f (enc p).1 (enc p).2.1 (enc p).2.2 = some (v3 (spOf p)) := by
  cases p <;> rfl

theorem plus_v3 (s t : Sp) : impl_spatial_plus.f (v3 s).1 (v3 s).2.1 (v3 s).2.2 (v3 t).1 (v3 t).2.1 (v3 t).2.2 = some (v3 (pls s t)) := pls_vi s t

theorem add_impl (p q : Pt) (hp : Cv p) (hq : Cv q) {k : Nat} (hk : 12 ≤ k) : impl_Add.f k (enc p).1 (enc p).2.1 (enc p).2.2 (enc q).1 (enc q).2.1 (enc q).2.2 = some (enc (pl p q)) := by
  have up : ∀ p : Pt, (0 ≤ (enc p).1 ∧ (enc p).1 < 18446744073709551616) ∧ (0 ≤ (enc p).2.1 ∧ (enc p).2.1 < 18446744073709551616) := by
    intro p; cases p
    · exact ⟨by decide, by decide⟩
    · exact ⟨vi_u _, vi_u _⟩
  obtain ⟨x, e1, e2⟩ := at_impl _ _ (enc p).2.2 (up p).1.1 (up p).1.2 (up p).2.1 (up p).2.2 (k := k) (by omega)
  obtain ⟨y, e3, e4⟩ := at_impl _ _ (enc q).2.2 (up q).1.1 (up q).1.2 (up q).2.1 (up q).2.2 (k := k) (by omega)
  have e5 := e2 (oc_enc hp)
  have e6 := e4 (oc_enc hq)
  subst e5 e6
  unfold impl_Add.f
  rw [e1, Option.bind_some]
  rw [e3, Option.bind_some]
  rw [if_pos (oc_enc hp), oc_enc hq]
  obtain ⟨k, rfl⟩ : ∃ j, k = j + 1 := ⟨k - 1, by omega⟩
  rw [impl_Add.j0]
  rw [if_neg (by simp), spatial_impl, Option.bind_some]
  rw [spatial_impl, Option.bind_some]
  rw [plus_v3, Option.bind_some]
  rw [point_impl _ (by omega), Option.bind_some]
  rw [rep_ptOf (rep_pls hp hq (rep_spOf p) (rep_spOf q))]

end Go.Proofs.YtoejhekppfgmpaaDoor.Pure
end
