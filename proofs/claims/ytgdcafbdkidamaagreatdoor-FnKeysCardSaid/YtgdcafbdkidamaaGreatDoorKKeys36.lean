/- What the proof of FnKeys leans on, part 36: cut out of the texts of this claim's making by a program (wip/tools/pack.py). -/
import Derived.Test.YtgdcafbdkidamaaGreatDoorKKeys8
import Derived.Test.YtgdcafbdkidamaaGreatDoorKKeys10
import Derived.Test.YtgdcafbdkidamaaGreatDoorKKeys11
import Derived.Test.YtgdcafbdkidamaaGreatDoorKKeys12
import Derived.Test.YtgdcafbdkidamaaGreatDoorKKeys13
import Derived.Test.YtgdcafbdkidamaaGreatDoorKKeys24
import Derived.Test.YtgdcafbdkidamaaGreatDoorKKeys27
import Derived.Test.YtgdcafbdkidamaaGreatDoorKKeys28
import Derived.Test.YtgdcafbdkidamaaGreatDoorKKeys29
section
namespace Go.Proofs.YtgdcafbdkidamaaGreatDoor.Pure
open Go.RowKit Go.Proofs.YtgdcafbdkidamaaGreatDoor.B Go.Proofs.YtgdcafbdkidamaaGreatDoor.C Go.Proofs.YtgdcafbdkidamaaGreatDoor.H0 Go.Proofs.YtgdcafbdkidamaaGreatDoor.H1 Go.Proofs.YtgdcafbdkidamaaGreatDoor.H2 Go.Proofs.YtgdcafbdkidamaaGreatDoor.H3 Go.Proofs.YtgdcafbdkidamaaGreatDoor.H4 Go.Proofs.YtgdcafbdkidamaaGreatDoor.CD Go.Proofs.YtgdcafbdkidamaaGreatDoor.V2 Go.Proofs.YtgdcafbdkidamaaGreatDoorW.PrintWords Go.Proofs.YtgdcafbdkidamaaGreatDoorW.PrintLast Go.Proofs.YtgdcafbdkidamaaGreatDoorW.PrintMore Go.Proofs.YtgdcafbdkidamaaGreatDoor.D
open EC Fp Grp Vi
set_option linter.unusedVariables false
set_option linter.unusedSimpArgs false
def enc : Pt → Int × Int × Bool
  | .zero => (0, 0, true)
  | .aff x y => (vi x, vi y, false)

theorem vi_u (a : Fp) : 0 ≤ vi a ∧ vi a < 18446744073709551616 := by have := vi_range a; omega

theorem rhs_ints (x p : Int) : (((x * x % p * x) % p - (3 * x) % p) % p + 111) % p = (x * x * x - 3 * x + 111) % p := by
  obtain ⟨k1, e1⟩ := mod_out (x * x) p
  obtain ⟨k2, e2⟩ := mod_out (x * x % p * x) p
  obtain ⟨k3, e3⟩ := mod_out (3 * x) p
  obtain ⟨k4, e4⟩ := mod_out ((x * x % p * x) % p - (3 * x) % p) p
  rw [e4, e3, e2, e1]
  refine Int.emod_eq_emod_iff_emod_sub_eq_zero.2 (Int.emod_eq_zero_of_dvd ⟨-k4 + k3 - k2 - k1 * x, ?_⟩)
  grind
theorem rhs_vi (a : Fp) : rhs (vi a) = vi (Swu.g a) := by
  have e : Swu.g a = a * a * a - 3 * a + 111 := by unfold Swu.g; grobner
  rw [e, ← vi_add, ← vi_sub, ← vi_mul, ← vi_mul, ← vi_mul, show vi 3 = 3 from rfl, show vi 111 = 111 from rfl, rhs_ints]
  rfl

theorem oc_aff (a b : Fp) : oc (vi a) (vi b) false = true ↔ Cv (.aff a b) := by
  rw [oc_f, decide_eq_true_eq]
  rw [vi_mul, rhs_vi]
  constructor
  · rintro ⟨_, _, h⟩
    exact vi_inj h
  · intro h
    exact ⟨(vi_range a).2, (vi_range b).2, congrArg vi h⟩

theorem oc_enc {p : Pt} (h : Cv p) : oc (enc p).1 (enc p).2.1 (enc p).2.2 = true := by
  cases p with
  | zero => rfl
  | aff x y => exact (oc_aff x y).2 h

theorem oc_pt {x y : Int} {inf : Bool} (hx : 0 ≤ x) (hy : 0 ≤ y) (h : oc x y inf = true) : ∃ p : Pt, Cv p ∧ (x, y, inf) = enc p := by
  cases inf
  · have h2 := h
    rw [oc_f, decide_eq_true_eq] at h2
    obtain ⟨a, rfl⟩ := vi_of hx h2.1
    obtain ⟨b, rfl⟩ := vi_of hy h2.2.1
    exact ⟨.aff a b, (oc_aff a b).1 h, rfl⟩
  · rw [oc_t, decide_eq_true_eq] at h
    obtain ⟨rfl, rfl⟩ := h
    exact ⟨.zero, trivial, rfl⟩

theorem inv_spec (a : Fp) {k : Nat} (hk : 131 ≤ k) : spec_InvMod.f k (vi a) 2305843009213693951 = some (vi (inv a)) := by
  unfold spec_InvMod.f
  rw [if_neg (by decide), show IntKind.u64.wrap (2305843009213693951 - 2) = 2305843009213693949 by decide, spec_powmod _ _ _ (vi_u a).1 (by decide) (by decide) (by decide) (by decide) hk]
  simp only [Option.bind_some]
  rw [if_neg (by decide), vi_inv a (2305843009213693949 : Int).toNat (by decide)]

theorem inv_impl (a : Fp) : impl_num_impl_fieldP_inverse.f (vi a) = some (vi (inv a)) := by
  rw [inverse_P _ (vi_u a).1 (vi_u a).2, vi_inv a 2305843009213693949 rfl]

theorem l2T (a b : Fp) : spec_l2Times.f (vi a) (vi b) = some (vi (a * b)) := by
  rw [l2Times (vi_range a).1 (vi_range a).2 (vi_range b).1 (vi_range b).2, vi_mul]
theorem l3M (a b : Fp) : spec_l3Minus.f (vi a) (vi b) = some (vi (a - b)) := by
  rw [l3Minus_P _ _ (vi_range a).1 (vi_range a).2 (vi_range b).1 (vi_range b).2, vi_sub]
theorem l2A (a b : Fp) : spec_l2Add.f (vi a) (vi b) 2305843009213693951 = some (vi (a + b)) := by
  rw [l2Add (vi_range a).1 (vi_range a).2 (vi_range b).1 (vi_range b).2 (by decide), vi_add]

theorem l3Sum_by (x1 y1 x2 y2 u d : Fp) {k : Nat} (hk : 132 ≤ k) :
    spec_l3Sum.j0 k (vi u) (vi d) (vi x1) (vi y1) false (vi x2) (vi y2) false = some (enc (by' (u * inv d) x1 y1 x2)) := by
  obtain ⟨k, rfl⟩ : ∃ j, k = j + 1 := ⟨k - 1, by omega⟩
  rw [spec_l3Sum.j0]
  rw [inv_spec _ (by omega), Option.bind_some]
  rw [l2T, Option.bind_some]
  rw [l2T, Option.bind_some]
  rw [l3M, Option.bind_some]
  rw [l3M, Option.bind_some]
  rw [l3M, Option.bind_some]
  rw [l2T, Option.bind_some]
  rw [l3M, Option.bind_some]
  simp only [enc, by']

theorem l3Sum_aff (x1 y1 x2 y2 : Fp) {k : Nat} (hk : 132 ≤ k) : spec_l3Sum.f k (vi x1) (vi y1) false (vi x2) (vi y2) false = some (enc (pl (.aff x1 y1) (.aff x2 y2))) := by
  unfold spec_l3Sum.f
  rw [if_neg (by decide), if_neg (by decide), l3M, Option.bind_some, l3M, Option.bind_some]
  by_cases hx : x1 = x2
  · subst hx
    rw [if_pos rfl, l2A, Option.bind_some]
    rw [show pl (Pt.aff x1 y1) (Pt.aff x1 y2) = if y1 + y2 = 0 then Pt.zero else by' ((3*(x1*x1)+(-3))*inv (y1+y1)) x1 y1 x1 from by simp [pl, add]]
    by_cases hy : y1 + y2 = 0
    · rw [if_pos (vi_zero.2 hy), if_pos hy]; rfl
    · rw [if_neg (fun h => hy (vi_zero.1 h)), if_neg hy, l2T, Option.bind_some]
      rw [show (3 : Int) = vi 3 from rfl, l2T, Option.bind_some]
      rw [l3M, Option.bind_some]
      rw [l2A, Option.bind_some]
      rw [l3Sum_by _ _ _ _ _ _ hk, show 3 * (x1 * x1) - 3 = 3 * (x1 * x1) + (-3) by grobner]
  · rw [if_neg (fun h => hx (vi_inj h)), l3Sum_by _ _ _ _ _ _ hk]
    rw [show pl (Pt.aff x1 y1) (Pt.aff x2 y2) = by' ((y2-y1)*inv (x2-x1)) x1 y1 x2 from by simp [pl, add, hx]]

theorem l3Sum_spec (p q : Pt) {k : Nat} (hk : 132 ≤ k) : spec_l3Sum.f k (enc p).1 (enc p).2.1 (enc p).2.2 (enc q).1 (enc q).2.1 (enc q).2.2 = some (enc (pl p q)) := by
  cases p with
  | zero =>
    unfold spec_l3Sum.f
    rw [if_pos (show (enc Pt.zero).2.2 = true from rfl), show pl .zero q = q from add_zero_left _ q]
  | aff x1 y1 =>
    cases q with
    | zero =>
      unfold spec_l3Sum.f
      rw [if_neg (by simp [enc]), if_pos (show (enc Pt.zero).2.2 = true from rfl)]; rfl
    | aff x2 y2 => exact l3Sum_aff x1 y1 x2 y2 hk

theorem point_impl (s : Sp) {k : Nat} (hk : 10 ≤ k) : impl_spatial_point.f k (v3 s).1 (v3 s).2.1 (v3 s).2.2 = some (enc (ptOf s)) := by
  unfold impl_spatial_point.f ptOf v3
  simp only []
  by_cases h : s.2.2 = 0
  · rw [if_pos (vi_zero.2 h), if_pos h]; rfl
  · rw [if_neg (fun e => h (vi_zero.1 e)), if_neg h, inv_impl, Option.bind_some]
    rw [prod_P _ _ (vi_u _).1 (vi_u _).2 (vi_u _).1 (vi_u _).2 hk, Option.bind_some]
    rw [vi_mul, prod_P _ _ (vi_u _).1 (vi_u _).2 (vi_u _).1 (vi_u _).2 hk, Option.bind_some]
    rw [prod_P _ _ (vi_u _).1 (vi_u _).2 (vi_u _).1 (vi_u _).2 hk, Option.bind_some]
    rw [vi_mul, vi_mul, prod_P _ _ (vi_u _).1 (vi_u _).2 (vi_u _).1 (vi_u _).2 hk, Option.bind_some]
    rw [vi_mul]; rfl

theorem spatial_impl (p : Pt) : impl_onCurve_spatial.f (enc p).1 (enc p).2.1 (enc p).2.2 = some (v3 (spOf p)) := by
  cases p <;> rfl

theorem sm_double {p : Pt} (hp : Cv p) (n : Nat) : pl (sm' n p) (sm' n p) = sm' (2 * n) p := (sm_bit hp n).symm
theorem sm_next {p : Pt} (hp : Cv p) (n : Nat) : pl (sm' n p) p = sm' (n + 1) p := by rw [sm_add hp n 1, sm_one]

theorem sfold_rep {p : Pt} (hp : Cv p) {e : Int} (he0 : 0 ≤ e) (he : e < 18446744073709551616) : RepS (sfold (spOf p) (bitsOf e)) (sm' e.toNat p) := by
  unfold sfold
  refine bits_fold_all (sst (spOf p)) (fun q s => RepS s (sm' q.toNat p)) he0 he ?_ sp0 rep_sp0
  intro q s b hq h
  have h1 := rep_dbl (cv_sm hp _) h
  rw [sm_double hp] at h1
  cases b
  · simpa [sst, show (2 * q).toNat = 2 * q.toNat by omega] using h1
  · have h2 := rep_pls (cv_sm hp _) hp h1 (rep_spOf p)
    rw [sm_next hp] at h2
    simpa [sst, show (2 * q + 1).toNat = 2 * q.toNat + 1 by omega] using h2

theorem el_vi (a : Fp) : el (vi a) = a := vi_inj (vi_el (vi_range a).1 (vi_range a).2)

theorem times_impl (p : Pt) (hp : Cv p) (e : Int) (he0 : 0 ≤ e) (he : e < 18446744073709551616) {k : Nat} (hk : 12 ≤ k) : impl_Times.f k e (enc p).1 (enc p).2.1 (enc p).2.2 = some (enc (sm' e.toNat p)) := by
  have up : (0 ≤ (enc p).1 ∧ (enc p).1 < 18446744073709551616) ∧ (0 ≤ (enc p).2.1 ∧ (enc p).2.1 < 18446744073709551616) := by
    cases p
    · exact ⟨by decide, by decide⟩
    · exact ⟨vi_u _, vi_u _⟩
  obtain ⟨x, e1, e2⟩ := at_impl _ _ (enc p).2.2 up.1.1 up.1.2 up.2.1 up.2.2 (k := k) (by omega)
  have e5 := e2 (oc_enc hp)
  subst e5
  unfold impl_Times.f
  rw [e1, Option.bind_some]
  rw [if_pos (oc_enc hp), spatial_impl, Option.bind_some]
  unfold impl_spatial_times.f
  rw [if_pos ⟨(vi_range _).1, (vi_range _).2, (vi_range _).1, (vi_range _).2, (vi_range _).1, (vi_range _).2, he0, he⟩, Option.bind_some]
  rw [show (el (v3 (spOf p)).1, el (v3 (spOf p)).2.1, el (v3 (spOf p)).2.2) = spOf p from by simp [v3, el_vi], point_impl _ (by omega), Option.bind_some]
  rw [rep_ptOf (sfold_rep hp he0 he)]

theorem spec_times_go {p : Pt} (hp : Cv p) {e : Int} (he0 : 0 ≤ e) : ∀ (d k : Nat), d ≤ 64 → d + 133 < k → ∀ r : Pt, r = sm' (e / 2 ^ d).toNat p →
    spec_Times.l0 k e ((d : Int) - 1) (enc p).1 (enc p).2.1 (enc p).2.2 (enc r).1 (enc r).2.1 (enc r).2.2 = some (enc (sm' e.toNat p))
  | 0, k, _, hk, r, hr => by
    obtain ⟨k, rfl⟩ : ∃ j, k = j + 1 := ⟨k - 1, by omega⟩
    rw [spec_Times.l0]
    rw [if_neg (by omega), hr]
    simp
  | d + 1, k, hd, hk, r, hr => by
    obtain ⟨k, rfl⟩ : ∃ j, k = j + 1 := ⟨k - 1, by omega⟩
    rw [spec_Times.l0]
    rw [if_pos (by omega), l3Sum_spec r r (by omega), Option.bind_some]
    rw [show (((d + 1 : Nat) : Int) - 1) = (d : Int) by omega, wu (by omega) (by omega), if_pos (by omega), wrap64_in (by omega) (by omega)]
    have hs : shr .u64 e (d : Int) = e / 2 ^ d := by
      unfold shr; rw [show min (Int.toNat (d : Int)) IntKind.u64.bits = d by simp [IntKind.bits]; omega]
    have hq0 : 0 ≤ e / 2 ^ d := Int.ediv_nonneg he0 (Int.pow_nonneg (by decide))
    rw [hs, Int.tmod_eq_emod_of_nonneg hq0]
    have hp2 : e / 2 ^ (d + 1) = e / 2 ^ d / 2 := by rw [Int.pow_succ, Int.ediv_ediv_of_nonneg (Int.pow_nonneg (by decide))]
    have hdr : pl r r = sm' (2 * (e / 2 ^ d / 2).toNat) p := by rw [hr, hp2, sm_double hp]
    by_cases hb : e / 2 ^ d % 2 = 1
    · rw [if_pos hb, l3Sum_spec (pl r r) p (by omega), Option.bind_some]
      refine spec_times_go hp he0 d k (by omega) (by omega) _ ?_
      rw [hdr, sm_next hp]
      congr 1; omega
    · rw [if_neg hb]
      refine spec_times_go hp he0 d k (by omega) (by omega) _ ?_
      rw [hdr]
      congr 1; omega

theorem times_spec (p : Pt) (hp : Cv p) (e : Int) (he0 : 0 ≤ e) (he : e < 18446744073709551616) {k : Nat} (hk : 200 ≤ k) : spec_Times.f k e (enc p).1 (enc p).2.1 (enc p).2.2 = some (enc (sm' e.toNat p)) := by
  have up : 0 ≤ (enc p).1 ∧ 0 ≤ (enc p).2.1 := by
    cases p
    · exact ⟨by decide, by decide⟩
    · exact ⟨(vi_u _).1, (vi_u _).1⟩
  unfold spec_Times.f spec_l3Zero.f
  simp only [Option.bind_some]
  rw [onCurve_spec _ _ _ up.1 up.2, Option.bind_some]
  rw [if_pos (oc_enc hp)]
  refine spec_times_go hp he0 64 k (by omega) (by omega) .zero ?_
  rw [Int.ediv_eq_zero_of_lt he0 (by omega)]; rfl

end Go.Proofs.YtgdcafbdkidamaaGreatDoor.Pure
end
