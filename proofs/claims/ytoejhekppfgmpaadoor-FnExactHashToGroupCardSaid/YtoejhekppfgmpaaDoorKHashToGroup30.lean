/- What the proof of FnExactHashToGroup leans on, part 30: cut out of the texts of this claim's making by a program (wip/tools/pack.py). -/
import Derived.Test.YtoejhekppfgmpaaDoorKHashToGroup11
import Derived.Test.YtoejhekppfgmpaaDoorKHashToGroup14
import Derived.Test.YtoejhekppfgmpaaDoorKHashToGroup16
import Derived.Test.YtoejhekppfgmpaaDoorKHashToGroup18
import Derived.Test.YtoejhekppfgmpaaDoorKHashToGroup26
import Derived.Test.YtoejhekppfgmpaaDoorKHashToGroup27
import Derived.Test.YtoejhekppfgmpaaDoorKHashToGroup29
import Derived.KernelRfl
import Derived.OpenShut
section
namespace Go.Proofs.YtoejhekppfgmpaaDoor.MC
open Go Go.RowKit Go.Proofs.YtoejhekppfgmpaaDoorW.PrintWords Go.Proofs.YtoejhekppfgmpaaDoorW.PrintLast Go.Proofs.YtoejhekppfgmpaaDoorW.PrintMore Go.Proofs.YtoejhekppfgmpaaDoor.H0 Go.Proofs.YtoejhekppfgmpaaDoor.H1 Go.Proofs.YtoejhekppfgmpaaDoor.H2 Go.Proofs.YtoejhekppfgmpaaDoor.H3 Go.Proofs.YtoejhekppfgmpaaDoor.C2 Go.Proofs.YtoejhekppfgmpaaDoor.B Go.Proofs.YtoejhekppfgmpaaDoor.C Go.Proofs.YtoejhekppfgmpaaDoor.Ve Go.Proofs.YtoejhekppfgmpaaDoor.VeT Go.Proofs.YtoejhekppfgmpaaDoor.VeE
set_option linter.unusedVariables false
set_option linter.unusedSimpArgs false
def ng (y : Int) : Int := if y = 0 then 0 else 2305843009213693951 - y
theorem in_ng {y : Int} (h : In y) : In (ng y) := by have := h.1; have := h.2; unfold In ng; split <;> omega
theorem neg_c {y : Int} (hy : In y) (w : World) : Calls Tryd.prog 65 #[.agg #[.int .u64 y]] w fun e w' => e = .returned (.agg #[.int .u64 (ng y)]) ∧ Below w.heap.size w w' :=
  impl_num_impl_fieldP_negative.calls y _ w (Pure.negative_P y hy.1 hy.2)
/-- the candidate for a root, told by what the program's power gives -/
def rq (x : Int) : Int := (impl_num_impl_fieldP_power.f x 576460752303423488).getD 0
def ry (x : Int) : Int := Pure.even (rq x)
def rk (x : Int) : Bool := tm (rq x) (rq x) == x
def iv (x : Int) : Int := (impl_num_impl_fieldP_inverse.f x).getD 0
theorem rq_eq {x : Int} (hx : In x) : rq x = x ^ 576460752303423488 % 2305843009213693951 := by
  unfold rq
  rw [Pure.power_P x 576460752303423488 hx.1 (by have := hx.2; omega) (by decide) (by decide), show Int.toNat 576460752303423488 = 576460752303423488 from by decide]; rfl
theorem root_c {x : Int} (hx : In x) (w : World) : Calls Tryd.prog 96 #[.agg #[.int .u64 x]] w fun e w' => e = .returned (.tuple #[.agg #[.int .u64 (ry x)], .bool (rk x)]) ∧ Below w.heap.size w w' :=
  impl_num_impl_fieldP_root.calls 10 x _ _ w (by rw [Pure.root_P x hx.1 (by have := hx.2; omega) (by omega), ← rq_eq hx]; rfl)
theorem in_ry {x : Int} (hx : In x) : In (ry x) := by
  have h0 := Int.emod_nonneg (x ^ 576460752303423488) (show (2305843009213693951 : Int) ≠ 0 by decide)
  have h1 := Int.emod_lt_of_pos (x ^ 576460752303423488) (show (0 : Int) < 2305843009213693951 by decide)
  unfold ry; rw [rq_eq hx]
  generalize x ^ 576460752303423488 % 2305843009213693951 = r at *
  unfold In Pure.even; split <;> omega
theorem inv_eq {x : Int} (hx : In x) : impl_num_impl_fieldP_inverse.f x = some (iv x) := by
  unfold iv; rw [Pure.inverse_P x hx.1 (by have := hx.2; omega)]; rfl
theorem in_iv {x : Int} (hx : In x) : In (iv x) := by
  unfold iv; rw [Pure.inverse_P x hx.1 (by have := hx.2; omega)]
  exact ⟨Int.emod_nonneg _ (by decide), Int.emod_lt_of_pos _ (by decide)⟩
theorem inv_c {x : Int} (hx : In x) (w : World) : Calls Tryd.prog 94 #[.agg #[.int .u64 x]] w fun e w' => e = .returned (.agg #[.int .u64 (iv x)]) ∧ Below w.heap.size w w' :=
  impl_num_impl_fieldP_inverse.calls x _ w (inv_eq hx)
theorem in_rhs (x : Int) : In (Pure.rhs x) := by unfold In Pure.rhs; omega
theorem curve_c {x : Int} (hx : In x) (w : World) : Calls Tryd.prog 95 #[.agg #[.int .u64 x]] w fun e w' => e = .returned (.agg #[.int .u64 (Pure.rhs x)]) ∧ Below w.heap.size w w' :=
  impl_curveAt.calls 10 x _ w (Pure.curveAt_P x hx.1 hx.2 (by omega))

/-- what the end gives -/
def yy (u y : Int) : Int := if u % 2 = 1 then ng y else y
/-- the x that has a root, and the root there -/
def fx (z x : Int) : Int := if rk (Pure.rhs x) = true then x else tm z x
def fy (z x : Int) : Int := ry (Pure.rhs (fx z x))
def wN (u : Int) : Int := u % 2305843009213693951
def zN (u : Int) : Int := tm (tm 2305843009213693949 (wN u)) (wN u)
def tN (u : Int) : Int := ad (tm (zN u) (zN u)) (zN u)
def xN (u : Int) : Int := if tN u = 0 then tm 111 (iv (tm 2305843009213693949 2305843009213693948)) else tm (tm (ng 111) (iv 2305843009213693948)) (ad 1 (iv (tN u)))
theorem in_wN (u : Int) : In (wN u) := by unfold In wN; omega
def impl_MapToCurve.f (u : Int) : Option (Int × Int × Bool) := if 0 ≤ u ∧ u < 18446744073709551616 then some (fx (zN u) (xN u), yy (wN u) (fy (zN u) (xN u)), false) else none
set_option maxRecDepth 100000 in
set_option maxHeartbeats 8000000 in
theorem impl_MapToCurve.calls (u r1' r2' : Int) (r3' : Bool) (w : World) (h : impl_MapToCurve.f u = some (r1', r2', r3')) :
    Calls Tryd.prog 47 #[.int .u64 u] w fun e w' => e = .returned (.agg #[.int .u64 r1', .int .u64 r2', .bool r3']) ∧ Below w.heap.size w w' := by
  unfold impl_MapToCurve.f at h
  split at h
  case isFalse => cases h
  rename_i hu
  have e := Option.some.inj h
  obtain ⟨rfl, rfl, rfl⟩ : fx (zN u) (xN u) = r1' ∧ yy (wN u) (fy (zN u) (xN u)) = r2' ∧ false = r3' := by simpa using e
  clear h e
  have hn : impl_numOf_impl_fieldP.f u = some (wN u) := by
    unfold impl_numOf_impl_fieldP.f
    rw [show impl_prime_impl_fieldP.f = some 2305843009213693951 from rfl, Option.bind_some, if_neg (by decide), Int.tmod_eq_emod_of_nonneg hu.1]; rfl
  have iw := in_wN u
  have ex : xN u = if ad (tm (zN u) (zN u)) (zN u) = 0 then tm 111 (iv (tm 2305843009213693949 2305843009213693948)) else tm (tm (ng 111) (iv 2305843009213693948)) (ad 1 (iv (ad (tm (zN u) (zN u)) (zN u)))) := rfl
  have ez : zN u = tm (tm 2305843009213693949 (wN u)) (wN u) := rfl
  rw [ez] at ex ⊢
  have hm : Int.tmod (wN u) 2 = (wN u) % 2 := Int.tmod_eq_emod_of_nonneg iw.1
  generalize wN u = wv at *
  clear ez hu
  refine ve_fn (args := [.int .u64 u]) Tryd.func47 rfl Tryd.ntmps47 rfl (good (Γ := fun _ => True) (fun _ _ => trivial)) ?_
  by_cases ht : ad (tm (tm (tm 2305843009213693949 wv) wv) (tm (tm 2305843009213693949 wv) wv)) (tm (tm 2305843009213693949 wv) wv) = 0
  · rw [if_pos ht] at ex
    have b1 : (ad (tm (tm (tm 2305843009213693949 wv) wv) (tm (tm 2305843009213693949 wv) wv)) (tm (tm 2305843009213693949 wv) wv) == 0) = true := by rw [ht]; rfl
    clear ht
    rw [ex]
    clear ex
    unfold fy fx yy
    by_cases hk : rk (Pure.rhs (tm 111 (iv (tm 2305843009213693949 2305843009213693948)))) = true
    · rw [if_pos hk]
      by_cases hp : wv % 2 = 1
      · rw [if_pos hp]
        have b2 : (Int.tmod wv 2 == 1) = true := by rw [hm, hp]; rfl
        clear hm hp
        repeat' (first | refine rbt ?_ | refine rbf ?_ | refine wn ?_ | refine wq ?_ | refine wc_plain ?_ | refine wc_draw ?_ | refine rZ ?_ | refine rD ?_ | refine ve8 ?_ | refine ve4 ?_ | refine ve3 ?_ | refine ve1 ?_ | refine ve2 ?_ | refine ve5 ?_ | refine ve6 ?_ | refine ve7 ?_ | refine ve9 ?_ | refine rA ?_ | refine rE ?_ | refine rC ?_ | refine rB ?_ | refine rG ?_ | refine rH ?_ | refine rI ?_ | refine rJ ?_ | refine rcb ?_ | refine rcp (Pre := In _ ∧ In _) (fun hp_ w_ _ => times_c hp_.1 hp_.2 w_) ?_ (hpre := by refine ⟨?_, ?_⟩ <;> (first | assumption | exact in_tm _ _ | exact in_ad _ _ | exact in_ng ⟨by decide, by decide⟩ | exact in_iv (in_ad _ _) | exact in_iv (in_tm _ _) | exact in_iv ⟨by decide, by decide⟩ | exact ⟨by decide, by decide⟩)) | refine rcp (Pre := In _ ∧ In _) (fun hp_ w_ _ => plus_c hp_.1 hp_.2 w_) ?_ (hpre := by refine ⟨?_, ?_⟩ <;> (first | assumption | exact in_tm _ _ | exact in_ad _ _ | exact in_ng ⟨by decide, by decide⟩ | exact in_iv (in_ad _ _) | exact in_iv (in_tm _ _) | exact in_iv ⟨by decide, by decide⟩ | exact ⟨by decide, by decide⟩)) | refine rcp (Pre := In _) (fun hp_ w_ _ => neg_c hp_ w_) ?_ (hpre := by first | assumption | exact in_ry (in_rhs _) | exact ⟨by decide, by decide⟩) | refine rcp (Pre := In _) (fun hp_ w_ _ => inv_c hp_ w_) ?_ (hpre := by first | assumption | exact in_tm _ _ | exact in_ad _ _ | exact ⟨by decide, by decide⟩) | refine rcp (Pre := In _) (fun hp_ w_ _ => curve_c hp_ w_) ?_ (hpre := by first | assumption | exact in_tm _ _) | refine rcp (Pre := In _) (fun hp_ w_ _ => root_c hp_ w_) ?_ (hpre := by first | assumption | exact in_rhs _) | refine rcp (Pre := impl_numOf_impl_fieldP.f _ = some _) (fun hp_ w_ hΓ => impl_numOf_impl_fieldP.calls _ _ w_ hp_) ?_ | refine wsc ?_ | refine wgo ?_ | refine wlb ?_ | refine rr5 ?_ | refine rg ?_ | refine rr3 ?_ | refine rr4 ?_ | refine wb ?_ | refine wk ?_ | refine we ?_ | exact wt | refine wr ?_ | refine rr1 ?_ | refine rr2 ?_ | exact fr | exact fe | refine wTs ?_ | refine wFs ?_ | refine rof ?_ | refine rof0 ?_)
      · rw [if_neg hp]
        have b2 : (Int.tmod wv 2 == 1) = false := by rw [hm]; simpa using hp
        clear hm hp
        repeat' (first | refine rbt ?_ | refine rbf ?_ | refine wn ?_ | refine wq ?_ | refine wc_plain ?_ | refine wc_draw ?_ | refine rZ ?_ | refine rD ?_ | refine ve8 ?_ | refine ve4 ?_ | refine ve3 ?_ | refine ve1 ?_ | refine ve2 ?_ | refine ve5 ?_ | refine ve6 ?_ | refine ve7 ?_ | refine ve9 ?_ | refine rA ?_ | refine rE ?_ | refine rC ?_ | refine rB ?_ | refine rG ?_ | refine rH ?_ | refine rI ?_ | refine rJ ?_ | refine rcb ?_ | refine rcp (Pre := In _ ∧ In _) (fun hp_ w_ _ => times_c hp_.1 hp_.2 w_) ?_ (hpre := by refine ⟨?_, ?_⟩ <;> (first | assumption | exact in_tm _ _ | exact in_ad _ _ | exact in_ng ⟨by decide, by decide⟩ | exact in_iv (in_ad _ _) | exact in_iv (in_tm _ _) | exact in_iv ⟨by decide, by decide⟩ | exact ⟨by decide, by decide⟩)) | refine rcp (Pre := In _ ∧ In _) (fun hp_ w_ _ => plus_c hp_.1 hp_.2 w_) ?_ (hpre := by refine ⟨?_, ?_⟩ <;> (first | assumption | exact in_tm _ _ | exact in_ad _ _ | exact in_ng ⟨by decide, by decide⟩ | exact in_iv (in_ad _ _) | exact in_iv (in_tm _ _) | exact in_iv ⟨by decide, by decide⟩ | exact ⟨by decide, by decide⟩)) | refine rcp (Pre := In _) (fun hp_ w_ _ => neg_c hp_ w_) ?_ (hpre := by first | assumption | exact in_ry (in_rhs _) | exact ⟨by decide, by decide⟩) | refine rcp (Pre := In _) (fun hp_ w_ _ => inv_c hp_ w_) ?_ (hpre := by first | assumption | exact in_tm _ _ | exact in_ad _ _ | exact ⟨by decide, by decide⟩) | refine rcp (Pre := In _) (fun hp_ w_ _ => curve_c hp_ w_) ?_ (hpre := by first | assumption | exact in_tm _ _) | refine rcp (Pre := In _) (fun hp_ w_ _ => root_c hp_ w_) ?_ (hpre := by first | assumption | exact in_rhs _) | refine rcp (Pre := impl_numOf_impl_fieldP.f _ = some _) (fun hp_ w_ hΓ => impl_numOf_impl_fieldP.calls _ _ w_ hp_) ?_ | refine wsc ?_ | refine wgo ?_ | refine wlb ?_ | refine rr5 ?_ | refine rg ?_ | refine rr3 ?_ | refine rr4 ?_ | refine wb ?_ | refine wk ?_ | refine we ?_ | exact wt | refine wr ?_ | refine rr1 ?_ | refine rr2 ?_ | exact fr | exact fe | refine wTs ?_ | refine wFs ?_ | refine rof ?_ | refine rof0 ?_)
    · exact absurd (by decide +kernel) hk
  · rw [if_neg ht] at ex
    have b1 : (ad (tm (tm (tm 2305843009213693949 wv) wv) (tm (tm 2305843009213693949 wv) wv)) (tm (tm 2305843009213693949 wv) wv) == 0) = false := by simpa using ht
    clear ht
    rw [ex]
    clear ex
    unfold fy fx yy
    by_cases hk : rk (Pure.rhs (tm (tm (ng 111) (iv 2305843009213693948)) (ad 1 (iv (ad (tm (tm (tm 2305843009213693949 wv) wv) (tm (tm 2305843009213693949 wv) wv)) (tm (tm 2305843009213693949 wv) wv)))))) = true
    · rw [if_pos hk]
      by_cases hp : wv % 2 = 1
      · rw [if_pos hp]
        have b2 : (Int.tmod wv 2 == 1) = true := by rw [hm, hp]; rfl
        clear hm hp
        repeat' (first | refine rbt ?_ | refine rbf ?_ | refine wn ?_ | refine wq ?_ | refine wc_plain ?_ | refine wc_draw ?_ | refine rZ ?_ | refine rD ?_ | refine ve8 ?_ | refine ve4 ?_ | refine ve3 ?_ | refine ve1 ?_ | refine ve2 ?_ | refine ve5 ?_ | refine ve6 ?_ | refine ve7 ?_ | refine ve9 ?_ | refine rA ?_ | refine rE ?_ | refine rC ?_ | refine rB ?_ | refine rG ?_ | refine rH ?_ | refine rI ?_ | refine rJ ?_ | refine rcb ?_ | refine rcp (Pre := In _ ∧ In _) (fun hp_ w_ _ => times_c hp_.1 hp_.2 w_) ?_ (hpre := by refine ⟨?_, ?_⟩ <;> (first | assumption | exact in_tm _ _ | exact in_ad _ _ | exact in_ng ⟨by decide, by decide⟩ | exact in_iv (in_ad _ _) | exact in_iv (in_tm _ _) | exact in_iv ⟨by decide, by decide⟩ | exact ⟨by decide, by decide⟩)) | refine rcp (Pre := In _ ∧ In _) (fun hp_ w_ _ => plus_c hp_.1 hp_.2 w_) ?_ (hpre := by refine ⟨?_, ?_⟩ <;> (first | assumption | exact in_tm _ _ | exact in_ad _ _ | exact in_ng ⟨by decide, by decide⟩ | exact in_iv (in_ad _ _) | exact in_iv (in_tm _ _) | exact in_iv ⟨by decide, by decide⟩ | exact ⟨by decide, by decide⟩)) | refine rcp (Pre := In _) (fun hp_ w_ _ => neg_c hp_ w_) ?_ (hpre := by first | assumption | exact in_ry (in_rhs _) | exact ⟨by decide, by decide⟩) | refine rcp (Pre := In _) (fun hp_ w_ _ => inv_c hp_ w_) ?_ (hpre := by first | assumption | exact in_tm _ _ | exact in_ad _ _ | exact ⟨by decide, by decide⟩) | refine rcp (Pre := In _) (fun hp_ w_ _ => curve_c hp_ w_) ?_ (hpre := by first | assumption | exact in_tm _ _) | refine rcp (Pre := In _) (fun hp_ w_ _ => root_c hp_ w_) ?_ (hpre := by first | assumption | exact in_rhs _) | refine rcp (Pre := impl_numOf_impl_fieldP.f _ = some _) (fun hp_ w_ hΓ => impl_numOf_impl_fieldP.calls _ _ w_ hp_) ?_ | refine wsc ?_ | refine wgo ?_ | refine wlb ?_ | refine rr5 ?_ | refine rg ?_ | refine rr3 ?_ | refine rr4 ?_ | refine wb ?_ | refine wk ?_ | refine we ?_ | exact wt | refine wr ?_ | refine rr1 ?_ | refine rr2 ?_ | exact fr | exact fe | refine wTs ?_ | refine wFs ?_ | refine rof ?_ | refine rof0 ?_)
      · rw [if_neg hp]
        have b2 : (Int.tmod wv 2 == 1) = false := by rw [hm]; simpa using hp
        clear hm hp
        repeat' (first | refine rbt ?_ | refine rbf ?_ | refine wn ?_ | refine wq ?_ | refine wc_plain ?_ | refine wc_draw ?_ | refine rZ ?_ | refine rD ?_ | refine ve8 ?_ | refine ve4 ?_ | refine ve3 ?_ | refine ve1 ?_ | refine ve2 ?_ | refine ve5 ?_ | refine ve6 ?_ | refine ve7 ?_ | refine ve9 ?_ | refine rA ?_ | refine rE ?_ | refine rC ?_ | refine rB ?_ | refine rG ?_ | refine rH ?_ | refine rI ?_ | refine rJ ?_ | refine rcb ?_ | refine rcp (Pre := In _ ∧ In _) (fun hp_ w_ _ => times_c hp_.1 hp_.2 w_) ?_ (hpre := by refine ⟨?_, ?_⟩ <;> (first | assumption | exact in_tm _ _ | exact in_ad _ _ | exact in_ng ⟨by decide, by decide⟩ | exact in_iv (in_ad _ _) | exact in_iv (in_tm _ _) | exact in_iv ⟨by decide, by decide⟩ | exact ⟨by decide, by decide⟩)) | refine rcp (Pre := In _ ∧ In _) (fun hp_ w_ _ => plus_c hp_.1 hp_.2 w_) ?_ (hpre := by refine ⟨?_, ?_⟩ <;> (first | assumption | exact in_tm _ _ | exact in_ad _ _ | exact in_ng ⟨by decide, by decide⟩ | exact in_iv (in_ad _ _) | exact in_iv (in_tm _ _) | exact in_iv ⟨by decide, by decide⟩ | exact ⟨by decide, by decide⟩)) | refine rcp (Pre := In _) (fun hp_ w_ _ => neg_c hp_ w_) ?_ (hpre := by first | assumption | exact in_ry (in_rhs _) | exact ⟨by decide, by decide⟩) | refine rcp (Pre := In _) (fun hp_ w_ _ => inv_c hp_ w_) ?_ (hpre := by first | assumption | exact in_tm _ _ | exact in_ad _ _ | exact ⟨by decide, by decide⟩) | refine rcp (Pre := In _) (fun hp_ w_ _ => curve_c hp_ w_) ?_ (hpre := by first | assumption | exact in_tm _ _) | refine rcp (Pre := In _) (fun hp_ w_ _ => root_c hp_ w_) ?_ (hpre := by first | assumption | exact in_rhs _) | refine rcp (Pre := impl_numOf_impl_fieldP.f _ = some _) (fun hp_ w_ hΓ => impl_numOf_impl_fieldP.calls _ _ w_ hp_) ?_ | refine wsc ?_ | refine wgo ?_ | refine wlb ?_ | refine rr5 ?_ | refine rg ?_ | refine rr3 ?_ | refine rr4 ?_ | refine wb ?_ | refine wk ?_ | refine we ?_ | exact wt | refine wr ?_ | refine rr1 ?_ | refine rr2 ?_ | exact fr | exact fe | refine wTs ?_ | refine wFs ?_ | refine rof ?_ | refine rof0 ?_)
    · have hk' : rk (Pure.rhs (tm (tm (ng 111) (iv 2305843009213693948)) (ad 1 (iv (ad (tm (tm (tm 2305843009213693949 wv) wv) (tm (tm 2305843009213693949 wv) wv)) (tm (tm 2305843009213693949 wv) wv)))))) = false := by simpa using hk
      rw [if_neg hk]
      clear hk
      by_cases hp : wv % 2 = 1
      · rw [if_pos hp]
        have b2 : (Int.tmod wv 2 == 1) = true := by rw [hm, hp]; rfl
        clear hm hp
        repeat' (first | refine rbt ?_ | refine rbf ?_ | refine wn ?_ | refine wq ?_ | refine wc_plain ?_ | refine wc_draw ?_ | refine rZ ?_ | refine rD ?_ | refine ve8 ?_ | refine ve4 ?_ | refine ve3 ?_ | refine ve1 ?_ | refine ve2 ?_ | refine ve5 ?_ | refine ve6 ?_ | refine ve7 ?_ | refine ve9 ?_ | refine rA ?_ | refine rE ?_ | refine rC ?_ | refine rB ?_ | refine rG ?_ | refine rH ?_ | refine rI ?_ | refine rJ ?_ | refine rcb ?_ | refine rcp (Pre := In _ ∧ In _) (fun hp_ w_ _ => times_c hp_.1 hp_.2 w_) ?_ (hpre := by refine ⟨?_, ?_⟩ <;> (first | assumption | exact in_tm _ _ | exact in_ad _ _ | exact in_ng ⟨by decide, by decide⟩ | exact in_iv (in_ad _ _) | exact in_iv (in_tm _ _) | exact in_iv ⟨by decide, by decide⟩ | exact ⟨by decide, by decide⟩)) | refine rcp (Pre := In _ ∧ In _) (fun hp_ w_ _ => plus_c hp_.1 hp_.2 w_) ?_ (hpre := by refine ⟨?_, ?_⟩ <;> (first | assumption | exact in_tm _ _ | exact in_ad _ _ | exact in_ng ⟨by decide, by decide⟩ | exact in_iv (in_ad _ _) | exact in_iv (in_tm _ _) | exact in_iv ⟨by decide, by decide⟩ | exact ⟨by decide, by decide⟩)) | refine rcp (Pre := In _) (fun hp_ w_ _ => neg_c hp_ w_) ?_ (hpre := by first | assumption | exact in_ry (in_rhs _) | exact ⟨by decide, by decide⟩) | refine rcp (Pre := In _) (fun hp_ w_ _ => inv_c hp_ w_) ?_ (hpre := by first | assumption | exact in_tm _ _ | exact in_ad _ _ | exact ⟨by decide, by decide⟩) | refine rcp (Pre := In _) (fun hp_ w_ _ => curve_c hp_ w_) ?_ (hpre := by first | assumption | exact in_tm _ _) | refine rcp (Pre := In _) (fun hp_ w_ _ => root_c hp_ w_) ?_ (hpre := by first | assumption | exact in_rhs _) | refine rcp (Pre := impl_numOf_impl_fieldP.f _ = some _) (fun hp_ w_ hΓ => impl_numOf_impl_fieldP.calls _ _ w_ hp_) ?_ | refine wsc ?_ | refine wgo ?_ | refine wlb ?_ | refine rr5 ?_ | refine rg ?_ | refine rr3 ?_ | refine rr4 ?_ | refine wb ?_ | refine wk ?_ | refine we ?_ | exact wt | refine wr ?_ | refine rr1 ?_ | refine rr2 ?_ | exact fr | exact fe | refine wTs ?_ | refine wFs ?_ | refine rof ?_ | refine rof0 ?_)
      · rw [if_neg hp]
        have b2 : (Int.tmod wv 2 == 1) = false := by rw [hm]; simpa using hp
        clear hm hp
        repeat' (first | refine rbt ?_ | refine rbf ?_ | refine wn ?_ | refine wq ?_ | refine wc_plain ?_ | refine wc_draw ?_ | refine rZ ?_ | refine rD ?_ | refine ve8 ?_ | refine ve4 ?_ | refine ve3 ?_ | refine ve1 ?_ | refine ve2 ?_ | refine ve5 ?_ | refine ve6 ?_ | refine ve7 ?_ | refine ve9 ?_ | refine rA ?_ | refine rE ?_ | refine rC ?_ | refine rB ?_ | refine rG ?_ | refine rH ?_ | refine rI ?_ | refine rJ ?_ | refine rcb ?_ | refine rcp (Pre := In _ ∧ In _) (fun hp_ w_ _ => times_c hp_.1 hp_.2 w_) ?_ (hpre := by refine ⟨?_, ?_⟩ <;> (first | assumption | exact in_tm _ _ | exact in_ad _ _ | exact in_ng ⟨by decide, by decide⟩ | exact in_iv (in_ad _ _) | exact in_iv (in_tm _ _) | exact in_iv ⟨by decide, by decide⟩ | exact ⟨by decide, by decide⟩)) | refine rcp (Pre := In _ ∧ In _) (fun hp_ w_ _ => plus_c hp_.1 hp_.2 w_) ?_ (hpre := by refine ⟨?_, ?_⟩ <;> (first | assumption | exact in_tm _ _ | exact in_ad _ _ | exact in_ng ⟨by decide, by decide⟩ | exact in_iv (in_ad _ _) | exact in_iv (in_tm _ _) | exact in_iv ⟨by decide, by decide⟩ | exact ⟨by decide, by decide⟩)) | refine rcp (Pre := In _) (fun hp_ w_ _ => neg_c hp_ w_) ?_ (hpre := by first | assumption | exact in_ry (in_rhs _) | exact ⟨by decide, by decide⟩) | refine rcp (Pre := In _) (fun hp_ w_ _ => inv_c hp_ w_) ?_ (hpre := by first | assumption | exact in_tm _ _ | exact in_ad _ _ | exact ⟨by decide, by decide⟩) | refine rcp (Pre := In _) (fun hp_ w_ _ => curve_c hp_ w_) ?_ (hpre := by first | assumption | exact in_tm _ _) | refine rcp (Pre := In _) (fun hp_ w_ _ => root_c hp_ w_) ?_ (hpre := by first | assumption | exact in_rhs _) | refine rcp (Pre := impl_numOf_impl_fieldP.f _ = some _) (fun hp_ w_ hΓ => impl_numOf_impl_fieldP.calls _ _ w_ hp_) ?_ | refine wsc ?_ | refine wgo ?_ | refine wlb ?_ | refine rr5 ?_ | refine rg ?_ | refine rr3 ?_ | refine rr4 ?_ | refine wb ?_ | refine wk ?_ | refine we ?_ | exact wt | refine wr ?_ | refine rr1 ?_ | refine rr2 ?_ | exact fr | exact fe | refine wTs ?_ | refine wFs ?_ | refine rof ?_ | refine rof0 ?_)
end Go.Proofs.YtoejhekppfgmpaaDoor.MC
end
section
namespace Go.Proofs.YtoejhekppfgmpaaDoor.Mp
open Go Go.RowKit Go.Proofs.YtoejhekppfgmpaaDoor.B Go.Proofs.YtoejhekppfgmpaaDoor.C Go.Proofs.YtoejhekppfgmpaaDoor.H0 Go.Proofs.YtoejhekppfgmpaaDoor.H1 Go.Proofs.YtoejhekppfgmpaaDoor.H2 Go.Proofs.YtoejhekppfgmpaaDoor.H3 Go.Proofs.YtoejhekppfgmpaaDoor.C2 Go.Proofs.YtoejhekppfgmpaaDoor.MC Go.Proofs.YtoejhekppfgmpaaDoorW.PrintWords Go.Proofs.YtoejhekppfgmpaaDoorW.PrintLast Go.Proofs.YtoejhekppfgmpaaDoorW.PrintMore Go.Proofs.YtoejhekppfgmpaaDoor.F
open EC Fp Grp Vi Go.Proofs.YtoejhekppfgmpaaDoor.Pure Go.Proofs.YtoejhekppfgmpaaDoor.V2
set_option linter.unusedVariables false
set_option linter.unusedSimpArgs false
theorem vi_in (a : Fp) : In (vi a) := vi_range a
theorem ng_vi (a : Fp) : ng (vi a) = vi (-a) := vi_neg a
theorem iv_vi (a : Fp) : iv (vi a) = vi (inv a) := by
  unfold iv
  rw [inverse_P _ (vi_range a).1 (by have := (vi_range a).2; omega), vi_inv a 2305843009213693949 rfl]; rfl
theorem rq_vi (a : Fp) : rq (vi a) = vi (Swu.rt a) := by rw [rq_eq (vi_in a)]; exact vi_rt a _ rfl
theorem rk_vi (a : Fp) : rk (vi a) = decide (Swu.rt a * Swu.rt a = a) := by
  unfold rk
  rw [rq_vi, tm_vi]
  by_cases h : Swu.rt a * Swu.rt a = a
  · rw [h]; simp
  · rw [decide_eq_false h]; exact beq_eq_false_iff_ne.2 (fun e => h (vi_inj e))
theorem sqrt_vi (a : Fp) {k : Nat} (hk : 131 ≤ k) : spec_Sqrt.f k (vi a) = some (if rk (vi a) = true then (ry (vi a), true) else (0, false)) := by
  have hr := vi_range a
  rw [sqrt_spec _ hr.1 (by omega) hk, if_neg (by omega)]
  have e : vi a ^ 576460752303423488 % 2305843009213693951 = rq (vi a) := (rq_eq (vi_in a)).symm
  rw [e]
  unfold rk ry
  by_cases h : rq (vi a) * rq (vi a) % 2305843009213693951 = vi a
  · rw [if_pos h, if_pos (show (tm (rq (vi a)) (rq (vi a)) == vi a) = true from beq_iff_eq.2 h)]
  · rw [if_neg h, if_neg (show ¬ (tm (rq (vi a)) (rq (vi a)) == vi a) = true from fun e => h (beq_iff_eq.1 e))]
theorem invmod_vi (a : Fp) {k : Nat} (hk : 131 ≤ k) : spec_InvMod.f k (vi a) 2305843009213693951 = some (vi (inv a)) := by
  unfold spec_InvMod.f
  rw [if_neg (by decide), show IntKind.u64.wrap (2305843009213693951 - 2) = 2305843009213693949 by decide, spec_powmod _ _ _ (vi_range a).1 (by decide) (by decide) (by decide) (by decide) hk]
  rw [Option.bind_some, if_neg (by decide), vi_inv a (2305843009213693949 : Int).toNat (by decide)]
theorem times_vi (a b : Fp) : spec_l2Times.f (vi a) (vi b) = some (vi (a * b)) := by
  rw [l2Times (vi_range a).1 (vi_range a).2 (vi_range b).1 (vi_range b).2, vi_mul]
theorem add_vi (a b : Fp) : spec_l2Add.f (vi a) (vi b) 2305843009213693951 = some (vi (a + b)) := by
  rw [l2Add (vi_range a).1 (vi_range a).2 (vi_range b).1 (vi_range b).2 (by decide), vi_add]
theorem right_vi (a : Fp) : spec_l3Right.f (vi a) = some (vi (Swu.g a)) := by rw [right_P _ (vi_range a).1 (vi_range a).2, rhs_vi]

theorem neg_mod {y : Int} (h : In y) : Int.tmod (IntKind.u64.wrap (2305843009213693951 - y)) 2305843009213693951 = ng y := by
  have h0 := h.1; have h1 := h.2
  rw [wu (by omega) (by omega), Int.tmod_eq_emod_of_nonneg (by omega)]
  unfold ng; split <;> omega

theorem map_j0 (u : Int) (hu : In u) (z x : Fp) (hok : rk (vi (Swu.g x)) = false → rk (vi (Swu.g (z * x))) = true) {k : Nat} (hk : 132 ≤ k) :
    spec_MapToCurve.j0 k u (vi z) (vi x) = some (fx (vi z) (vi x), yy u (fy (vi z) (vi x)), false) := by
  obtain ⟨k, rfl⟩ : ∃ j, k = j + 1 := ⟨k - 1, by omega⟩
  rw [spec_MapToCurve.j0, right_vi, Option.bind_some, sqrt_vi _ (by omega), Option.bind_some]
  rw [Int.tmod_eq_emod_of_nonneg hu.1]
  by_cases h : rk (vi (Swu.g x)) = true
  · have ex : fx (vi z) (vi x) = vi x := by unfold fx; rw [rhs_vi, if_pos h]
    have ey : fy (vi z) (vi x) = ry (vi (Swu.g x)) := by unfold fy; rw [ex, rhs_vi]
    rw [if_pos h, if_pos rfl, ex, ey]
    have hy : In (ry (vi (Swu.g x))) := in_ry (vi_in _)
    unfold yy
    by_cases hp : u % 2 = 1
    · rw [if_pos hp, if_pos hp, neg_mod hy]
    · rw [if_neg hp, if_neg hp]
  · have h2 : rk (vi (Swu.g x)) = false := by simpa using h
    have ex : fx (vi z) (vi x) = vi (z * x) := by unfold fx; rw [rhs_vi, if_neg h, tm_vi]
    have ey : fy (vi z) (vi x) = ry (vi (Swu.g (z * x))) := by unfold fy; rw [ex, rhs_vi]
    rw [if_neg h, if_neg (by decide), ex, ey, times_vi, Option.bind_some, right_vi, Option.bind_some, sqrt_vi _ (by omega), Option.bind_some, if_pos (hok h2)]
    have hy : In (ry (vi (Swu.g (z * x)))) := in_ry (vi_in _)
    unfold yy
    by_cases hp : u % 2 = 1
    · rw [if_pos hp, if_pos hp, neg_mod hy]
    · rw [if_neg hp, if_neg hp]

theorem map_same (u : Int) (h0 : 0 ≤ u) (h1 : u < 18446744073709551616) {k : Nat} (hk : 132 ≤ k) : spec_MapToCurve.f k u = impl_MapToCurve.f u := by
  unfold spec_MapToCurve.f impl_MapToCurve.f
  rw [if_pos ⟨h0, h1⟩, Int.tmod_eq_emod_of_nonneg h0]
  have hw := in_wN u
  obtain ⟨a, ea⟩ := vi_of hw.1 hw.2
  have ez : zN u = vi (-2 * (a * a)) := by
    unfold zN; rw [ea, show (2305843009213693949 : Int) = vi (-2) from rfl, tm_vi, tm_vi, show (-2 : Fp) * a * a = -2 * (a * a) by grobner]
  have et : tN u = vi (-2 * (a * a) * (-2 * (a * a)) + -2 * (a * a)) := by unfold tN; rw [ez, tm_vi, ad_vi]
  rw [show u % 2305843009213693951 = vi a from ea]
  rw [times_vi, Option.bind_some, show (2305843009213693949 : Int) = vi (-2) from rfl, times_vi, Option.bind_some, times_vi, Option.bind_some, add_vi, Option.bind_some]
  rw [show (2305843009213693948 : Int) = vi (-3) from rfl, times_vi, Option.bind_some, invmod_vi _ (by omega), Option.bind_some, show (111 : Int) = vi 111 from rfl, times_vi, Option.bind_some]
  rw [show wN u = vi a from ea]
  by_cases h : -2 * (a * a) * (-2 * (a * a)) + -2 * (a * a) = 0
  · rw [if_pos (vi_zero.2 h)]
    have ex : xN u = vi (111 * inv (-2 * -3)) := by
      unfold xN; rw [if_pos (by rw [et]; exact vi_zero.2 h)]
      rw [show (2305843009213693949 : Int) = vi (-2) from rfl, show (2305843009213693948 : Int) = vi (-3) from rfl, show (111 : Int) = vi 111 from rfl, tm_vi, iv_vi, tm_vi]
    rw [map_j0 (vi a) (vi_in a) _ _ (fun hn => ?_) hk, ez, ex]
    rw [rk_vi, decide_eq_true Swu.zero_ok] at hn; exact absurd hn (by decide)
  · rw [if_neg (fun e => h (vi_zero.1 e))]
    have ex : xN u = vi (-111 * inv (-3) * (1 + inv (-2 * (a * a) * (-2 * (a * a)) + -2 * (a * a)))) := by
      unfold xN; rw [if_neg (by rw [et]; exact fun e => h (vi_zero.1 e))]
      rw [et, show ng 111 = vi (-111) from rfl, show (2305843009213693948 : Int) = vi (-3) from rfl, iv_vi, iv_vi, tm_vi, show (1 : Int) = vi 1 from rfl, ad_vi, tm_vi]
    rw [invmod_vi _ (by omega), Option.bind_some, show (2305843009213693840 : Int) = vi (-111) from rfl, times_vi, Option.bind_some, invmod_vi _ (by omega), Option.bind_some, show (1 : Int) = vi 1 from rfl, add_vi, Option.bind_some, times_vi, Option.bind_some]
    rw [map_j0 (vi a) (vi_in a) _ _ (fun hn => ?_) hk, ez, ex]
    rw [rk_vi] at hn ⊢
    exact decide_eq_true (Swu.two_ok rfl rfl h rfl (of_decide_eq_false hn))

/-- what the map gives is a point of the curve; its y is the even root, or the other one -/
theorem map_pt (u : Int) (h0 : 0 ≤ u) (h1 : u < 18446744073709551616) : ∃ X Y : Fp, Cv (.aff X Y) ∧ Y * Y = Swu.g X ∧ fx (zN u) (xN u) = vi X ∧ fy (zN u) (xN u) = vi Y ∧ impl_MapToCurve.f u = some (vi X, yy (wN u) (vi Y), false) := by
  have hw := in_wN u
  obtain ⟨a, ea⟩ := vi_of hw.1 hw.2
  have ez : zN u = vi (-2 * (a * a)) := by
    unfold zN; rw [ea, show (2305843009213693949 : Int) = vi (-2) from rfl, tm_vi, tm_vi, show (-2 : Fp) * a * a = -2 * (a * a) by grobner]
  have et : tN u = vi (-2 * (a * a) * (-2 * (a * a)) + -2 * (a * a)) := by unfold tN; rw [ez, tm_vi, ad_vi]
  have key : ∀ x z : Fp, xN u = vi x → zN u = vi z → (rk (vi (Swu.g x)) = false → rk (vi (Swu.g (z * x))) = true) → ∃ X Y : Fp, Cv (.aff X Y) ∧ Y * Y = Swu.g X ∧ fx (zN u) (xN u) = vi X ∧ fy (zN u) (xN u) = vi Y := by
    intro x z hx hz hok
    obtain ⟨X, eX, hk⟩ : ∃ X : Fp, fx (zN u) (xN u) = vi X ∧ rk (vi (Swu.g X)) = true := by
      unfold fx
      rw [hx, hz, rhs_vi]
      by_cases h : rk (vi (Swu.g x)) = true
      · exact ⟨x, if_pos h, h⟩
      · exact ⟨z * x, by rw [if_neg h, tm_vi], hok (by simpa using h)⟩
    rw [rk_vi, decide_eq_true_eq] at hk
    have ey : fy (zN u) (xN u) = even (vi (Swu.rt (Swu.g X))) := by
      unfold fy ry
      rw [eX, rhs_vi, rq_vi]
    have hr := vi_range (Swu.rt (Swu.g X))
    by_cases hp : vi (Swu.rt (Swu.g X)) % 2 = 1
    · have e1 : even (vi (Swu.rt (Swu.g X))) = vi (-(Swu.rt (Swu.g X))) := by
        unfold even
        rw [if_pos hp, ← vi_neg, if_neg (by omega)]
      have hs : (-(Swu.rt (Swu.g X))) * (-(Swu.rt (Swu.g X))) = Swu.g X := by
        rw [show (-(Swu.rt (Swu.g X))) * (-(Swu.rt (Swu.g X))) = Swu.rt (Swu.g X) * Swu.rt (Swu.g X) by grobner, hk]
      exact ⟨X, -(Swu.rt (Swu.g X)), hs, hs, eX, by rw [ey, e1]⟩
    · have e1 : even (vi (Swu.rt (Swu.g X))) = vi (Swu.rt (Swu.g X)) := by unfold even; rw [if_neg hp]
      exact ⟨X, Swu.rt (Swu.g X), hk, hk, eX, by rw [ey, e1]⟩
  obtain ⟨X, Y, c1, c2, c3, c4⟩ : ∃ X Y : Fp, Cv (.aff X Y) ∧ Y * Y = Swu.g X ∧ fx (zN u) (xN u) = vi X ∧ fy (zN u) (xN u) = vi Y := by
    by_cases h : -2 * (a * a) * (-2 * (a * a)) + -2 * (a * a) = 0
    · have ex : xN u = vi (111 * inv (-2 * -3)) := by
        unfold xN; rw [if_pos (by rw [et]; exact vi_zero.2 h)]
        rw [show (2305843009213693949 : Int) = vi (-2) from rfl, show (2305843009213693948 : Int) = vi (-3) from rfl, show (111 : Int) = vi 111 from rfl, tm_vi, iv_vi, tm_vi]
      refine key _ _ ex ez (fun hn => ?_)
      rw [rk_vi, decide_eq_true Swu.zero_ok] at hn; exact absurd hn (by decide)
    · have ex : xN u = vi (-111 * inv (-3) * (1 + inv (-2 * (a * a) * (-2 * (a * a)) + -2 * (a * a)))) := by
        unfold xN; rw [if_neg (by rw [et]; exact fun e => h (vi_zero.1 e))]
        rw [et, show ng 111 = vi (-111) from rfl, show (2305843009213693948 : Int) = vi (-3) from rfl, iv_vi, iv_vi, tm_vi, show (1 : Int) = vi 1 from rfl, ad_vi, tm_vi]
      refine key _ _ ex ez (fun hn => ?_)
      rw [rk_vi] at hn ⊢
      exact decide_eq_true (Swu.two_ok rfl rfl h rfl (of_decide_eq_false hn))
  refine ⟨X, Y, c1, c2, c3, c4, ?_⟩
  unfold impl_MapToCurve.f
  rw [if_pos ⟨h0, h1⟩, c3, c4]
theorem map_enc (u : Int) (h0 : 0 ≤ u) (h1 : u < 18446744073709551616) : ∃ p : Pt, Cv p ∧ p ≠ .zero ∧ impl_MapToCurve.f u = some (enc p) := by
  obtain ⟨X, Y, c1, c2, c3, c4, c5⟩ := map_pt u h0 h1
  by_cases hp : wN u % 2 = 1
  · refine ⟨.aff X (-Y), ?_, by simp, ?_⟩
    · show (-Y) * (-Y) = _
      rw [show (-Y) * (-Y) = Y * Y by grobner]; exact c1
    · rw [c5]; unfold yy; rw [if_pos hp, ng_vi]; rfl
  · refine ⟨.aff X Y, c1, by simp, ?_⟩
    rw [c5]; unfold yy; rw [if_neg hp]; rfl
end Go.Proofs.YtoejhekppfgmpaaDoor.Mp
end
