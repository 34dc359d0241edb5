/- What the proof of FnGroup leans on, part 24: cut out of the texts of this claim's making by a program (wip/tools/pack.py). -/
import Derived.Test.YtoejhekppfgmpaaDoorKGroup0
import Derived.Test.YtoejhekppfgmpaaDoorKGroup6
import Derived.Test.YtoejhekppfgmpaaDoorKGroup10
import Derived.Test.YtoejhekppfgmpaaDoorKGroup11
import Derived.Test.YtoejhekppfgmpaaDoorKGroup12
import Derived.Test.YtoejhekppfgmpaaDoorKGroup13
import Derived.Test.YtoejhekppfgmpaaDoorKGroup21
import Derived.Test.YtoejhekppfgmpaaDoorKGroup23
import Derived.KernelRfl
section
namespace Go.Proofs.YtoejhekppfgmpaaDoor.C2
open Go Go.RowKit Go.Proofs.YtoejhekppfgmpaaDoorW.PrintWords Go.Proofs.YtoejhekppfgmpaaDoorW.PrintLast Go.Proofs.YtoejhekppfgmpaaDoorW.PrintMore Go.Proofs.YtoejhekppfgmpaaDoor.H0 Go.Proofs.YtoejhekppfgmpaaDoor.H1 Go.Proofs.YtoejhekppfgmpaaDoor.H2 Go.Proofs.YtoejhekppfgmpaaDoor.H3 Go.Proofs.YtoejhekppfgmpaaDoor.B
set_option linter.unusedVariables false
set_option linter.unusedSimpArgs false
def tm (x y : Int) : Int := x * y % 2305843009213693951
def ad (x y : Int) : Int := (x + y) % 2305843009213693951
def mi (x y : Int) : Int := (x - y) % 2305843009213693951
def In (x : Int) : Prop := 0 ≤ x ∧ x < 2305843009213693951
theorem in_tm (x y : Int) : In (tm x y) := by unfold In tm; omega
theorem in_ad (x y : Int) : In (ad x y) := by unfold In ad; omega
theorem in_mi (x y : Int) : In (mi x y) := by unfold In mi; omega

theorem times_c {x y : Int} (hx : In x) (hy : In y) (w : World) :
    Calls Tryd.prog 92 #[.agg #[.int .u64 x], .agg #[.int .u64 y]] w fun e w' => e = .returned (.agg #[.int .u64 (tm x y)]) ∧ Below w.heap.size w w' :=
  impl_num_impl_fieldP_times.calls 10 x y _ w (Pure.prod_P x y hx.1 (by have := hx.2; omega) hy.1 (by have := hy.2; omega) (by omega))
theorem plus_c {x y : Int} (hx : In x) (hy : In y) (w : World) :
    Calls Tryd.prog 93 #[.agg #[.int .u64 x], .agg #[.int .u64 y]] w fun e w' => e = .returned (.agg #[.int .u64 (ad x y)]) ∧ Below w.heap.size w w' :=
  impl_num_impl_fieldP_plus.calls x y _ w (Pure.plus_P x y hx.1 hx.2 hy.1 hy.2)
theorem minus_c {x y : Int} (hx : In x) (hy : In y) (w : World) :
    Calls Tryd.prog 107 #[.agg #[.int .u64 x], .agg #[.int .u64 y]] w fun e w' => e = .returned (.agg #[.int .u64 (mi x y)]) ∧ Below w.heap.size w w' :=
  impl_num_impl_fieldP_minus.calls x y _ w (Pure.minus_P x y hx.1 hx.2 hy.1 hy.2)

theorem lt_of_heap {w : World} {g : Nat} {o : Obj} (h : w.heap[g]? = some o) : g < w.heap.size := (Array.getElem?_eq_some_iff.1 h).1
theorem store_sp.grown_trans {W W1 W2 : World} {row : Option Nat} (h : W.grownBy W1 row) (k : W1.grownBy W2 row) : W.grownBy W2 row :=
  ⟨k.os.trans h.os, k.tape.trans h.tape, k.output.trans h.output, Nat.le_trans h.size k.size, fun j hj hn => (k.block j (Nat.lt_of_lt_of_le hj h.size) hn).trans (h.block j hj hn)⟩
end Go.Proofs.YtoejhekppfgmpaaDoor.C2
end
section
namespace Go.Proofs.YtoejhekppfgmpaaDoor.CD
open Go Go.RowKit Go.Proofs.YtoejhekppfgmpaaDoor.C2 Go.Proofs.YtoejhekppfgmpaaDoor.Ve Go.Proofs.YtoejhekppfgmpaaDoor.VeT Go.Proofs.YtoejhekppfgmpaaDoor.VeE
set_option linter.unusedVariables false
set_option linter.unusedSimpArgs false
def dblN (X Y Z : Int) : Int × Int × Int :=
  let yy := tm Y Y
  let zz := tm Z Z
  let v := tm (tm 4 X) yy
  let m := tm 3 (mi (tm X X) (tm zz zz))
  let x3 := mi (mi (tm m m) v) v
  (x3, mi (tm m (mi v x3)) (tm (tm 8 yy) yy), ad (tm Y Z) (tm Y Z))
def impl_spatial_double.f (X Y Z : Int) : Option (Int × Int × Int) := if 0 ≤ X ∧ X < 2305843009213693951 ∧ 0 ≤ Y ∧ Y < 2305843009213693951 ∧ 0 ≤ Z ∧ Z < 2305843009213693951 then some (if Y = 0 ∨ Z = 0 then (1, 1, 0) else dblN X Y Z) else none
set_option maxRecDepth 100000 in
set_option maxHeartbeats 4000000 in
theorem impl_spatial_double.calls (X Y Z q1 q2 q3 : Int) (w : World) (h : impl_spatial_double.f X Y Z = some (q1, q2, q3)) : Calls Tryd.prog 108 #[.agg #[.int .u64 X, .int .u64 Y, .int .u64 Z]] w fun e w' => e = .returned (.agg #[.int .u64 (q1), .int .u64 (q2), .int .u64 (q3)]) ∧ Below w.heap.size w w' := by
  unfold impl_spatial_double.f at h
  split at h
  case isFalse => cases h
  rename_i hh
  obtain ⟨a1, a2, b1, b2, c1, c2⟩ := hh
  have hX : In X := ⟨a1, a2⟩
  have hY : In Y := ⟨b1, b2⟩
  have hZ : In Z := ⟨c1, c2⟩
  clear a1 a2 b1 b2 c1 c2
  replace h := Option.some.inj h
  refine ve_fn (args := [.agg #[.int .u64 X, .int .u64 Y, .int .u64 Z]]) Tryd.func108 rfl Tryd.ntmps108 rfl (good (Γ := fun _ => True) (fun _ _ => trivial)) ?_
  by_cases hy : Y = 0
  · rw [if_pos (.inl hy)] at h
    obtain ⟨rfl, rfl, rfl⟩ : 1 = q1 ∧ 1 = q2 ∧ 0 = q3 := by simpa using h
    clear h
    repeat' (first | refine rbt ?_ | refine rbf ?_ | refine wn ?_ | refine wq ?_ | refine wc_plain ?_ | refine wc_draw ?_ | refine rZ ?_ | refine rD ?_ | refine ve8 ?_ | refine ve4 ?_ | refine ve3 ?_ | refine ve1 ?_ | refine ve2 ?_ | refine ve5 ?_ | refine ve6 ?_ | refine ve7 ?_ | refine ve9 ?_ | refine rA ?_ | refine rE ?_ | refine rC ?_ | refine rB ?_ | refine rG ?_ | refine rH ?_ | refine rI ?_ | refine rJ ?_ | refine rcb ?_ | refine wb ?_ | refine wk ?_ | refine we ?_ | exact wt | refine wr ?_ | refine rr1 ?_ | refine rr2 ?_ | exact fr | exact fe | refine wTs ?_ | refine wFs ?_ | refine rof ?_ | refine rof0 ?_)
  · by_cases hz : Z = 0
    · rw [if_pos (.inr hz)] at h
      obtain ⟨rfl, rfl, rfl⟩ : 1 = q1 ∧ 1 = q2 ∧ 0 = q3 := by simpa using h
      clear h
      repeat' (first | refine rbt ?_ | refine rbf ?_ | refine wn ?_ | refine wq ?_ | refine wc_plain ?_ | refine wc_draw ?_ | refine rZ ?_ | refine rD ?_ | refine ve8 ?_ | refine ve4 ?_ | refine ve3 ?_ | refine ve1 ?_ | refine ve2 ?_ | refine ve5 ?_ | refine ve6 ?_ | refine ve7 ?_ | refine ve9 ?_ | refine rA ?_ | refine rE ?_ | refine rC ?_ | refine rB ?_ | refine rG ?_ | refine rH ?_ | refine rI ?_ | refine rJ ?_ | refine rcb ?_ | refine wb ?_ | refine wk ?_ | refine we ?_ | exact wt | refine wr ?_ | refine rr1 ?_ | refine rr2 ?_ | exact fr | exact fe | refine wTs ?_ | refine wFs ?_ | refine rof ?_ | refine rof0 ?_)
    · rw [if_neg (by simp [hy, hz])] at h
      obtain ⟨h1_, h2_, h3_⟩ : (dblN X Y Z).1 = q1 ∧ (dblN X Y Z).2.1 = q2 ∧ (dblN X Y Z).2.2 = q3 := by rw [h]; exact ⟨rfl, rfl, rfl⟩
      clear h
      subst h1_ h2_ h3_
      unfold dblN
      dsimp only
      repeat' (first | refine rbt ?_ | refine rbf ?_ | refine wn ?_ | refine wq ?_ | refine wc_plain ?_ | refine wc_draw ?_ | refine rZ ?_ | refine rD ?_ | refine ve8 ?_ | refine ve4 ?_ | refine ve3 ?_ | refine ve1 ?_ | refine ve2 ?_ | refine ve5 ?_ | refine ve6 ?_ | refine ve7 ?_ | refine ve9 ?_ | refine rA ?_ | refine rE ?_ | refine rC ?_ | refine rB ?_ | refine rG ?_ | refine rH ?_ | refine rI ?_ | refine rJ ?_ | refine rcb ?_ | refine rcp (Pre := In _ ∧ In _) (fun hp_ w_ _ => times_c hp_.1 hp_.2 w_) ?_ (hpre := by refine ⟨?_, ?_⟩ <;> (first | assumption | exact in_tm _ _ | exact in_mi _ _ | exact in_ad _ _ | exact ⟨by decide, by decide⟩)) | refine rcp (Pre := In _ ∧ In _) (fun hp_ w_ _ => minus_c hp_.1 hp_.2 w_) ?_ (hpre := by refine ⟨?_, ?_⟩ <;> (first | assumption | exact in_tm _ _ | exact in_mi _ _ | exact in_ad _ _ | exact ⟨by decide, by decide⟩)) | refine rcp (Pre := In _ ∧ In _) (fun hp_ w_ _ => plus_c hp_.1 hp_.2 w_) ?_ (hpre := by refine ⟨?_, ?_⟩ <;> (first | assumption | exact in_tm _ _ | exact in_mi _ _ | exact in_ad _ _ | exact ⟨by decide, by decide⟩)) | refine wb ?_ | refine wk ?_ | refine we ?_ | exact wt | refine wr ?_ | refine rr1 ?_ | refine rr2 ?_ | exact fr | exact fe | refine wTs ?_ | refine wFs ?_ | refine rof ?_ | refine rof0 ?_)
def hN (X1 Z1 X2 Z2 : Int) : Int := mi (tm X2 (tm Z1 Z1)) (tm X1 (tm Z2 Z2))
def rN (Y1 Z1 Y2 Z2 : Int) : Int := mi (tm (tm Y2 (tm Z1 Z1)) Z1) (tm (tm Y1 (tm Z2 Z2)) Z2)
/-- The sum of two with unlike x, number by number. -/
def plsN (X1 Y1 Z1 X2 Y2 Z2 : Int) : Int × Int × Int :=
  let z1 := tm Z1 Z1
  let z2 := tm Z2 Z2
  let u1 := tm X1 z2
  let u2 := tm X2 z1
  let s1 := tm (tm Y1 z2) Z2
  let s2 := tm (tm Y2 z1) Z1
  let h := mi u2 u1
  let r := mi s2 s1
  let hh := tm h h
  let hhh := tm hh h
  let v := tm u1 hh
  let x3 := mi (mi (mi (tm r r) hhh) v) v
  (x3, mi (tm r (mi v x3)) (tm s1 hhh), tm (tm h Z1) Z2)
def impl_spatial_plus.f (X1 Y1 Z1 X2 Y2 Z2 : Int) : Option (Int × Int × Int) :=
  if 0 ≤ X1 ∧ X1 < 2305843009213693951 ∧ 0 ≤ Y1 ∧ Y1 < 2305843009213693951 ∧ 0 ≤ Z1 ∧ Z1 < 2305843009213693951 ∧ 0 ≤ X2 ∧ X2 < 2305843009213693951 ∧ 0 ≤ Y2 ∧ Y2 < 2305843009213693951 ∧ 0 ≤ Z2 ∧ Z2 < 2305843009213693951 then
    if Z1 = 0 then some (X2, Y2, Z2) else if Z2 = 0 then some (X1, Y1, Z1) else if hN X1 Z1 X2 Z2 = 0 then if rN Y1 Z1 Y2 Z2 = 0 then impl_spatial_double.f X1 Y1 Z1 else some (1, 1, 0) else some (plsN X1 Y1 Z1 X2 Y2 Z2)
  else none
set_option maxRecDepth 100000 in
set_option maxHeartbeats 4000000 in
theorem impl_spatial_plus.calls (X1 Y1 Z1 X2 Y2 Z2 q1 q2 q3 : Int) (w : World) (h : impl_spatial_plus.f X1 Y1 Z1 X2 Y2 Z2 = some (q1, q2, q3)) : Calls Tryd.prog 59 #[.agg #[.int .u64 X1, .int .u64 Y1, .int .u64 Z1], .agg #[.int .u64 X2, .int .u64 Y2, .int .u64 Z2]] w fun e w' => e = .returned (.agg #[.int .u64 (q1), .int .u64 (q2), .int .u64 (q3)]) ∧ Below w.heap.size w w' := by
  unfold impl_spatial_plus.f at h
  split at h
  case isFalse => cases h
  rename_i hh
  obtain ⟨a1, a2, b1, b2, c1, c2, d1, d2, e1, e2, f1, f2⟩ := hh
  have hX1 : In X1 := ⟨a1, a2⟩
  have hY1 : In Y1 := ⟨b1, b2⟩
  have hZ1 : In Z1 := ⟨c1, c2⟩
  have hX2 : In X2 := ⟨d1, d2⟩
  have hY2 : In Y2 := ⟨e1, e2⟩
  have hZ2 : In Z2 := ⟨f1, f2⟩
  clear a1 a2 b1 b2 c1 c2 d1 d2 e1 e2 f1 f2
  refine ve_fn (args := [.agg #[.int .u64 X1, .int .u64 Y1, .int .u64 Z1], .agg #[.int .u64 X2, .int .u64 Y2, .int .u64 Z2]]) Tryd.func59 rfl Tryd.ntmps59 rfl (good (Γ := fun _ => True) (fun _ _ => trivial)) ?_
  by_cases hz1 : Z1 = 0
  · rw [if_pos hz1] at h
    obtain ⟨rfl, rfl, rfl⟩ : X2 = q1 ∧ Y2 = q2 ∧ Z2 = q3 := by simpa using h
    repeat' (first | refine rbt ?_ | refine rbf ?_ | refine wn ?_ | refine wq ?_ | refine wc_plain ?_ | refine wc_draw ?_ | refine rZ ?_ | refine rD ?_ | refine ve8 ?_ | refine ve4 ?_ | refine ve3 ?_ | refine ve1 ?_ | refine ve2 ?_ | refine ve5 ?_ | refine ve6 ?_ | refine ve7 ?_ | refine ve9 ?_ | refine rA ?_ | refine rE ?_ | refine rC ?_ | refine rB ?_ | refine rG ?_ | refine rH ?_ | refine rI ?_ | refine rJ ?_ | refine rcb ?_ | refine wb ?_ | refine wk ?_ | refine we ?_ | exact wt | refine wr ?_ | refine rr1 ?_ | refine rr2 ?_ | exact fr | exact fe | refine wTs ?_ | refine wFs ?_ | refine rof ?_ | refine rof0 ?_)
  · rw [if_neg hz1] at h
    by_cases hz2 : Z2 = 0
    · rw [if_pos hz2] at h
      obtain ⟨rfl, rfl, rfl⟩ : X1 = q1 ∧ Y1 = q2 ∧ Z1 = q3 := by simpa using h
      repeat' (first | refine rbt ?_ | refine rbf ?_ | refine wn ?_ | refine wq ?_ | refine wc_plain ?_ | refine wc_draw ?_ | refine rZ ?_ | refine rD ?_ | refine ve8 ?_ | refine ve4 ?_ | refine ve3 ?_ | refine ve1 ?_ | refine ve2 ?_ | refine ve5 ?_ | refine ve6 ?_ | refine ve7 ?_ | refine ve9 ?_ | refine rA ?_ | refine rE ?_ | refine rC ?_ | refine rB ?_ | refine rG ?_ | refine rH ?_ | refine rI ?_ | refine rJ ?_ | refine rcb ?_ | refine wb ?_ | refine wk ?_ | refine we ?_ | exact wt | refine wr ?_ | refine rr1 ?_ | refine rr2 ?_ | exact fr | exact fe | refine wTs ?_ | refine wFs ?_ | refine rof ?_ | refine rof0 ?_)
    · rw [if_neg hz2] at h
      by_cases hh : hN X1 Z1 X2 Z2 = 0
      · rw [if_pos hh] at h
        unfold hN at hh
        by_cases hr : rN Y1 Z1 Y2 Z2 = 0
        · rw [if_pos hr] at h
          unfold rN at hr
          repeat' (first | refine rbt ?_ | refine rbf ?_ | refine wn ?_ | refine wq ?_ | refine wc_plain ?_ | refine wc_draw ?_ | refine rZ ?_ | refine rD ?_ | refine ve8 ?_ | refine ve4 ?_ | refine ve3 ?_ | refine ve1 ?_ | refine ve2 ?_ | refine ve5 ?_ | refine ve6 ?_ | refine ve7 ?_ | refine ve9 ?_ | refine rA ?_ | refine rE ?_ | refine rC ?_ | refine rB ?_ | refine rG ?_ | refine rH ?_ | refine rI ?_ | refine rJ ?_ | refine rcb ?_ | refine rcp (Pre := In _ ∧ In _) (fun hp_ w_ _ => times_c hp_.1 hp_.2 w_) ?_ (hpre := by refine ⟨?_, ?_⟩ <;> (first | assumption | exact in_tm _ _ | exact in_mi _ _ | exact in_ad _ _ | exact ⟨by decide, by decide⟩)) | refine rcp (Pre := In _ ∧ In _) (fun hp_ w_ _ => minus_c hp_.1 hp_.2 w_) ?_ (hpre := by refine ⟨?_, ?_⟩ <;> (first | assumption | exact in_tm _ _ | exact in_mi _ _ | exact in_ad _ _ | exact ⟨by decide, by decide⟩)) | refine rcp (Pre := In _ ∧ In _) (fun hp_ w_ _ => plus_c hp_.1 hp_.2 w_) ?_ (hpre := by refine ⟨?_, ?_⟩ <;> (first | assumption | exact in_tm _ _ | exact in_mi _ _ | exact in_ad _ _ | exact ⟨by decide, by decide⟩)) | refine rcp (Pre := impl_spatial_double.f _ _ _ = some (_, _, _)) (fun hp_ w_ _ => impl_spatial_double.calls _ _ _ _ _ _ w_ hp_) ?_ | refine wb ?_ | refine wk ?_ | refine we ?_ | exact wt | refine wr ?_ | refine rr1 ?_ | refine rr2 ?_ | exact fr | exact fe | refine wTs ?_ | refine wFs ?_ | refine rof ?_ | refine rof0 ?_)
        · rw [if_neg hr] at h
          unfold rN at hr
          obtain ⟨rfl, rfl, rfl⟩ : 1 = q1 ∧ 1 = q2 ∧ 0 = q3 := by simpa using h
          repeat' (first | refine rbt ?_ | refine rbf ?_ | refine wn ?_ | refine wq ?_ | refine wc_plain ?_ | refine wc_draw ?_ | refine rZ ?_ | refine rD ?_ | refine ve8 ?_ | refine ve4 ?_ | refine ve3 ?_ | refine ve1 ?_ | refine ve2 ?_ | refine ve5 ?_ | refine ve6 ?_ | refine ve7 ?_ | refine ve9 ?_ | refine rA ?_ | refine rE ?_ | refine rC ?_ | refine rB ?_ | refine rG ?_ | refine rH ?_ | refine rI ?_ | refine rJ ?_ | refine rcb ?_ | refine rcp (Pre := In _ ∧ In _) (fun hp_ w_ _ => times_c hp_.1 hp_.2 w_) ?_ (hpre := by refine ⟨?_, ?_⟩ <;> (first | assumption | exact in_tm _ _ | exact in_mi _ _ | exact in_ad _ _ | exact ⟨by decide, by decide⟩)) | refine rcp (Pre := In _ ∧ In _) (fun hp_ w_ _ => minus_c hp_.1 hp_.2 w_) ?_ (hpre := by refine ⟨?_, ?_⟩ <;> (first | assumption | exact in_tm _ _ | exact in_mi _ _ | exact in_ad _ _ | exact ⟨by decide, by decide⟩)) | refine rcp (Pre := In _ ∧ In _) (fun hp_ w_ _ => plus_c hp_.1 hp_.2 w_) ?_ (hpre := by refine ⟨?_, ?_⟩ <;> (first | assumption | exact in_tm _ _ | exact in_mi _ _ | exact in_ad _ _ | exact ⟨by decide, by decide⟩)) | refine wb ?_ | refine wk ?_ | refine we ?_ | exact wt | refine wr ?_ | refine rr1 ?_ | refine rr2 ?_ | exact fr | exact fe | refine wTs ?_ | refine wFs ?_ | refine rof ?_ | refine rof0 ?_)
      · rw [if_neg hh] at h
        unfold hN at hh
        replace h := Option.some.inj h
        obtain ⟨h1_, h2_, h3_⟩ : (plsN X1 Y1 Z1 X2 Y2 Z2).1 = q1 ∧ (plsN X1 Y1 Z1 X2 Y2 Z2).2.1 = q2 ∧ (plsN X1 Y1 Z1 X2 Y2 Z2).2.2 = q3 := by rw [h]; exact ⟨rfl, rfl, rfl⟩
        clear h
        subst h1_ h2_ h3_
        unfold plsN
        dsimp only
        repeat' (first | refine rbt ?_ | refine rbf ?_ | refine wn ?_ | refine wq ?_ | refine wc_plain ?_ | refine wc_draw ?_ | refine rZ ?_ | refine rD ?_ | refine ve8 ?_ | refine ve4 ?_ | refine ve3 ?_ | refine ve1 ?_ | refine ve2 ?_ | refine ve5 ?_ | refine ve6 ?_ | refine ve7 ?_ | refine ve9 ?_ | refine rA ?_ | refine rE ?_ | refine rC ?_ | refine rB ?_ | refine rG ?_ | refine rH ?_ | refine rI ?_ | refine rJ ?_ | refine rcb ?_ | refine rcp (Pre := In _ ∧ In _) (fun hp_ w_ _ => times_c hp_.1 hp_.2 w_) ?_ (hpre := by refine ⟨?_, ?_⟩ <;> (first | assumption | exact in_tm _ _ | exact in_mi _ _ | exact in_ad _ _ | exact ⟨by decide, by decide⟩)) | refine rcp (Pre := In _ ∧ In _) (fun hp_ w_ _ => minus_c hp_.1 hp_.2 w_) ?_ (hpre := by refine ⟨?_, ?_⟩ <;> (first | assumption | exact in_tm _ _ | exact in_mi _ _ | exact in_ad _ _ | exact ⟨by decide, by decide⟩)) | refine rcp (Pre := In _ ∧ In _) (fun hp_ w_ _ => plus_c hp_.1 hp_.2 w_) ?_ (hpre := by refine ⟨?_, ?_⟩ <;> (first | assumption | exact in_tm _ _ | exact in_mi _ _ | exact in_ad _ _ | exact ⟨by decide, by decide⟩)) | refine wb ?_ | refine wk ?_ | refine we ?_ | exact wt | refine wr ?_ | refine rr1 ?_ | refine rr2 ?_ | exact fr | exact fe | refine wTs ?_ | refine wFs ?_ | refine rof ?_ | refine rof0 ?_)
end Go.Proofs.YtoejhekppfgmpaaDoor.CD
end
section
namespace Go.Proofs.YtoejhekppfgmpaaDoor.V2
open Go Go.Proofs.YtoejhekppfgmpaaDoor.C2 Go.Proofs.YtoejhekppfgmpaaDoor.CD Vi
set_option linter.unusedSimpArgs false
theorem tm_vi (a b : Fp) : tm (vi a) (vi b) = vi (a * b) := vi_mul a b
theorem ad_vi (a b : Fp) : ad (vi a) (vi b) = vi (a + b) := vi_add a b
theorem mi_vi (a b : Fp) : mi (vi a) (vi b) = vi (a - b) := vi_sub a b
theorem in_vi (a : Fp) : 0 ≤ vi a ∧ vi a < 2305843009213693951 := vi_range a
theorem n1 : (1 : Int) = vi 1 := rfl
theorem n0 : (0 : Int) = vi 0 := rfl
theorem n3 : (3 : Int) = vi 3 := rfl
theorem n4 : (4 : Int) = vi 4 := rfl
theorem n8 : (8 : Int) = vi 8 := rfl

def v3 (s : Sp) : Int × Int × Int := (vi s.1, vi s.2.1, vi s.2.2)

theorem dbl_vi (s : Sp) : impl_spatial_double.f (vi s.1) (vi s.2.1) (vi s.2.2) = some (v3 (dbl s)) := by
  unfold impl_spatial_double.f
  rw [if_pos ⟨(in_vi _).1, (in_vi _).2, (in_vi _).1, (in_vi _).2, (in_vi _).1, (in_vi _).2⟩]
  congr 1
  unfold dbl
  simp only [vi_zero]
  split
  · rfl
  · unfold dblN v3
    rw [n3, n4, n8]
    simp only [tm_vi, ad_vi, mi_vi]

theorem pls_vi (s t : Sp) : impl_spatial_plus.f (vi s.1) (vi s.2.1) (vi s.2.2) (vi t.1) (vi t.2.1) (vi t.2.2) = some (v3 (pls s t)) := by
  unfold impl_spatial_plus.f
  rw [if_pos ⟨(in_vi _).1, (in_vi _).2, (in_vi _).1, (in_vi _).2, (in_vi _).1, (in_vi _).2, (in_vi _).1, (in_vi _).2, (in_vi _).1, (in_vi _).2, (in_vi _).1, (in_vi _).2⟩]
  unfold pls hN rN
  simp only [tm_vi, ad_vi, mi_vi, vi_zero]
  split
  · rfl
  · split
    · rfl
    · split
      · split
        · exact dbl_vi s
        · rfl
      · congr 1
        unfold plsN v3
        simp only [tm_vi, ad_vi, mi_vi]

end Go.Proofs.YtoejhekppfgmpaaDoor.V2
end
section
namespace Go.Proofs.YtoejhekppfgmpaaDoor.F
open Go.RowKit Go.Proofs.YtoejhekppfgmpaaDoor.B Go.Proofs.YtoejhekppfgmpaaDoor.C Go.Proofs.YtoejhekppfgmpaaDoor.H0 Go.Proofs.YtoejhekppfgmpaaDoor.G1 Go.Proofs.YtoejhekppfgmpaaDoor.F0 Go.Proofs.YtoejhekppfgmpaaDoor.H1 Go.Proofs.YtoejhekppfgmpaaDoor.H2 Go.Proofs.YtoejhekppfgmpaaDoor.H3 Go.Proofs.YtoejhekppfgmpaaDoor.CD Go.Proofs.YtoejhekppfgmpaaDoorW.PrintWords Go.Proofs.YtoejhekppfgmpaaDoorW.PrintLast Go.Proofs.YtoejhekppfgmpaaDoorW.PrintMore Go.Proofs.YtoejhekppfgmpaaDoor.Ve Go.Proofs.YtoejhekppfgmpaaDoor.VeT Go.Proofs.YtoejhekppfgmpaaDoor.VeE
attribute [local go_sem high] field_num_fieldP   -- for this text's walks alone
attribute [local go_sem] max2_int min2_int max_two min_two max_three min_three max_four min_four   -- for this text's walks alone
set_option linter.unusedVariables false
set_option linter.unusedSimpArgs false
def impl_Add.j0 : Nat → Bool → Int → Int → Bool → Int → Int → Bool → Int → Int → Bool → Option (Int × Int × Bool)
  | 0, _, _, _, _, _, _, _, _, _, _ => none
  | k + 1, x24, x81000, x81001, x81002, x109000, x109001, x109002, x114000, x114001, x114002 => if x24 = true then (some (x81000, x81001, x81002)) else ((impl_onCurve_spatial.f x109000 x109001 x109002).bind fun bt114 => ((impl_onCurve_spatial.f x114000 x114001 x114002).bind fun bt117 => ((impl_spatial_plus.f bt114.1 bt114.2.1 bt114.2.2 bt117.1 bt117.2.1 bt117.2.2).bind fun bt120 => ((impl_spatial_point.f k bt120.1 bt120.2.1 bt120.2.2).bind fun bt123 => (some (bt123.1, bt123.2.1, bt123.2.2))))))
def impl_Add.f (k : Nat) (a0_0 : Int) (a0_1 : Int) (a0_2 : Bool) (a1_0 : Int) (a1_1 : Int) (a1_2 : Bool) : Option (Int × Int × Bool) := (impl_at.f k a0_0 a0_1 a0_2).bind fun bt104 => ((impl_at.f k a1_0 a1_1 a1_2).bind fun bt109 => (if bt104.2.2.2 = true then (impl_Add.j0 k (!bt109.2.2.2) 0 0 true bt104.1 bt104.2.1 bt104.2.2.1 bt109.1 bt109.2.1 bt109.2.2.1) else (impl_Add.j0 k true 0 0 true bt104.1 bt104.2.1 bt104.2.2.1 bt109.1 bt109.2.1 bt109.2.2.1)))
set_option maxRecDepth 100000 in
set_option maxHeartbeats 4000000 in
theorem impl_Add.calls (k : Nat) (a0_0 : Int) (a0_1 : Int) (a0_2 : Bool) (a1_0 : Int) (a1_1 : Int) (a1_2 : Bool) (r1 : Int) (r2 : Int) (r3 : Bool) (w : World) (hG : G w) (h : impl_Add.f k a0_0 a0_1 a0_2 a1_0 a1_1 a1_2 = some (r1, r2, r3)) :
    Calls Tryd.prog 14 #[.agg #[.int .u64 a0_0, .int .u64 a0_1, .bool a0_2], .agg #[.int .u64 a1_0, .int .u64 a1_1, .bool a1_2]] w fun e w' => e = .returned (.agg #[.int .u64 r1, .int .u64 r2, .bool r3]) ∧ Below w.heap.size w w' := by
  unfold impl_Add.f at h
  all_goals rcases k with _ | k
  repeat' (first | (rw [Option.bind_eq_some_iff] at h; obtain ⟨_, _, h⟩ := h) | (split at h) | (rw [impl_Add.j0] at h) | (cases h <;> fail) | (replace h := Option.some.inj h) | (have h3_ := (Prod.mk.inj h).1; replace h := (Prod.mk.inj h).2; subst h3_) | (subst h))
  all_goals try contradiction
  all_goals refine ve_fn (args := [.agg #[.int .u64 a0_0, .int .u64 a0_1, .bool a0_2], .agg #[.int .u64 a1_0, .int .u64 a1_1, .bool a1_2]]) Tryd.func14 rfl Tryd.ntmps14 rfl (good (Γ := fun W => G W) (fun W hb => G_below hb hG)) ?_
  all_goals repeat' (first | refine rbt ?_ | refine rbf ?_ | refine wn ?_ | refine wq ?_ | refine wc_plain ?_ | refine wc_draw ?_ | refine rZ ?_ | refine rD ?_ | refine ve8 ?_ | refine ve4 ?_ | refine ve3 ?_ | refine ve1 ?_ | refine ve2 ?_ | refine ve5 ?_ | refine ve6 ?_ | refine ve7 ?_ | refine ve9 ?_ | refine rA ?_ | refine rE ?_ | refine rC ?_ | refine rB ?_ | refine rG ?_ | refine rH ?_ | refine rI ?_ | refine rJ ?_ | refine rcb ?_ | refine rcp (Pre := impl_onCurve_spatial.f _ _ _ = some (_, _, _)) (fun hp_ w_ hΓ => impl_onCurve_spatial.calls _ _ _ _ _ _ w_ hp_) ?_ | refine rcp (Pre := impl_spatial_plus.f _ _ _ _ _ _ = some (_, _, _)) (fun hp_ w_ hΓ => impl_spatial_plus.calls _ _ _ _ _ _ _ _ _ w_ hp_) ?_ | refine rcp (Pre := impl_spatial_point.f _ _ _ _ = some (_, _, _)) (fun hp_ w_ hΓ => impl_spatial_point.calls _ _ _ _ _ _ _ w_ hΓ hp_) ?_ | refine rcp (Pre := impl_at.f _ _ _ _ = some (_, _, _, _)) (fun hp_ w_ hΓ => impl_at.calls _ _ _ _ _ _ _ _ w_ hΓ hp_) ?_ | refine rel (fun w_ hΓ => ld_zero (by first  |  exact hΓ.z  |  exact hΓ.1.z  |  exact hΓ.1  |  exact hΓ)) ?_  |  refine req (fun w_ => eq_pt w_) ?_  |  refine req (fun w_ => ne_pt w_) ?_  |  refine req (fun w_ => eq_num w_) ?_ | refine wb ?_ | refine wk ?_ | refine we ?_ | exact wt | refine wr ?_ | refine rr1 ?_ | refine rr2 ?_ | exact fr | exact fe | refine wTs ?_ | refine wFs ?_ | refine rof ?_ | refine rof0 ?_)

end Go.Proofs.YtoejhekppfgmpaaDoor.F
end
section
namespace Go.Proofs.YtoejhekppfgmpaaDoor.H4
open Go.RowKit Go.Shelf Go.Proofs.YtoejhekppfgmpaaDoorW.PrintWords Go.Proofs.YtoejhekppfgmpaaDoorW.PrintLast Go.Proofs.YtoejhekppfgmpaaDoorW.PrintMore Go.Proofs.YtoejhekppfgmpaaDoor.H0 Go.Proofs.YtoejhekppfgmpaaDoor.H1 Go.Proofs.YtoejhekppfgmpaaDoor.H2 Go.Proofs.YtoejhekppfgmpaaDoor.H3 Go.Proofs.YtoejhekppfgmpaaDoor.C2 Go.Proofs.YtoejhekppfgmpaaDoor.CD Go.Proofs.YtoejhekppfgmpaaDoor.V2 Go.Proofs.YtoejhekppfgmpaaDoor.G1 Go.Proofs.YtoejhekppfgmpaaDoor.B Vi
attribute [local go_sem] Oper.semAt_some
set_option linter.unusedVariables false
set_option linter.unusedSimpArgs false
theorem new2_0 (w : World) (o1 o2 : Obj) : ((w.alloc o1).alloc o2).heap[w.heap.size]? = some o1 := by rw [heap_alloc_old _ _ (by simp), heap_alloc_new]
theorem new2_1 (w : World) (o1 o2 : Obj) : ((w.alloc o1).alloc o2).heap[w.heap.size + 1]? = some o2 := by
  have := heap_alloc_new (w.alloc o1) o2; rwa [World.size_alloc] at this
theorem newB2 (w : World) (o1 o2 : Obj) : Below w.heap.size w ((w.alloc o1).alloc o2) := ((Below.refl _ w).alloc (Nat.le_refl _) _).alloc (by simp) _

/-- A box of three numbers. -/
def B3 (W : World) (B : Nat) (t : TypeId) (s : Int × Int × Int) : Prop := W.heap[B]? = some (.cells #[.int .u64 s.1, .int .u64 s.2.1, .int .u64 s.2.2] t (0, 0))
theorem B3.lt {W : World} {B : Nat} {t : TypeId} {s : Int × Int × Int} (h : B3 W B t s) : B < W.heap.size := lt_of_heap h
theorem B3.c0 {W : World} {B : Nat} {t : TypeId} {s : Int × Int × Int} (h : B3 W B t s) : W.cell? ⟨B, 0, none⟩ = some (.int .u64 s.1) := (cell_of_row W B 0 _ _ _ h).trans rfl
theorem B3.c1 {W : World} {B : Nat} {t : TypeId} {s : Int × Int × Int} (h : B3 W B t s) : W.cell? ⟨B, 1, none⟩ = some (.int .u64 s.2.1) := (cell_of_row W B 1 _ _ _ h).trans rfl
theorem B3.c2 {W : World} {B : Nat} {t : TypeId} {s : Int × Int × Int} (h : B3 W B t s) : W.cell? ⟨B, 2, none⟩ = some (.int .u64 s.2.2) := (cell_of_row W B 2 _ _ _ h).trans rfl
theorem B3.fr {W : World} {B : Nat} {t : TypeId} {s : Int × Int × Int} (h : B3 W B t s) (i : Nat) : W.frozen? ⟨B, i, none⟩ = false := frozen_of_row W B i _ _ h
theorem B3.kept {W W' : World} {row : Option Nat} {B : Nat} {t : TypeId} {s : Int × Int × Int} (h : B3 W B t s) (hg : W.grownBy W' row) (hne : some B ≠ row) : B3 W' B t s := (hg.block B h.lt hne).trans h
theorem B3.below {W W' : World} {B : Nat} {t : TypeId} {s : Int × Int × Int} (h : B3 W B t s) (hb : Below W.heap.size W W') : B3 W' B t s := (hb.block B h.lt).trans h
theorem B3.own {β : Type} (B : Nat) (t : TypeId) (f : β → Int × Int × Int) : Own (fun s W => B3 W B t (f s)) := fun s X Y row hs hg hrow =>
  hs.kept hg (fun e' => by obtain ⟨o, ho, hc⟩ := hrow B e'.symm; rw [show X.heap[B]? = _ from hs] at ho; cases ho; cases hc)
theorem B3.set {W : World} {B : Nat} {t : TypeId} {s : Int × Int × Int} (h : B3 W B t s) (r : Int × Int × Int) :
    B3 (((W.setCell ⟨B, 0, none⟩ (.int .u64 r.1)).setCell ⟨B, 1, none⟩ (.int .u64 r.2.1)).setCell ⟨B, 2, none⟩ (.int .u64 r.2.2)) B t r := by
  have h0 := heap_setCell_same W B 0 _ t (.int .u64 r.1) h
  have h1 := heap_setCell_same _ B 1 _ t (.int .u64 r.2.1) h0
  have h2 := heap_setCell_same _ B 2 _ t (.int .u64 r.2.2) h1
  simpa [B3] using h2
theorem gb_set1 {W W' : World} {B : Nat} (h : W.grownBy W' (some B)) (i : Nat) (v : Value) : W.grownBy (W'.setCell ⟨B, i, none⟩ v) (some B) :=
  store_sp.grown_trans h ⟨rfl, rfl, rfl, by simp [World.setCell], fun k _ hk => Below.heap_setCell _ _ _ _ (fun e => hk (by simp [e]))⟩
theorem gb_set3 {W W' : World} {B : Nat} (h : W.grownBy W' (some B)) (a b c : Value) :
    W.grownBy (((W'.setCell ⟨B, 0, none⟩ a).setCell ⟨B, 1, none⟩ b).setCell ⟨B, 2, none⟩ c) (some B) := gb_set1 (gb_set1 (gb_set1 h 0 a) 1 b) 2 c
theorem keeps_of_gb3 {W W' : World} {B : Nat} {t : TypeId} {s : Int × Int × Int} (h : B3 W B t s) (hg : W.grownBy W' (some B)) : KeepsOthers W W' :=
  KeepsOthers.of_grownBy hg (fun j o e ho => by cases e; rw [show W.heap[B]? = _ from h] at ho; cases ho; rfl)

/-- one bit's step -/
def sst (s r : Sp) (b : Bool) : Sp := if b then pls (dbl r) s else dbl r
def sfold (s : Sp) (bs : List Bool) : Sp := bs.foldl (sst s) sp0
theorem sfold_snoc (s : Sp) (bs : List Bool) (b : Bool) : sfold s (bs ++ [b]) = sst s (sfold s bs) b := by simp [sfold]

/-- the element of a number -/
def el (x : Int) : Fp := Fin.ofNat _ x.toNat
theorem vi_el {x : Int} (h0 : 0 ≤ x) (h : x < 2305843009213693951) : vi (el x) = x := by
  unfold vi el; rw [Fin.val_ofNat]; omega

def impl_spatial_times.f (X Y Z k : Int) : Option (Int × Int × Int) :=
  if 0 ≤ X ∧ X < 2305843009213693951 ∧ 0 ≤ Y ∧ Y < 2305843009213693951 ∧ 0 ≤ Z ∧ Z < 2305843009213693951 ∧ 0 ≤ k ∧ k < 18446744073709551616 then some (v3 (sfold (el X, el Y, el Z) (bitsOf k))) else none

theorem dbl_calls (s : Sp) (w : World) : Calls Tryd.prog 108 #[.agg #[.int .u64 (v3 s).1, .int .u64 (v3 s).2.1, .int .u64 (v3 s).2.2]] w fun e w' =>
    e = .returned (.agg #[.int .u64 (v3 (dbl s)).1, .int .u64 (v3 (dbl s)).2.1, .int .u64 (v3 (dbl s)).2.2]) ∧ Below w.heap.size w w' :=
  impl_spatial_double.calls _ _ _ _ _ _ w (dbl_vi s)
theorem pls_calls (s t : Sp) (w : World) : Calls Tryd.prog 59 #[.agg #[.int .u64 (v3 s).1, .int .u64 (v3 s).2.1, .int .u64 (v3 s).2.2], .agg #[.int .u64 (v3 t).1, .int .u64 (v3 t).2.1, .int .u64 (v3 t).2.2]] w fun e w' =>
    e = .returned (.agg #[.int .u64 (v3 (pls s t)).1, .int .u64 (v3 (pls s t)).2.1, .int .u64 (v3 (pls s t)).2.2]) ∧ Below w.heap.size w w' :=
  impl_spatial_plus.calls _ _ _ _ _ _ _ _ _ w (pls_vi s t)
theorem zero_calls (w : World) : Calls Tryd.prog 58 #[.agg #[.int .u64 0, .int .u64 0, .bool true]] w fun e w' =>
    e = .returned (.agg #[.int .u64 1, .int .u64 1, .int .u64 0]) ∧ Below w.heap.size w w' :=
  impl_onCurve_spatial.calls 0 0 true 1 1 0 w rfl

set_option maxRecDepth 100000 in
set_option maxHeartbeats 8000000 in
theorem times_at (s : Sp) (e : Int) (he0 : 0 ≤ e) (he1 : e < 18446744073709551616) (w : World) (hG : G w) :
    Calls Tryd.prog 63 #[.agg #[.int .u64 (v3 s).1, .int .u64 (v3 s).2.1, .int .u64 (v3 s).2.2], .int .u64 e] w fun en w' =>
      en = .returned (.agg #[.int .u64 (v3 (sfold s (bitsOf e))).1, .int .u64 (v3 (sfold s (bitsOf e))).2.1, .int .u64 (v3 (sfold s (bitsOf e))).2.2]) ∧ Below w.heap.size w w' := by
  obtain ⟨tG, frG, hz⟩ := hG
  have hzl := lt_of_heap hz
  refine (callsIn_wide (n := 5)).1 ?_
  refine callsIn_of_wp_marks Tryd.func63 rfl trivial ?_ rfl
  simp only [Tryd.ntmps63, List.size_toArray, List.length_cons, List.length_nil, Nat.reduceAdd, Nat.reduceSub, Array.replicate_succ, Array.replicate_zero, List.push_toArray, List.append_toArray, List.nil_append, List.cons_append]
  have hA0 : B3 ((w.alloc (.cells #[.int .u64 (v3 s).1, .int .u64 (v3 s).2.1, .int .u64 (v3 s).2.2] 96)).alloc (.cells #[.int .u64 0, .int .u64 0, .int .u64 0] 96)) w.heap.size 96 (v3 s) := new2_0 _ _ _
  have hR0 : B3 ((w.alloc (.cells #[.int .u64 (v3 s).1, .int .u64 (v3 s).2.1, .int .u64 (v3 s).2.2] 96)).alloc (.cells #[.int .u64 0, .int .u64 0, .int .u64 0] 96)) (w.heap.size + 1) 96 (0, 0, 0) := new2_1 _ _ _
  have hB0 := newB2 w (.cells #[.int .u64 (v3 s).1, .int .u64 (v3 s).2.1, .int .u64 (v3 s).2.2] 96) (.cells #[.int .u64 0, .int .u64 0, .int .u64 0] 96)
  have hz0 := (hB0.block _ hzl).trans hz
  have z0 := (cell_of_row _ 0 0 _ _ _ hz0).trans (show _ = some (Value.int .u64 0) from rfl)
  have z1 := (cell_of_row _ 0 1 _ _ _ hz0).trans (show _ = some (Value.int .u64 0) from rfl)
  have z2 := (cell_of_row _ 0 2 _ _ _ hz0).trans (show _ = some (Value.bool true) from rfl)
  replace hA0 := Aside0.mk hA0
  replace hR0 := Aside0.mk hR0
  replace hB0 := Aside0.mk hB0
  clear hz0 hz hzl
  generalize hv : v3 s = vs at *
  obtain ⟨v1, v2, v4⟩ := vs
  replace hv := Aside0.mk hv
  gi_wp2_with (first | (refine ⟨trivial, ?_⟩; gi_at_call 58; refine (callsIn_wide.2 (zero_calls _)).mono ?_; rintro en w1 ⟨rfl, hb1⟩; replace hb1 := Aside0.mk hb1) | (refine ⟨trivial, ?_⟩; gi_at_call 109; refine (callsIn_wide.2 (highBits_any e _)).mono ?_; rintro en w' ⟨rfl, rfl⟩))
  replace hb1 := hb1.out
  replace hA0 := hA0.out.below hb1
  replace hR0 := hR0.out.below hb1
  have hs1 : w.heap.size + 2 ≤ w1.heap.size := by have := hb1.size; simp only [World.size_alloc] at this; omega
  have hB1 : Below w.heap.size w w1 := hB0.out.trans (hb1.mono (by simp only [World.size_alloc]; omega))
  have hb2 : B3 (w1.alloc (.cells #[.int .u64 1, .int .u64 1, .int .u64 0] 96)) w1.heap.size 96 (1, 1, 0) := heap_alloc_new _ _
  have hbe : Boxed ((w1.alloc (.cells #[.int .u64 1, .int .u64 1, .int .u64 0] 96)).alloc (.cells #[.int .u64 e] 23)) (w1.heap.size + 1) 23 (.int .u64 e) := by
    have := Boxed.new (w1.alloc (.cells #[.int .u64 1, .int .u64 1, .int .u64 0] 96)) 23 (.int .u64 e)
    rwa [World.size_alloc] at this
  have ka : ∀ (W : World) (o : Obj), W.grownBy (W.alloc o) none := fun W o => World.grownBy_alloc W o none
  have hA1 := (hA0.kept (ka _ (.cells #[.int .u64 1, .int .u64 1, .int .u64 0] 96)) (by simp)).kept (ka _ (.cells #[.int .u64 e] 23)) (by simp)
  have hR1 := (hR0.kept (ka _ (.cells #[.int .u64 1, .int .u64 1, .int .u64 0] 96)) (by simp)).kept (ka _ (.cells #[.int .u64 e] 23)) (by simp)
  have hO1 := hb2.kept (ka _ (.cells #[.int .u64 e] 23)) (by simp)
  have hBB : Below w.heap.size w ((w1.alloc (.cells #[.int .u64 1, .int .u64 1, .int .u64 0] 96)).alloc (.cells #[.int .u64 e] 23)) :=
    (hB1.alloc (by omega) _).alloc (by simp; omega) _
  have hsz : ((w1.alloc (.cells #[.int .u64 1, .int .u64 1, .int .u64 0] 96)).alloc (.cells #[.int .u64 e] 23)).heap.size = w1.heap.size + 1 + 1 := by simp only [World.size_alloc]
  clear ka hb2 hA0 hR0 hB0 hb1 z0 z1 z2
  generalize ((w1.alloc (.cells #[.int .u64 1, .int .u64 1, .int .u64 0] 96)).alloc (.cells #[.int .u64 e] 23)) = W1 at *
  generalize w1.heap.size = s1 at *
  refine wpIn_rangeFunc_ownF rfl (by omega) (gf := 146) (lb := #[.pointer (some ⟨s1 + 1, 0, none⟩)]) rfl trivial (enters_of Tryd.func146 (by kernel_rfl) rfl)
    (bits_stops (s1 + 1) 23 e he0 (by omega) _ hbe) keepBox_t (keepBox_b (by simp [hsz])) (Below.refl _ _) (fun _ => rfl)
    (fun pre W => (B3 W w.heap.size 96 (v1, v2, v4) ∧ B3 W (w.heap.size + 1) 96 (0, 0, 0) ∧ B3 W s1 96 (v3 (sfold s pre)) ∧ Boxed W (s1 + 1) 23 (.int .u64 e)) ∧ Below w.heap.size w W)
    (fun _ _ _ => False)
    (OwnFrom.and (Own.from (fun p A B row hs hg hr => ⟨B3.own _ _ (fun _ : List Bool => (v1, v2, v4)) p A B row hs.1 hg hr, B3.own _ _ (fun _ : List Bool => ((0 : Int), (0 : Int), (0 : Int))) p A B row hs.2.1 hg hr, B3.own _ _ (fun p => v3 (sfold s p)) p A B row hs.2.2.1 hg hr, boxed_own _ _ (fun _ : List Bool => Value.int .u64 e) p A B row hs.2.2.2 hg hr⟩) _) (ownFrom_below (Nat.le_refl _) (by simp [hsz]; omega)))
    (fun _ _ _ _ _ hs _ _ => hs)
    ⟨⟨hA1, hR1, hO1, hbe⟩, hBB⟩
    (fun x => { tmps := #[.agg #[.int .u64 v1, .int .u64 v2, .int .u64 v4], .int .u64 e, .pointer (some ⟨w.heap.size, 0, none⟩), undef, .pointer (some ⟨w.heap.size + 1, 0, none⟩), .pointer (some ⟨s1, 0, none⟩), .bool x, .agg #[.int .u64 0, .int .u64 0, .bool true], .agg #[.int .u64 0, .int .u64 0, .bool true], .agg #[.int .u64 1, .int .u64 1, .int .u64 0], .int .u64 e, .func (.func 146) #[] #[.pointer (some ⟨s1 + 1, 0, none⟩)], .bool x, undef, undef, undef, undef, undef, undef, undef], defers := [] }) ?assign ?body ?done ?stop
  case assign =>
    intro l x W K hK
    gi_wp2
    exact hK
  case body =>
    rintro l pre x W ⟨⟨hA, hR, hO, hE⟩, hB⟩ _
    have hWs := hE.lt
    have hs := sfold_snoc s pre x
    have dc := fun W => dbl_calls (sfold s pre) W
    have pc := fun W => pls_calls (dbl (sfold s pre)) s W
    have kO := Aside0.mk hO
    have hv' := hv.out
    rw [hv'] at pc
    generalize hr : v3 (sfold s pre) = r at *
    generalize hd : v3 (dbl (sfold s pre)) = d at *
    obtain ⟨r1, r2, r4⟩ := r
    obtain ⟨d1, d2, d4⟩ := d
    have a0 := hA.c0
    have a1 := hA.c1
    have a2 := hA.c2
    have o0 := hO.c0
    have o1 := hO.c1
    have o2 := hO.c2
    have f0 := hO.fr 0
    have f1 := hO.fr 1
    have f2 := hO.fr 2
    replace hA := Aside0.mk hA
    replace hR := Aside0.mk hR
    replace hO := Aside0.mk hO
    replace hE := Aside0.mk hE
    replace hB := Aside0.mk hB
    replace hr := Aside0.mk hr
    replace hd := Aside0.mk hd
    replace hs := Aside0.mk hs
    clear hv'
    cases x with
    | false =>
      gi_wp2_with (refine ⟨trivial, ?_⟩; gi_at_call 108; refine (CallsIn.inRound l (callsIn_wide.2 (dc _))).mono ?_; rintro en w' ⟨rfl, hn1⟩; have hO' := hO.out.below hn1; have p0 := hO'.c0; have p1 := hO'.c1; have p2 := hO'.c2; have q0 := hO'.fr 0; have q1 := hO'.fr 1; have q2 := hO'.fr 2; replace hO' := Aside0.mk hO'; replace hn1 := Aside0.mk hn1)
      have hg := gb_set3 (gb_below (gb_refl W (some s1)) hn1.out) (.int .u64 d1) (.int .u64 d2) (.int .u64 d4)
      refine ⟨keeps_of_gb3 hO.out hg, keepBox_of_gb hg hWs (by omega), ⟨hA.out.kept hg (by simp; omega), hR.out.kept hg (by simp; omega), ?_, hE.out.kept hg (by simp)⟩, below_of_gb hB.out hg hB.out.size (by omega)⟩
      rw [hs.out]
      show B3 _ s1 _ (v3 (dbl (sfold s pre)))
      rw [hd.out]
      exact hO'.out.set (d1, d2, d4)
    | true =>
      gi_wp2_with (refine ⟨trivial, ?_⟩; first | (gi_at_call 108; refine (CallsIn.inRound l (callsIn_wide.2 (dc _))).mono ?_; rintro en w' ⟨rfl, hn1⟩; have hO' := hO.out.below hn1; have p0 := hO'.c0; have p1 := hO'.c1; have p2 := hO'.c2; have q0 := hO'.fr 0; have q1 := hO'.fr 1; have q2 := hO'.fr 2; have hg1 := gb_set3 (gb_refl w' (some s1)) (.int .u64 d1) (.int .u64 d2) (.int .u64 d4); have hA' := (hA.out.below hn1).kept hg1 (by simp; omega); have a0' := hA'.c0; have a1' := hA'.c1; have a2' := hA'.c2; have hO2 := hO'.set (d1, d2, d4); replace hO' := Aside0.mk hO'; replace hn1 := Aside0.mk hn1; replace hg1 := Aside0.mk hg1; replace hA' := Aside0.mk hA'; replace hO2 := Aside0.mk hO2) | (gi_at_call 59; refine (CallsIn.inRound l (callsIn_wide.2 (pc _))).mono ?_; rintro en w'' ⟨rfl, hn2⟩; have hO'' := hO2.out.below hn2; have p0'' := hO''.c0; have p1'' := hO''.c1; have p2'' := hO''.c2; have q0'' := hO''.fr 0; have q1'' := hO''.fr 1; have q2'' := hO''.fr 2; replace hO'' := Aside0.mk hO''; replace hn2 := Aside0.mk hn2))
      have hg := gb_set3 (gb_below (gb_set3 (gb_below (gb_refl W (some s1)) hn1.out) (.int .u64 d1) (.int .u64 d2) (.int .u64 d4)) hn2.out) (.int .u64 (v3 (pls (dbl (sfold s pre)) s)).1) (.int .u64 (v3 (pls (dbl (sfold s pre)) s)).2.1) (.int .u64 (v3 (pls (dbl (sfold s pre)) s)).2.2)
      refine ⟨keeps_of_gb3 hO.out hg, keepBox_of_gb hg hWs (by omega), ⟨hA.out.kept hg (by simp; omega), hR.out.kept hg (by simp; omega), ?_, hE.out.kept hg (by simp)⟩, below_of_gb hB.out hg hB.out.size (by omega)⟩
      rw [hs.out]
      exact hO''.out.set (v3 (pls (dbl (sfold s pre)) s))
  case done =>
    rintro D ys W hD rfl ⟨⟨hA, hR, hO, _⟩, hB⟩ hK
    have o0 := hO.c0
    have o1 := hO.c1
    have o2 := hO.c2
    have r0 := hR.c0
    have r1 := hR.c1
    have r2 := hR.c2
    have f0 := hR.fr 0
    have f1 := hR.fr 1
    have f2 := hR.fr 2
    generalize hy : v3 (sfold s (bitsOf e)) = r at *
    obtain ⟨y1, y2, y4⟩ := r
    replace hy := Aside0.mk hy
    replace hA := Aside0.mk hA
    replace hR := Aside0.mk hR
    replace hO := Aside0.mk hO
    replace hB := Aside0.mk hB
    gi_wp2
    have hR2 := hR.out.set (y1, y2, y4)
    have hB2 : Below w.heap.size w (((W.setCell ⟨w.heap.size + 1, 0, none⟩ (.int .u64 y1)).setCell ⟨w.heap.size + 1, 1, none⟩ (.int .u64 y2)).setCell ⟨w.heap.size + 1, 2, none⟩ (.int .u64 y4)) := ((hB.out.setCell (by simp) _).setCell (by simp) _).setCell (by simp) _
    have hK2 : (((W.setCell ⟨w.heap.size + 1, 0, none⟩ (.int .u64 y1)).setCell ⟨w.heap.size + 1, 1, none⟩ (.int .u64 y2)).setCell ⟨w.heap.size + 1, 2, none⟩ (.int .u64 y4)).heap[D]? = some (.deferred (some [])) := by
      rw [Below.heap_setCell _ _ _ _ (by simp; omega), Below.heap_setCell _ _ _ _ (by simp; omega), Below.heap_setCell _ _ _ _ (by simp; omega)]; exact hK
    dsimp only at hR2
    generalize (((W.setCell ⟨w.heap.size + 1, 0, none⟩ (.int .u64 y1)).setCell ⟨w.heap.size + 1, 1, none⟩ (.int .u64 y2)).setCell ⟨w.heap.size + 1, 2, none⟩ (.int .u64 y4)) = W2 at *
    refine ⟨by simp, .inl ⟨_, _, rfl, run_takeDeferred hK2, ?_⟩⟩
    refine ⟨_, results_cell_row rfl _ _ (w.heap.size + 1) 96 #[.int .u64 y1, .int .u64 y2, .int .u64 y4] (0, 0) _ rfl ?_ Tryd.underlying96 rfl (by kernel_rfl), by rw [hy.out], hB2.trans (belowK_b (w := w) (Nat.le_refl _) W2 D _ _ (by omega) hK2 rfl rfl)⟩
    exact hR2.kept (grownBy_putObj' W2 D (.deferred none)) (by simp; omega)
  case stop =>
    rintro D c pre W _ _ h _
    exact h.elim

theorem impl_spatial_times.calls (X Y Z k r1 r2 r3 : Int) (w : World) (hG : G w) (h : impl_spatial_times.f X Y Z k = some (r1, r2, r3)) :
    Calls Tryd.prog 63 #[.agg #[.int .u64 X, .int .u64 Y, .int .u64 Z], .int .u64 k] w fun en w' => en = .returned (.agg #[.int .u64 r1, .int .u64 r2, .int .u64 r3]) ∧ Below w.heap.size w w' := by
  unfold impl_spatial_times.f at h
  split at h
  case isFalse => cases h
  rename_i hh
  obtain ⟨h1, h2, h3, h4, h5, h6, h7, h8⟩ := hh
  have e := Option.some.inj h
  have := times_at (el X, el Y, el Z) k h7 h8 w hG
  rw [e] at this
  have ex : v3 (el X, el Y, el Z) = (X, Y, Z) := by unfold v3; simp only [vi_el h1 h2, vi_el h3 h4, vi_el h5 h6]
  rw [ex] at this
  exact this
end Go.Proofs.YtoejhekppfgmpaaDoor.H4
end
section
namespace Go.Proofs.YtoejhekppfgmpaaDoor.F
open Go.RowKit Go.Proofs.YtoejhekppfgmpaaDoor.B Go.Proofs.YtoejhekppfgmpaaDoor.C Go.Proofs.YtoejhekppfgmpaaDoor.H0 Go.Proofs.YtoejhekppfgmpaaDoor.G1 Go.Proofs.YtoejhekppfgmpaaDoor.F0 Go.Proofs.YtoejhekppfgmpaaDoor.H1 Go.Proofs.YtoejhekppfgmpaaDoor.H2 Go.Proofs.YtoejhekppfgmpaaDoor.H3 Go.Proofs.YtoejhekppfgmpaaDoor.CD Go.Proofs.YtoejhekppfgmpaaDoor.H4 Go.Proofs.YtoejhekppfgmpaaDoorW.PrintWords Go.Proofs.YtoejhekppfgmpaaDoorW.PrintLast Go.Proofs.YtoejhekppfgmpaaDoorW.PrintMore
attribute [local go_sem high] field_num_fieldP   -- for this text's walks alone
attribute [local go_sem] max2_int min2_int max_two min_two max_three min_three max_four min_four   -- for this text's walks alone
set_option linter.unusedVariables false
set_option linter.unusedSimpArgs false
def impl_Times.f (k : Nat) (a0 : Int) (a1_0 : Int) (a1_1 : Int) (a1_2 : Bool) : Option (Int × Int × Bool) := (impl_at.f k a1_0 a1_1 a1_2).bind fun bt198 => (if bt198.2.2.2 = true then ((impl_onCurve_spatial.f bt198.1 bt198.2.1 bt198.2.2.1).bind fun bt203 => ((impl_spatial_times.f bt203.1 bt203.2.1 bt203.2.2 a0).bind fun bt206 => ((impl_spatial_point.f k bt206.1 bt206.2.1 bt206.2.2).bind fun bt209 => (some (bt209.1, bt209.2.1, bt209.2.2))))) else (some (0, 0, true)))
set_option maxHeartbeats 8000000 in
set_option maxRecDepth 100000 in
theorem impl_Times.calls (k : Nat) (a0 : Int) (a1_0 : Int) (a1_1 : Int) (a1_2 : Bool) (r1 : Int) (r2 : Int) (r3 : Bool) (w : World) (hG : G w) (h : impl_Times.f k a0 a1_0 a1_1 a1_2 = some (r1, r2, r3)) :
    Calls Tryd.prog 16 #[.int .u64 a0, .agg #[.int .u64 a1_0, .int .u64 a1_1, .bool a1_2]] w fun e w' => e = .returned (.agg #[.int .u64 r1, .int .u64 r2, .bool r3]) ∧ Below w.heap.size w w' := by
  have hu25 := Tryd.underlying25
  have hu90 := Tryd.underlying90
  have HB := Aside0.mk (Below.refl w.heap.size w)
  have H : ((impl_at.f k a1_0 a1_1 a1_2).bind fun bt198 => (if bt198.2.2.2 = true then ((impl_onCurve_spatial.f bt198.1 bt198.2.1 bt198.2.2.1).bind fun bt203 => ((impl_spatial_times.f bt203.1 bt203.2.1 bt203.2.2 a0).bind fun bt206 => ((impl_spatial_point.f k bt206.1 bt206.2.1 bt206.2.2).bind fun bt209 => (some (bt209.1, bt209.2.1, bt209.2.2))))) else (some (0, 0, true)))) = some (r1, r2, r3) := h
  clear h
  obtain ⟨tG0, frG0, hb_⟩ := G_0 hG
  have BK80 := Aside0.mk hb_
  clear hb_
  have HG := Aside0.mk hG
  clear hG
  replace H := Option.bind_eq_some_iff.mp H
  obtain ⟨⟨t198, t199, t200, t201⟩, A30, H⟩ := H
  replace H : (if t201 = true then ((impl_onCurve_spatial.f t198 t199 t200).bind fun bt203 => ((impl_spatial_times.f bt203.1 bt203.2.1 bt203.2.2 a0).bind fun bt206 => ((impl_spatial_point.f k bt206.1 bt206.2.1 bt206.2.2).bind fun bt209 => (some (bt209.1, bt209.2.1, bt209.2.2))))) else (some (0, 0, true))) = some (r1, r2, r3) := H
  have A3 := Aside0.mk A30
  clear A30
  by_cases c4 : t201 = true
  · subst c4
    have H1 : ((impl_onCurve_spatial.f t198 t199 t200).bind fun bt203 => ((impl_spatial_times.f bt203.1 bt203.2.1 bt203.2.2 a0).bind fun bt206 => ((impl_spatial_point.f k bt206.1 bt206.2.1 bt206.2.2).bind fun bt209 => (some (bt209.1, bt209.2.1, bt209.2.2))))) = some (r1, r2, r3) := by rw [if_pos rfl] at H; exact H
    clear H
    have H := H1
    clear H1
    replace H := Option.bind_eq_some_iff.mp H
    obtain ⟨⟨t203, t204, t205⟩, A50, H⟩ := H
    replace H : ((impl_spatial_times.f t203 t204 t205 a0).bind fun bt206 => ((impl_spatial_point.f k bt206.1 bt206.2.1 bt206.2.2).bind fun bt209 => (some (bt209.1, bt209.2.1, bt209.2.2)))) = some (r1, r2, r3) := H
    have A5 := Aside0.mk A50
    clear A50
    replace H := Option.bind_eq_some_iff.mp H
    obtain ⟨⟨t206, t207, t208⟩, A60, H⟩ := H
    replace H : ((impl_spatial_point.f k t206 t207 t208).bind fun bt209 => (some (bt209.1, bt209.2.1, bt209.2.2))) = some (r1, r2, r3) := H
    have A6 := Aside0.mk A60
    clear A60
    replace H := Option.bind_eq_some_iff.mp H
    obtain ⟨⟨t209, t210, t211⟩, A70, H⟩ := H
    replace H : (some (t209, t210, t211)) = some (r1, r2, r3) := H
    have A7 := Aside0.mk A70
    clear A70
    simp only [Option.some.injEq, Prod.mk.injEq] at H
    obtain ⟨rfl, rfl, rfl⟩ := H
    go_enter Tryd.func16, Tryd.ntmps16
    go_wp2_with (first | ((with_reducible refine gate_dst (N := 3) rfl ?_); refine box_event ?hg (N := 3) ?hd (cs := #[.int .u64 a1_0, .int .u64 a1_1, .bool a1_2]) (t := 25) ?hr ?_; (case hd => rfl); (case hg => rfl); (case hr => first | (go_simp; done) | (go_simp; rfl)); intro gb196 hg w8 hbox hb; have n0_ := Aside0.mk (blk_below (g := 0) (o := .cells #[.int .u64 0, .int .u64 0, .bool true] tG0 frG0) (by (with_reducible repeat (first | refine blk_drewN ?_ _ | refine blk_drew ?_ | refine blk_alloc ?_ _)); exact BK80.out) hb); have n1_ := Aside0.mk (below_step (by repeat (first | (with_reducible first | exact HB.out | apply below_alloc | apply pw_below_drewN | apply below_drew1 | refine below_set ?_ GE80.out) | exact HB.out)) hb); have n2_ := Aside0.mk (hbox); have n3_ := Aside0.mk ((by rw [hg]; exact (below_size (by repeat (first | (with_reducible first | exact HB.out | apply below_alloc | apply pw_below_drewN | apply below_drew1 | refine below_set ?_ GE80.out) | exact HB.out))) : w.heap.size ≤ gb196)); have n4_ := Aside0.mk ((by rw [hg]; exact (below_size (by repeat (first | (with_reducible first | exact HB.out | apply below_alloc | apply pw_below_drewN | apply below_drew1 | refine below_set ?_ GE80.out) | exact HB.out))) : w.heap.size ≤ gb196)); have n5_ := Aside0.mk ((by rw [hg]; exact Nat.ne_of_lt (blk_lt (g := 0) (o := .cells #[.int .u64 0, .int .u64 0, .bool true] tG0 frG0) (by (with_reducible repeat (first | refine blk_drewN ?_ _ | refine blk_drew ?_ | refine blk_alloc ?_ _)); exact BK80.out)) : 0 ≠ gb196)); have n6_ := Aside0.mk ((by rw [hg]; exact Nat.ne_of_gt (blk_lt (g := 0) (o := .cells #[.int .u64 0, .int .u64 0, .bool true] tG0 frG0) (by (with_reducible repeat (first | refine blk_drewN ?_ _ | refine blk_drew ?_ | refine blk_alloc ?_ _)); exact BK80.out)) : gb196 ≠ 0)); clear BK80; clear HB; have BK80 := n0_; have HB := n1_; have BK196 := n2_; have GW196 := n3_; have GE196 := n4_; have NB80_196 := n5_; have NB196_80 := n6_; clear n0_ n1_ n2_ n3_ n4_ n5_ n6_; clear hb hbox hg) | ((with_reducible refine gate_dst (N := 4) rfl ?_); refine box_event ?hg (N := 4) ?hd (cs := #[.int .u64 0, .int .u64 0, .bool false]) (t := 25) ?hr ?_; (case hd => rfl); (case hg => rfl); (case hr => first | (go_simp; done) | (go_simp; rfl)); intro gb197 hg w9 hbox hb; have n0_ := Aside0.mk (blk_below (g := 0) (o := .cells #[.int .u64 0, .int .u64 0, .bool true] tG0 frG0) (by (with_reducible repeat (first | refine blk_drewN ?_ _ | refine blk_drew ?_ | refine blk_alloc ?_ _)); exact BK80.out) hb); have n1_ := Aside0.mk (blk_below (g := gb196) (o := .cells #[.int .u64 a1_0, .int .u64 a1_1, .bool a1_2] 25 (0, 0)) (by (with_reducible repeat (first | refine blk_drewN ?_ _ | refine blk_drew ?_ | refine blk_alloc ?_ _)); exact BK196.out) hb); have n2_ := Aside0.mk (below_step (by repeat (first | (with_reducible first | exact HB.out | apply below_alloc | apply pw_below_drewN | apply below_drew1 | refine below_set ?_ GE80.out | refine below_set ?_ GE196.out) | exact HB.out)) hb); have n3_ := Aside0.mk (hbox); have n4_ := Aside0.mk ((by rw [hg]; exact (below_size (by repeat (first | (with_reducible first | exact HB.out | apply below_alloc | apply pw_below_drewN | apply below_drew1 | refine below_set ?_ GE80.out | refine below_set ?_ GE196.out) | exact HB.out))) : w.heap.size ≤ gb197)); have n5_ := Aside0.mk ((by rw [hg]; exact (below_size (by repeat (first | (with_reducible first | exact HB.out | apply below_alloc | apply pw_below_drewN | apply below_drew1 | refine below_set ?_ GE80.out | refine below_set ?_ GE196.out) | exact HB.out))) : w.heap.size ≤ gb197)); have n6_ := Aside0.mk ((by rw [hg]; exact Nat.ne_of_lt (blk_lt (g := 0) (o := .cells #[.int .u64 0, .int .u64 0, .bool true] tG0 frG0) (by (with_reducible repeat (first | refine blk_drewN ?_ _ | refine blk_drew ?_ | refine blk_alloc ?_ _)); exact BK80.out)) : 0 ≠ gb197)); have n7_ := Aside0.mk ((by rw [hg]; exact Nat.ne_of_gt (blk_lt (g := 0) (o := .cells #[.int .u64 0, .int .u64 0, .bool true] tG0 frG0) (by (with_reducible repeat (first | refine blk_drewN ?_ _ | refine blk_drew ?_ | refine blk_alloc ?_ _)); exact BK80.out)) : gb197 ≠ 0)); have n8_ := Aside0.mk ((by rw [hg]; exact Nat.ne_of_lt (blk_lt (g := gb196) (o := .cells #[.int .u64 a1_0, .int .u64 a1_1, .bool a1_2] 25 (0, 0)) (by (with_reducible repeat (first | refine blk_drewN ?_ _ | refine blk_drew ?_ | refine blk_alloc ?_ _)); exact BK196.out)) : gb196 ≠ gb197)); have n9_ := Aside0.mk ((by rw [hg]; exact Nat.ne_of_gt (blk_lt (g := gb196) (o := .cells #[.int .u64 a1_0, .int .u64 a1_1, .bool a1_2] 25 (0, 0)) (by (with_reducible repeat (first | refine blk_drewN ?_ _ | refine blk_drew ?_ | refine blk_alloc ?_ _)); exact BK196.out)) : gb197 ≠ gb196)); clear BK80; clear BK196; clear HB; have BK80 := n0_; have BK196 := n1_; have HB := n2_; have BK197 := n3_; have GW197 := n4_; have GE197 := n5_; have NB80_197 := n6_; have NB197_80 := n7_; have NB196_197 := n8_; have NB197_196 := n9_; clear n0_ n1_ n2_ n3_ n4_ n5_ n6_ n7_ n8_ n9_; clear hb hbox hg; have hnb10 := NB196_80.out; have hnc10 := NB80_196.out; have hnb11 := NB196_197.out; have hnc11 := NB197_196.out; have hcz12_0 : w9.cell? ⟨gb196, 0, none⟩ = some (.int .u64 a1_0) := (blk_cell BK196.out 0).trans rfl; have hcz12_1 : w9.cell? ⟨gb196, 1, none⟩ = some (.int .u64 a1_1) := (blk_cell BK196.out 1).trans rfl; have hcz12_2 : w9.cell? ⟨gb196, 2, none⟩ = some (.bool a1_2) := (blk_cell BK196.out 2).trans rfl; have hfz12_0 := blk_frozen BK196.out 0; have hfz12_1 := blk_frozen BK196.out 1; have hfz12_2 := blk_frozen BK196.out 2) | ((with_reducible refine gate_callee (f := 57) rfl ?_); refine goesL_ (some 9) rfl rfl Tryd.func57 (by kernel_rfl) rfl #[.agg #[.int .u64 a1_0, .int .u64 a1_1, .bool a1_2]] rfl (by (try simp only [List.map_toArray, List.map_cons, List.map_nil]); first | done | rfl | (simp only [List.length_drop, List.length_take]; rfl)) ?_; (with_reducible refine (impl_at.calls k a1_0 a1_1 a1_2 t198 t199 t200 true _ (G_below (by repeat (first | (with_reducible first | exact HB.out | apply below_alloc | apply pw_below_drewN | apply below_drew1 | refine below_set ?_ GE80.out | refine below_set ?_ GE196.out | refine below_set ?_ GE197.out) | exact HB.out)) HG.out) A3.out).mono ?_); rintro e w13 ⟨rfl, hb⟩; refine ⟨_, rfl, ?_⟩; have n0_ := Aside0.mk (blk_below (g := 0) (o := .cells #[.int .u64 0, .int .u64 0, .bool true] tG0 frG0) (by (with_reducible repeat (first | refine blk_drewN ?_ _ | refine blk_drew ?_ | refine blk_alloc ?_ _)); exact BK80.out) hb); have n1_ := Aside0.mk (blk_below (g := gb196) (o := .cells #[.int .u64 a1_0, .int .u64 a1_1, .bool a1_2] 25 (0, 0)) (by (with_reducible repeat (first | refine blk_drewN ?_ _ | refine blk_drew ?_ | refine blk_alloc ?_ _)); exact BK196.out) hb); have n2_ := Aside0.mk (blk_below (g := gb197) (o := .cells #[.int .u64 0, .int .u64 0, .bool false] 25 (0, 0)) (by (with_reducible repeat (first | refine blk_drewN ?_ _ | refine blk_drew ?_ | refine blk_alloc ?_ _)); exact BK197.out) hb); have n3_ := Aside0.mk (below_step (by repeat (first | (with_reducible first | exact HB.out | apply below_alloc | apply pw_below_drewN | apply below_drew1 | refine below_set ?_ GE80.out | refine below_set ?_ GE196.out | refine below_set ?_ GE197.out) | exact HB.out)) hb); clear BK80; clear BK196; clear BK197; clear HB; have BK80 := n0_; have BK196 := n1_; have BK197 := n2_; have HB := n3_; clear n0_ n1_ n2_ n3_; (try clear hb); (try clear hb2); (try clear hk); (try clear hi)) | ((with_reducible refine gate_dst (N := 5) rfl ?_); refine box_event ?hg (N := 5) ?hd (cs := #[.int .u64 0, .int .u64 0, .bool false]) (t := 90) ?hr ?_; (case hd => rfl); (case hg => rfl); (case hr => first | (go_simp; done) | (go_simp; rfl)); intro gb202 hg w14 hbox hb; have n0_ := Aside0.mk (blk_below (g := 0) (o := .cells #[.int .u64 0, .int .u64 0, .bool true] tG0 frG0) (by (with_reducible repeat (first | refine blk_drewN ?_ _ | refine blk_drew ?_ | refine blk_alloc ?_ _)); exact BK80.out) hb); have n1_ := Aside0.mk (blk_below (g := gb196) (o := .cells #[.int .u64 a1_0, .int .u64 a1_1, .bool a1_2] 25 (0, 0)) (by (with_reducible repeat (first | refine blk_drewN ?_ _ | refine blk_drew ?_ | refine blk_alloc ?_ _)); exact BK196.out) hb); have n2_ := Aside0.mk (blk_below (g := gb197) (o := .cells #[.int .u64 0, .int .u64 0, .bool false] 25 (0, 0)) (by (with_reducible repeat (first | refine blk_drewN ?_ _ | refine blk_drew ?_ | refine blk_alloc ?_ _)); exact BK197.out) hb); have n3_ := Aside0.mk (below_step (by repeat (first | (with_reducible first | exact HB.out | apply below_alloc | apply pw_below_drewN | apply below_drew1 | refine below_set ?_ GE80.out | refine below_set ?_ GE196.out | refine below_set ?_ GE197.out) | exact HB.out)) hb); have n4_ := Aside0.mk (hbox); have n5_ := Aside0.mk ((by rw [hg]; exact (below_size (by repeat (first | (with_reducible first | exact HB.out | apply below_alloc | apply pw_below_drewN | apply below_drew1 | refine below_set ?_ GE80.out | refine below_set ?_ GE196.out | refine below_set ?_ GE197.out) | exact HB.out))) : w.heap.size ≤ gb202)); have n6_ := Aside0.mk ((by rw [hg]; exact (below_size (by repeat (first | (with_reducible first | exact HB.out | apply below_alloc | apply pw_below_drewN | apply below_drew1 | refine below_set ?_ GE80.out | refine below_set ?_ GE196.out | refine below_set ?_ GE197.out) | exact HB.out))) : w.heap.size ≤ gb202)); have n7_ := Aside0.mk ((by rw [hg]; exact Nat.ne_of_lt (blk_lt (g := 0) (o := .cells #[.int .u64 0, .int .u64 0, .bool true] tG0 frG0) (by (with_reducible repeat (first | refine blk_drewN ?_ _ | refine blk_drew ?_ | refine blk_alloc ?_ _)); exact BK80.out)) : 0 ≠ gb202)); have n8_ := Aside0.mk ((by rw [hg]; exact Nat.ne_of_gt (blk_lt (g := 0) (o := .cells #[.int .u64 0, .int .u64 0, .bool true] tG0 frG0) (by (with_reducible repeat (first | refine blk_drewN ?_ _ | refine blk_drew ?_ | refine blk_alloc ?_ _)); exact BK80.out)) : gb202 ≠ 0)); have n9_ := Aside0.mk ((by rw [hg]; exact Nat.ne_of_lt (blk_lt (g := gb196) (o := .cells #[.int .u64 a1_0, .int .u64 a1_1, .bool a1_2] 25 (0, 0)) (by (with_reducible repeat (first | refine blk_drewN ?_ _ | refine blk_drew ?_ | refine blk_alloc ?_ _)); exact BK196.out)) : gb196 ≠ gb202)); have n10_ := Aside0.mk ((by rw [hg]; exact Nat.ne_of_gt (blk_lt (g := gb196) (o := .cells #[.int .u64 a1_0, .int .u64 a1_1, .bool a1_2] 25 (0, 0)) (by (with_reducible repeat (first | refine blk_drewN ?_ _ | refine blk_drew ?_ | refine blk_alloc ?_ _)); exact BK196.out)) : gb202 ≠ gb196)); have n11_ := Aside0.mk ((by rw [hg]; exact Nat.ne_of_lt (blk_lt (g := gb197) (o := .cells #[.int .u64 0, .int .u64 0, .bool false] 25 (0, 0)) (by (with_reducible repeat (first | refine blk_drewN ?_ _ | refine blk_drew ?_ | refine blk_alloc ?_ _)); exact BK197.out)) : gb197 ≠ gb202)); have n12_ := Aside0.mk ((by rw [hg]; exact Nat.ne_of_gt (blk_lt (g := gb197) (o := .cells #[.int .u64 0, .int .u64 0, .bool false] 25 (0, 0)) (by (with_reducible repeat (first | refine blk_drewN ?_ _ | refine blk_drew ?_ | refine blk_alloc ?_ _)); exact BK197.out)) : gb202 ≠ gb197)); clear BK80; clear BK196; clear BK197; clear HB; have BK80 := n0_; have BK196 := n1_; have BK197 := n2_; have HB := n3_; have BK202 := n4_; have GW202 := n5_; have GE202 := n6_; have NB80_202 := n7_; have NB202_80 := n8_; have NB196_202 := n9_; have NB202_196 := n10_; have NB197_202 := n11_; have NB202_197 := n12_; clear n0_ n1_ n2_ n3_ n4_ n5_ n6_ n7_ n8_ n9_ n10_ n11_ n12_; clear hb hbox hg; have hnb15 := NB202_80.out; have hnc15 := NB80_202.out; have hnb16 := NB202_196.out; have hnc16 := NB196_202.out; have hnb17 := NB202_197.out; have hnc17 := NB197_202.out; have hcz18_0 : w14.cell? ⟨gb202, 0, none⟩ = some (.int .u64 0) := (blk_cell BK202.out 0).trans rfl; have hcz18_1 : w14.cell? ⟨gb202, 1, none⟩ = some (.int .u64 0) := (blk_cell BK202.out 1).trans rfl; have hcz18_2 : w14.cell? ⟨gb202, 2, none⟩ = some (.bool false) := (blk_cell BK202.out 2).trans rfl; have hfz18_0 := blk_frozen BK202.out 0; have hfz18_1 := blk_frozen BK202.out 1; have hfz18_2 := blk_frozen BK202.out 2) | ((with_reducible refine gate_callee (f := 58) rfl ?_); refine goesL_ (some 16) rfl rfl Tryd.func58 (by kernel_rfl) rfl #[.agg #[.int .u64 t198, .int .u64 t199, .bool t200]] rfl (by (try simp only [List.map_toArray, List.map_cons, List.map_nil]); first | done | rfl | (simp only [List.length_drop, List.length_take]; rfl)) ?_; (with_reducible refine (impl_onCurve_spatial.calls t198 t199 t200 t203 t204 t205 _ A5.out).mono ?_); rintro e w19 ⟨rfl, hb⟩; refine ⟨_, rfl, ?_⟩; have n0_ := Aside0.mk (blk_below (g := 0) (o := .cells #[.int .u64 0, .int .u64 0, .bool true] tG0 frG0) (by (with_reducible repeat (first | refine blk_drewN ?_ _ | refine blk_drew ?_ | refine blk_alloc ?_ _)); refine blk_farG ?_ NB80_202.out _; (with_reducible repeat (first | refine blk_drewN ?_ _ | refine blk_drew ?_ | refine blk_alloc ?_ _)); refine blk_farG ?_ NB80_202.out _; (with_reducible repeat (first | refine blk_drewN ?_ _ | refine blk_drew ?_ | refine blk_alloc ?_ _)); refine blk_farG ?_ NB80_202.out _; (with_reducible repeat (first | refine blk_drewN ?_ _ | refine blk_drew ?_ | refine blk_alloc ?_ _)); exact BK80.out) hb); have n1_ := Aside0.mk (blk_below (g := gb196) (o := .cells #[.int .u64 a1_0, .int .u64 a1_1, .bool a1_2] 25 (0, 0)) (by (with_reducible repeat (first | refine blk_drewN ?_ _ | refine blk_drew ?_ | refine blk_alloc ?_ _)); refine blk_far ?_ NB196_202.out _; (with_reducible repeat (first | refine blk_drewN ?_ _ | refine blk_drew ?_ | refine blk_alloc ?_ _)); refine blk_far ?_ NB196_202.out _; (with_reducible repeat (first | refine blk_drewN ?_ _ | refine blk_drew ?_ | refine blk_alloc ?_ _)); refine blk_far ?_ NB196_202.out _; (with_reducible repeat (first | refine blk_drewN ?_ _ | refine blk_drew ?_ | refine blk_alloc ?_ _)); exact BK196.out) hb); have n2_ := Aside0.mk (blk_below (g := gb197) (o := .cells #[.int .u64 0, .int .u64 0, .bool false] 25 (0, 0)) (by (with_reducible repeat (first | refine blk_drewN ?_ _ | refine blk_drew ?_ | refine blk_alloc ?_ _)); refine blk_far ?_ NB197_202.out _; (with_reducible repeat (first | refine blk_drewN ?_ _ | refine blk_drew ?_ | refine blk_alloc ?_ _)); refine blk_far ?_ NB197_202.out _; (with_reducible repeat (first | refine blk_drewN ?_ _ | refine blk_drew ?_ | refine blk_alloc ?_ _)); refine blk_far ?_ NB197_202.out _; (with_reducible repeat (first | refine blk_drewN ?_ _ | refine blk_drew ?_ | refine blk_alloc ?_ _)); exact BK197.out) hb); have n3_ := Aside0.mk (blk_below (g := gb202) (o := .cells #[.int .u64 t198, .int .u64 t199, .bool t200] 90 (0, 0)) (by (with_reducible repeat (first | refine blk_drewN ?_ _ | refine blk_drew ?_ | refine blk_alloc ?_ _)); refine blk_put (cs := #[.int .u64 t198, .int .u64 t199, .bool false]) ?_ 2 _ rfl; (with_reducible repeat (first | refine blk_drewN ?_ _ | refine blk_drew ?_ | refine blk_alloc ?_ _)); refine blk_put (cs := #[.int .u64 t198, .int .u64 0, .bool false]) ?_ 1 _ rfl; (with_reducible repeat (first | refine blk_drewN ?_ _ | refine blk_drew ?_ | refine blk_alloc ?_ _)); refine blk_put (cs := #[.int .u64 0, .int .u64 0, .bool false]) ?_ 0 _ rfl; (with_reducible repeat (first | refine blk_drewN ?_ _ | refine blk_drew ?_ | refine blk_alloc ?_ _)); exact BK202.out) hb); have n4_ := Aside0.mk (below_step (by repeat (first | (with_reducible first | exact HB.out | apply below_alloc | apply pw_below_drewN | apply below_drew1 | refine below_set ?_ GE80.out | refine below_set ?_ GE196.out | refine below_set ?_ GE197.out | refine below_set ?_ GE202.out) | exact HB.out)) hb); clear BK80; clear BK196; clear BK197; clear BK202; clear HB; have BK80 := n0_; have BK196 := n1_; have BK197 := n2_; have BK202 := n3_; have HB := n4_; clear n0_ n1_ n2_ n3_ n4_; (try clear hb); (try clear hb2); (try clear hk); (try clear hi)) | ((with_reducible refine gate_callee (f := 63) rfl ?_); refine goesL_ (some 18) rfl rfl Tryd.func63 (by kernel_rfl) rfl #[.agg #[.int .u64 t203, .int .u64 t204, .int .u64 t205], .int .u64 a0] rfl (by (try simp only [List.map_toArray, List.map_cons, List.map_nil]); first | done | rfl | (simp only [List.length_drop, List.length_take]; rfl)) ?_; (with_reducible refine (impl_spatial_times.calls t203 t204 t205 a0 t206 t207 t208 _ (G_below (by repeat (first | (with_reducible first | exact HB.out | apply below_alloc | apply pw_below_drewN | apply below_drew1 | refine below_set ?_ GE80.out | refine below_set ?_ GE196.out | refine below_set ?_ GE197.out | refine below_set ?_ GE202.out) | exact HB.out)) HG.out) A6.out).mono ?_); rintro e w20 ⟨rfl, hb⟩; refine ⟨_, rfl, ?_⟩; have n0_ := Aside0.mk (blk_below (g := 0) (o := .cells #[.int .u64 0, .int .u64 0, .bool true] tG0 frG0) (by (with_reducible repeat (first | refine blk_drewN ?_ _ | refine blk_drew ?_ | refine blk_alloc ?_ _)); exact BK80.out) hb); have n1_ := Aside0.mk (blk_below (g := gb196) (o := .cells #[.int .u64 a1_0, .int .u64 a1_1, .bool a1_2] 25 (0, 0)) (by (with_reducible repeat (first | refine blk_drewN ?_ _ | refine blk_drew ?_ | refine blk_alloc ?_ _)); exact BK196.out) hb); have n2_ := Aside0.mk (blk_below (g := gb197) (o := .cells #[.int .u64 0, .int .u64 0, .bool false] 25 (0, 0)) (by (with_reducible repeat (first | refine blk_drewN ?_ _ | refine blk_drew ?_ | refine blk_alloc ?_ _)); exact BK197.out) hb); have n3_ := Aside0.mk (blk_below (g := gb202) (o := .cells #[.int .u64 t198, .int .u64 t199, .bool t200] 90 (0, 0)) (by (with_reducible repeat (first | refine blk_drewN ?_ _ | refine blk_drew ?_ | refine blk_alloc ?_ _)); exact BK202.out) hb); have n4_ := Aside0.mk (below_step (by repeat (first | (with_reducible first | exact HB.out | apply below_alloc | apply pw_below_drewN | apply below_drew1 | refine below_set ?_ GE80.out | refine below_set ?_ GE196.out | refine below_set ?_ GE197.out | refine below_set ?_ GE202.out) | exact HB.out)) hb); clear BK80; clear BK196; clear BK197; clear BK202; clear HB; have BK80 := n0_; have BK196 := n1_; have BK197 := n2_; have BK202 := n3_; have HB := n4_; clear n0_ n1_ n2_ n3_ n4_; (try clear hb); (try clear hb2); (try clear hk); (try clear hi)) | ((with_reducible refine gate_callee (f := 60) rfl ?_); refine goesL_ (some 19) rfl rfl Tryd.func60 (by kernel_rfl) rfl #[.agg #[.int .u64 t206, .int .u64 t207, .int .u64 t208]] rfl (by (try simp only [List.map_toArray, List.map_cons, List.map_nil]); first | done | rfl | (simp only [List.length_drop, List.length_take]; rfl)) ?_; (with_reducible refine (impl_spatial_point.calls k t206 t207 t208 t209 t210 t211 _ (G_below (by repeat (first | (with_reducible first | exact HB.out | apply below_alloc | apply pw_below_drewN | apply below_drew1 | refine below_set ?_ GE80.out | refine below_set ?_ GE196.out | refine below_set ?_ GE197.out | refine below_set ?_ GE202.out) | exact HB.out)) HG.out) A7.out).mono ?_); rintro e w21 ⟨rfl, hb⟩; refine ⟨_, rfl, ?_⟩; have n0_ := Aside0.mk (blk_below (g := 0) (o := .cells #[.int .u64 0, .int .u64 0, .bool true] tG0 frG0) (by (with_reducible repeat (first | refine blk_drewN ?_ _ | refine blk_drew ?_ | refine blk_alloc ?_ _)); exact BK80.out) hb); have n1_ := Aside0.mk (blk_below (g := gb196) (o := .cells #[.int .u64 a1_0, .int .u64 a1_1, .bool a1_2] 25 (0, 0)) (by (with_reducible repeat (first | refine blk_drewN ?_ _ | refine blk_drew ?_ | refine blk_alloc ?_ _)); exact BK196.out) hb); have n2_ := Aside0.mk (blk_below (g := gb197) (o := .cells #[.int .u64 0, .int .u64 0, .bool false] 25 (0, 0)) (by (with_reducible repeat (first | refine blk_drewN ?_ _ | refine blk_drew ?_ | refine blk_alloc ?_ _)); exact BK197.out) hb); have n3_ := Aside0.mk (blk_below (g := gb202) (o := .cells #[.int .u64 t198, .int .u64 t199, .bool t200] 90 (0, 0)) (by (with_reducible repeat (first | refine blk_drewN ?_ _ | refine blk_drew ?_ | refine blk_alloc ?_ _)); exact BK202.out) hb); have n4_ := Aside0.mk (below_step (by repeat (first | (with_reducible first | exact HB.out | apply below_alloc | apply pw_below_drewN | apply below_drew1 | refine below_set ?_ GE80.out | refine below_set ?_ GE196.out | refine below_set ?_ GE197.out | refine below_set ?_ GE202.out) | exact HB.out)) hb); clear BK80; clear BK196; clear BK197; clear BK202; clear HB; have BK80 := n0_; have BK196 := n1_; have BK197 := n2_; have BK202 := n3_; have HB := n4_; clear n0_ n1_ n2_ n3_ n4_; (try clear hb); (try clear hb2); (try clear hk); (try clear hi); have hnb22 := NB197_80.out; have hnc22 := NB80_197.out; have hcz23_0 : w21.cell? ⟨gb197, 0, none⟩ = some (.int .u64 0) := (blk_cell BK197.out 0).trans rfl; have hcz23_1 : w21.cell? ⟨gb197, 1, none⟩ = some (.int .u64 0) := (blk_cell BK197.out 1).trans rfl; have hcz23_2 : w21.cell? ⟨gb197, 2, none⟩ = some (.bool false) := (blk_cell BK197.out 2).trans rfl; have hfz23_0 := blk_frozen BK197.out 0; have hfz23_1 := blk_frozen BK197.out 1; have hfz23_2 := blk_frozen BK197.out 2))
    refine bodyPost_ret (results_cell_row rfl _ _ gb197 25 #[.int .u64 t209, .int .u64 t210, .bool t211] (0, 0) _ rfl (by (with_reducible repeat (first | refine blk_drewN ?_ _ | refine blk_drew ?_ | refine blk_alloc ?_ _)); refine blk_put (cs := #[.int .u64 t209, .int .u64 t210, .bool false]) ?_ 2 _ rfl; (with_reducible repeat (first | refine blk_drewN ?_ _ | refine blk_drew ?_ | refine blk_alloc ?_ _)); refine blk_put (cs := #[.int .u64 t209, .int .u64 0, .bool false]) ?_ 1 _ rfl; (with_reducible repeat (first | refine blk_drewN ?_ _ | refine blk_drew ?_ | refine blk_alloc ?_ _)); refine blk_put (cs := #[.int .u64 0, .int .u64 0, .bool false]) ?_ 0 _ rfl; (with_reducible repeat (first | refine blk_drewN ?_ _ | refine blk_drew ?_ | refine blk_alloc ?_ _)); exact BK197.out) Tryd.underlying25 rfl (by kernel_rfl)) rfl ?_
    exact ⟨by first | rfl | (simp [errW_none, errW_some] <;> rfl) | (simp [*, errW_none, errW_some] <;> rfl), by repeat (first | (with_reducible first | exact HB.out | apply below_alloc | apply pw_below_drewN | apply below_drew1 | refine below_set ?_ GE80.out | refine below_set ?_ GE196.out | refine below_set ?_ GE197.out | refine below_set ?_ GE202.out) | exact HB.out)⟩
  · replace c4 := Bool.eq_false_iff.mpr c4
    subst c4
    have H1 : (some (0, 0, true)) = some (r1, r2, r3) := by rw [if_neg (show ¬ (false = true) by decide)] at H; exact H
    clear H
    have H := H1
    clear H1
    simp only [Option.some.injEq, Prod.mk.injEq] at H
    obtain ⟨rfl, rfl, rfl⟩ := H
    go_enter Tryd.func16, Tryd.ntmps16
    go_wp2_with (first | ((with_reducible refine gate_dst (N := 3) rfl ?_); refine box_event ?hg (N := 3) ?hd (cs := #[.int .u64 a1_0, .int .u64 a1_1, .bool a1_2]) (t := 25) ?hr ?_; (case hd => rfl); (case hg => rfl); (case hr => first | (go_simp; done) | (go_simp; rfl)); intro gb196 hg w24 hbox hb; have n0_ := Aside0.mk (blk_below (g := 0) (o := .cells #[.int .u64 0, .int .u64 0, .bool true] tG0 frG0) (by (with_reducible repeat (first | refine blk_drewN ?_ _ | refine blk_drew ?_ | refine blk_alloc ?_ _)); exact BK80.out) hb); have n1_ := Aside0.mk (below_step (by repeat (first | (with_reducible first | exact HB.out | apply below_alloc | apply pw_below_drewN | apply below_drew1 | refine below_set ?_ GE80.out) | exact HB.out)) hb); have n2_ := Aside0.mk (hbox); have n3_ := Aside0.mk ((by rw [hg]; exact (below_size (by repeat (first | (with_reducible first | exact HB.out | apply below_alloc | apply pw_below_drewN | apply below_drew1 | refine below_set ?_ GE80.out) | exact HB.out))) : w.heap.size ≤ gb196)); have n4_ := Aside0.mk ((by rw [hg]; exact (below_size (by repeat (first | (with_reducible first | exact HB.out | apply below_alloc | apply pw_below_drewN | apply below_drew1 | refine below_set ?_ GE80.out) | exact HB.out))) : w.heap.size ≤ gb196)); have n5_ := Aside0.mk ((by rw [hg]; exact Nat.ne_of_lt (blk_lt (g := 0) (o := .cells #[.int .u64 0, .int .u64 0, .bool true] tG0 frG0) (by (with_reducible repeat (first | refine blk_drewN ?_ _ | refine blk_drew ?_ | refine blk_alloc ?_ _)); exact BK80.out)) : 0 ≠ gb196)); have n6_ := Aside0.mk ((by rw [hg]; exact Nat.ne_of_gt (blk_lt (g := 0) (o := .cells #[.int .u64 0, .int .u64 0, .bool true] tG0 frG0) (by (with_reducible repeat (first | refine blk_drewN ?_ _ | refine blk_drew ?_ | refine blk_alloc ?_ _)); exact BK80.out)) : gb196 ≠ 0)); clear BK80; clear HB; have BK80 := n0_; have HB := n1_; have BK196 := n2_; have GW196 := n3_; have GE196 := n4_; have NB80_196 := n5_; have NB196_80 := n6_; clear n0_ n1_ n2_ n3_ n4_ n5_ n6_; clear hb hbox hg) | ((with_reducible refine gate_dst (N := 4) rfl ?_); refine box_event ?hg (N := 4) ?hd (cs := #[.int .u64 0, .int .u64 0, .bool false]) (t := 25) ?hr ?_; (case hd => rfl); (case hg => rfl); (case hr => first | (go_simp; done) | (go_simp; rfl)); intro gb197 hg w25 hbox hb; have n0_ := Aside0.mk (blk_below (g := 0) (o := .cells #[.int .u64 0, .int .u64 0, .bool true] tG0 frG0) (by (with_reducible repeat (first | refine blk_drewN ?_ _ | refine blk_drew ?_ | refine blk_alloc ?_ _)); exact BK80.out) hb); have n1_ := Aside0.mk (blk_below (g := gb196) (o := .cells #[.int .u64 a1_0, .int .u64 a1_1, .bool a1_2] 25 (0, 0)) (by (with_reducible repeat (first | refine blk_drewN ?_ _ | refine blk_drew ?_ | refine blk_alloc ?_ _)); exact BK196.out) hb); have n2_ := Aside0.mk (below_step (by repeat (first | (with_reducible first | exact HB.out | apply below_alloc | apply pw_below_drewN | apply below_drew1 | refine below_set ?_ GE80.out | refine below_set ?_ GE196.out) | exact HB.out)) hb); have n3_ := Aside0.mk (hbox); have n4_ := Aside0.mk ((by rw [hg]; exact (below_size (by repeat (first | (with_reducible first | exact HB.out | apply below_alloc | apply pw_below_drewN | apply below_drew1 | refine below_set ?_ GE80.out | refine below_set ?_ GE196.out) | exact HB.out))) : w.heap.size ≤ gb197)); have n5_ := Aside0.mk ((by rw [hg]; exact (below_size (by repeat (first | (with_reducible first | exact HB.out | apply below_alloc | apply pw_below_drewN | apply below_drew1 | refine below_set ?_ GE80.out | refine below_set ?_ GE196.out) | exact HB.out))) : w.heap.size ≤ gb197)); have n6_ := Aside0.mk ((by rw [hg]; exact Nat.ne_of_lt (blk_lt (g := 0) (o := .cells #[.int .u64 0, .int .u64 0, .bool true] tG0 frG0) (by (with_reducible repeat (first | refine blk_drewN ?_ _ | refine blk_drew ?_ | refine blk_alloc ?_ _)); exact BK80.out)) : 0 ≠ gb197)); have n7_ := Aside0.mk ((by rw [hg]; exact Nat.ne_of_gt (blk_lt (g := 0) (o := .cells #[.int .u64 0, .int .u64 0, .bool true] tG0 frG0) (by (with_reducible repeat (first | refine blk_drewN ?_ _ | refine blk_drew ?_ | refine blk_alloc ?_ _)); exact BK80.out)) : gb197 ≠ 0)); have n8_ := Aside0.mk ((by rw [hg]; exact Nat.ne_of_lt (blk_lt (g := gb196) (o := .cells #[.int .u64 a1_0, .int .u64 a1_1, .bool a1_2] 25 (0, 0)) (by (with_reducible repeat (first | refine blk_drewN ?_ _ | refine blk_drew ?_ | refine blk_alloc ?_ _)); exact BK196.out)) : gb196 ≠ gb197)); have n9_ := Aside0.mk ((by rw [hg]; exact Nat.ne_of_gt (blk_lt (g := gb196) (o := .cells #[.int .u64 a1_0, .int .u64 a1_1, .bool a1_2] 25 (0, 0)) (by (with_reducible repeat (first | refine blk_drewN ?_ _ | refine blk_drew ?_ | refine blk_alloc ?_ _)); exact BK196.out)) : gb197 ≠ gb196)); clear BK80; clear BK196; clear HB; have BK80 := n0_; have BK196 := n1_; have HB := n2_; have BK197 := n3_; have GW197 := n4_; have GE197 := n5_; have NB80_197 := n6_; have NB197_80 := n7_; have NB196_197 := n8_; have NB197_196 := n9_; clear n0_ n1_ n2_ n3_ n4_ n5_ n6_ n7_ n8_ n9_; clear hb hbox hg; have hnb26 := NB196_80.out; have hnc26 := NB80_196.out; have hnb27 := NB196_197.out; have hnc27 := NB197_196.out; have hcz28_0 : w25.cell? ⟨gb196, 0, none⟩ = some (.int .u64 a1_0) := (blk_cell BK196.out 0).trans rfl; have hcz28_1 : w25.cell? ⟨gb196, 1, none⟩ = some (.int .u64 a1_1) := (blk_cell BK196.out 1).trans rfl; have hcz28_2 : w25.cell? ⟨gb196, 2, none⟩ = some (.bool a1_2) := (blk_cell BK196.out 2).trans rfl; have hfz28_0 := blk_frozen BK196.out 0; have hfz28_1 := blk_frozen BK196.out 1; have hfz28_2 := blk_frozen BK196.out 2) | ((with_reducible refine gate_callee (f := 57) rfl ?_); refine goesL_ (some 9) rfl rfl Tryd.func57 (by kernel_rfl) rfl #[.agg #[.int .u64 a1_0, .int .u64 a1_1, .bool a1_2]] rfl (by (try simp only [List.map_toArray, List.map_cons, List.map_nil]); first | done | rfl | (simp only [List.length_drop, List.length_take]; rfl)) ?_; (with_reducible refine (impl_at.calls k a1_0 a1_1 a1_2 t198 t199 t200 false _ (G_below (by repeat (first | (with_reducible first | exact HB.out | apply below_alloc | apply pw_below_drewN | apply below_drew1 | refine below_set ?_ GE80.out | refine below_set ?_ GE196.out | refine below_set ?_ GE197.out) | exact HB.out)) HG.out) A3.out).mono ?_); rintro e w29 ⟨rfl, hb⟩; refine ⟨_, rfl, ?_⟩; have n0_ := Aside0.mk (blk_below (g := 0) (o := .cells #[.int .u64 0, .int .u64 0, .bool true] tG0 frG0) (by (with_reducible repeat (first | refine blk_drewN ?_ _ | refine blk_drew ?_ | refine blk_alloc ?_ _)); exact BK80.out) hb); have n1_ := Aside0.mk (blk_below (g := gb196) (o := .cells #[.int .u64 a1_0, .int .u64 a1_1, .bool a1_2] 25 (0, 0)) (by (with_reducible repeat (first | refine blk_drewN ?_ _ | refine blk_drew ?_ | refine blk_alloc ?_ _)); exact BK196.out) hb); have n2_ := Aside0.mk (blk_below (g := gb197) (o := .cells #[.int .u64 0, .int .u64 0, .bool false] 25 (0, 0)) (by (with_reducible repeat (first | refine blk_drewN ?_ _ | refine blk_drew ?_ | refine blk_alloc ?_ _)); exact BK197.out) hb); have n3_ := Aside0.mk (below_step (by repeat (first | (with_reducible first | exact HB.out | apply below_alloc | apply pw_below_drewN | apply below_drew1 | refine below_set ?_ GE80.out | refine below_set ?_ GE196.out | refine below_set ?_ GE197.out) | exact HB.out)) hb); clear BK80; clear BK196; clear BK197; clear HB; have BK80 := n0_; have BK196 := n1_; have BK197 := n2_; have HB := n3_; clear n0_ n1_ n2_ n3_; (try clear hb); (try clear hb2); (try clear hk); (try clear hi)) | ((with_reducible refine gate_dst (N := 5) rfl ?_); refine box_event ?hg (N := 5) ?hd (cs := #[.int .u64 0, .int .u64 0, .bool false]) (t := 90) ?hr ?_; (case hd => rfl); (case hg => rfl); (case hr => first | (go_simp; done) | (go_simp; rfl)); intro gb202 hg w30 hbox hb; have n0_ := Aside0.mk (blk_below (g := 0) (o := .cells #[.int .u64 0, .int .u64 0, .bool true] tG0 frG0) (by (with_reducible repeat (first | refine blk_drewN ?_ _ | refine blk_drew ?_ | refine blk_alloc ?_ _)); exact BK80.out) hb); have n1_ := Aside0.mk (blk_below (g := gb196) (o := .cells #[.int .u64 a1_0, .int .u64 a1_1, .bool a1_2] 25 (0, 0)) (by (with_reducible repeat (first | refine blk_drewN ?_ _ | refine blk_drew ?_ | refine blk_alloc ?_ _)); exact BK196.out) hb); have n2_ := Aside0.mk (blk_below (g := gb197) (o := .cells #[.int .u64 0, .int .u64 0, .bool false] 25 (0, 0)) (by (with_reducible repeat (first | refine blk_drewN ?_ _ | refine blk_drew ?_ | refine blk_alloc ?_ _)); exact BK197.out) hb); have n3_ := Aside0.mk (below_step (by repeat (first | (with_reducible first | exact HB.out | apply below_alloc | apply pw_below_drewN | apply below_drew1 | refine below_set ?_ GE80.out | refine below_set ?_ GE196.out | refine below_set ?_ GE197.out) | exact HB.out)) hb); have n4_ := Aside0.mk (hbox); have n5_ := Aside0.mk ((by rw [hg]; exact (below_size (by repeat (first | (with_reducible first | exact HB.out | apply below_alloc | apply pw_below_drewN | apply below_drew1 | refine below_set ?_ GE80.out | refine below_set ?_ GE196.out | refine below_set ?_ GE197.out) | exact HB.out))) : w.heap.size ≤ gb202)); have n6_ := Aside0.mk ((by rw [hg]; exact (below_size (by repeat (first | (with_reducible first | exact HB.out | apply below_alloc | apply pw_below_drewN | apply below_drew1 | refine below_set ?_ GE80.out | refine below_set ?_ GE196.out | refine below_set ?_ GE197.out) | exact HB.out))) : w.heap.size ≤ gb202)); have n7_ := Aside0.mk ((by rw [hg]; exact Nat.ne_of_lt (blk_lt (g := 0) (o := .cells #[.int .u64 0, .int .u64 0, .bool true] tG0 frG0) (by (with_reducible repeat (first | refine blk_drewN ?_ _ | refine blk_drew ?_ | refine blk_alloc ?_ _)); exact BK80.out)) : 0 ≠ gb202)); have n8_ := Aside0.mk ((by rw [hg]; exact Nat.ne_of_gt (blk_lt (g := 0) (o := .cells #[.int .u64 0, .int .u64 0, .bool true] tG0 frG0) (by (with_reducible repeat (first | refine blk_drewN ?_ _ | refine blk_drew ?_ | refine blk_alloc ?_ _)); exact BK80.out)) : gb202 ≠ 0)); have n9_ := Aside0.mk ((by rw [hg]; exact Nat.ne_of_lt (blk_lt (g := gb196) (o := .cells #[.int .u64 a1_0, .int .u64 a1_1, .bool a1_2] 25 (0, 0)) (by (with_reducible repeat (first | refine blk_drewN ?_ _ | refine blk_drew ?_ | refine blk_alloc ?_ _)); exact BK196.out)) : gb196 ≠ gb202)); have n10_ := Aside0.mk ((by rw [hg]; exact Nat.ne_of_gt (blk_lt (g := gb196) (o := .cells #[.int .u64 a1_0, .int .u64 a1_1, .bool a1_2] 25 (0, 0)) (by (with_reducible repeat (first | refine blk_drewN ?_ _ | refine blk_drew ?_ | refine blk_alloc ?_ _)); exact BK196.out)) : gb202 ≠ gb196)); have n11_ := Aside0.mk ((by rw [hg]; exact Nat.ne_of_lt (blk_lt (g := gb197) (o := .cells #[.int .u64 0, .int .u64 0, .bool false] 25 (0, 0)) (by (with_reducible repeat (first | refine blk_drewN ?_ _ | refine blk_drew ?_ | refine blk_alloc ?_ _)); exact BK197.out)) : gb197 ≠ gb202)); have n12_ := Aside0.mk ((by rw [hg]; exact Nat.ne_of_gt (blk_lt (g := gb197) (o := .cells #[.int .u64 0, .int .u64 0, .bool false] 25 (0, 0)) (by (with_reducible repeat (first | refine blk_drewN ?_ _ | refine blk_drew ?_ | refine blk_alloc ?_ _)); exact BK197.out)) : gb202 ≠ gb197)); clear BK80; clear BK196; clear BK197; clear HB; have BK80 := n0_; have BK196 := n1_; have BK197 := n2_; have HB := n3_; have BK202 := n4_; have GW202 := n5_; have GE202 := n6_; have NB80_202 := n7_; have NB202_80 := n8_; have NB196_202 := n9_; have NB202_196 := n10_; have NB197_202 := n11_; have NB202_197 := n12_; clear n0_ n1_ n2_ n3_ n4_ n5_ n6_ n7_ n8_ n9_ n10_ n11_ n12_; clear hb hbox hg; have hnb31 := NB202_80.out; have hnc31 := NB80_202.out; have hnb32 := NB202_196.out; have hnc32 := NB196_202.out; have hnb33 := NB202_197.out; have hnc33 := NB197_202.out; have hcz34_0 : w30.cell? ⟨gb202, 0, none⟩ = some (.int .u64 0) := (blk_cell BK202.out 0).trans rfl; have hcz34_1 : w30.cell? ⟨gb202, 1, none⟩ = some (.int .u64 0) := (blk_cell BK202.out 1).trans rfl; have hcz34_2 : w30.cell? ⟨gb202, 2, none⟩ = some (.bool false) := (blk_cell BK202.out 2).trans rfl; have hfz34_0 := blk_frozen BK202.out 0; have hfz34_1 := blk_frozen BK202.out 1; have hfz34_2 := blk_frozen BK202.out 2; have hnb35 := NB80_197.out; have hnc35 := NB197_80.out; have hcz36_0 : w30.cell? ⟨0, 0, none⟩ = some (.int .u64 0) := (blk_cellG BK80.out 0).trans rfl; have hcz36_1 : w30.cell? ⟨0, 1, none⟩ = some (.int .u64 0) := (blk_cellG BK80.out 1).trans rfl; have hcz36_2 : w30.cell? ⟨0, 2, none⟩ = some (.bool true) := (blk_cellG BK80.out 2).trans rfl; have hfz36_0 := trivial; have hfz36_1 := trivial; have hfz36_2 := trivial; have hcz37_0 : w30.cell? ⟨gb197, 0, none⟩ = some (.int .u64 0) := (blk_cell BK197.out 0).trans rfl; have hcz37_1 : w30.cell? ⟨gb197, 1, none⟩ = some (.int .u64 0) := (blk_cell BK197.out 1).trans rfl; have hcz37_2 : w30.cell? ⟨gb197, 2, none⟩ = some (.bool false) := (blk_cell BK197.out 2).trans rfl; have hfz37_0 := blk_frozen BK197.out 0; have hfz37_1 := blk_frozen BK197.out 1; have hfz37_2 := blk_frozen BK197.out 2))
    refine bodyPost_ret (results_cell_row rfl _ _ gb197 25 #[.int .u64 0, .int .u64 0, .bool true] (0, 0) _ rfl (by (with_reducible repeat (first | refine blk_drewN ?_ _ | refine blk_drew ?_ | refine blk_alloc ?_ _)); refine blk_put (cs := #[.int .u64 0, .int .u64 0, .bool false]) ?_ 2 _ rfl; (with_reducible repeat (first | refine blk_drewN ?_ _ | refine blk_drew ?_ | refine blk_alloc ?_ _)); refine blk_put (cs := #[.int .u64 0, .int .u64 0, .bool false]) ?_ 1 _ rfl; (with_reducible repeat (first | refine blk_drewN ?_ _ | refine blk_drew ?_ | refine blk_alloc ?_ _)); refine blk_put (cs := #[.int .u64 0, .int .u64 0, .bool false]) ?_ 0 _ rfl; (with_reducible repeat (first | refine blk_drewN ?_ _ | refine blk_drew ?_ | refine blk_alloc ?_ _)); refine blk_far ?_ NB197_202.out _; (with_reducible repeat (first | refine blk_drewN ?_ _ | refine blk_drew ?_ | refine blk_alloc ?_ _)); refine blk_far ?_ NB197_202.out _; (with_reducible repeat (first | refine blk_drewN ?_ _ | refine blk_drew ?_ | refine blk_alloc ?_ _)); refine blk_far ?_ NB197_202.out _; (with_reducible repeat (first | refine blk_drewN ?_ _ | refine blk_drew ?_ | refine blk_alloc ?_ _)); exact BK197.out) Tryd.underlying25 rfl (by kernel_rfl)) rfl ?_
    exact ⟨by first | rfl | (simp [errW_none, errW_some] <;> rfl) | (simp [*, errW_none, errW_some] <;> rfl), by repeat (first | (with_reducible first | exact HB.out | apply below_alloc | apply pw_below_drewN | apply below_drew1 | refine below_set ?_ GE80.out | refine below_set ?_ GE196.out | refine below_set ?_ GE197.out | refine below_set ?_ GE202.out) | exact HB.out)⟩

end Go.Proofs.YtoejhekppfgmpaaDoor.F
end
