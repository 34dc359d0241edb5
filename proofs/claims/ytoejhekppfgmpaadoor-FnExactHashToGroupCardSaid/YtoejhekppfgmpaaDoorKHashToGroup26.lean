/- What the proof of FnExactHashToGroup leans on, part 26: cut out of the texts of this claim's making by a program (wip/tools/pack.py). -/
import Derived.Test.YtoejhekppfgmpaaDoorKHashToGroup0
import Derived.Test.YtoejhekppfgmpaaDoorKHashToGroup6
import Derived.Test.YtoejhekppfgmpaaDoorKHashToGroup11
import Derived.Test.YtoejhekppfgmpaaDoorKHashToGroup12
import Derived.Test.YtoejhekppfgmpaaDoorKHashToGroup13
import Derived.Test.YtoejhekppfgmpaaDoorKHashToGroup14
import Derived.Test.YtoejhekppfgmpaaDoorKHashToGroup16
import Derived.Test.YtoejhekppfgmpaaDoorKHashToGroup23
import Derived.Test.YtoejhekppfgmpaaDoorKHashToGroup25
import Derived.KernelRfl
section
namespace Go.Proofs.YtoejhekppfgmpaaDoor.C2
open Go Go.RowKit Go.Proofs.YtoejhekppfgmpaaDoorW.PrintWords Go.Proofs.YtoejhekppfgmpaaDoorW.PrintLast Go.Proofs.YtoejhekppfgmpaaDoorW.PrintMore Go.Proofs.YtoejhekppfgmpaaDoor.H0 Go.Proofs.YtoejhekppfgmpaaDoor.H1 Go.Proofs.YtoejhekppfgmpaaDoor.H2 Go.Proofs.YtoejhekppfgmpaaDoor.H3 Go.Proofs.YtoejhekppfgmpaaDoor.B
set_option linter.unusedVariables false
set_option linter.unusedSimpArgs false
def tm (x y : Int) : Int := x * y % 2305843009213693951
def ad (x y : Int) : Int := (x + y) % 2305843009213693951
def mi (x y : Int) : Int := (x - y) % 2305843009213693951
def In (x : Int) : Prop := 0 ≤ x ∧ x < 2305843009213693951
theorem in_tm (x y : Int) : In (tm x y) := by unfold In tm; omega
theorem in_ad (x y : Int) : In (ad x y) := by unfold In ad; omega
theorem in_mi (x y : Int) : In (mi x y) := by unfold In mi; omega

theorem times_c {x y : Int} (hx : In x) (hy : In y) (w : World) :
    Calls Tryd.prog 92 #[.agg #[.int .u64 x], .agg #[.int .u64 y]] w fun e w' => e = .returned (.agg #[.int .u64 (tm x y)]) ∧ Below w.heap.size w w' :=
  impl_num_impl_fieldP_times.calls 10 x y _ w (Pure.prod_P x y hx.1 (by have := hx.2; omega) hy.1 (by have := hy.2; omega) (by omega))
theorem plus_c {x y : Int} (hx : In x) (hy : In y) (w : World) :
    Calls Tryd.prog 93 #[.agg #[.int .u64 x], .agg #[.int .u64 y]] w fun e w' => e = .returned (.agg #[.int .u64 (ad x y)]) ∧ Below w.heap.size w w' :=
  impl_num_impl_fieldP_plus.calls x y _ w (Pure.plus_P x y hx.1 hx.2 hy.1 hy.2)
theorem minus_c {x y : Int} (hx : In x) (hy : In y) (w : World) :
    Calls Tryd.prog 107 #[.agg #[.int .u64 x], .agg #[.int .u64 y]] w fun e w' => e = .returned (.agg #[.int .u64 (mi x y)]) ∧ Below w.heap.size w w' :=
  impl_num_impl_fieldP_minus.calls x y _ w (Pure.minus_P x y hx.1 hx.2 hy.1 hy.2)

theorem lt_of_heap {w : World} {g : Nat} {o : Obj} (h : w.heap[g]? = some o) : g < w.heap.size := (Array.getElem?_eq_some_iff.1 h).1
end Go.Proofs.YtoejhekppfgmpaaDoor.C2
end
section
namespace Go.Proofs.YtoejhekppfgmpaaDoor.C
open Go.RowKit Go.Proofs.YtoejhekppfgmpaaDoor.B Go.Proofs.YtoejhekppfgmpaaDoor.H0 Go.Proofs.YtoejhekppfgmpaaDoor.G3 Go.Proofs.YtoejhekppfgmpaaDoor.F0 Go.Proofs.YtoejhekppfgmpaaDoor.H1 Go.Proofs.YtoejhekppfgmpaaDoor.H2 Go.Proofs.YtoejhekppfgmpaaDoor.H3 Go.Proofs.YtoejhekppfgmpaaDoorW.PrintWords Go.Proofs.YtoejhekppfgmpaaDoorW.PrintLast Go.Proofs.YtoejhekppfgmpaaDoorW.PrintMore Go.Proofs.YtoejhekppfgmpaaDoor.Ve Go.Proofs.YtoejhekppfgmpaaDoor.VeT Go.Proofs.YtoejhekppfgmpaaDoor.VeE
attribute [local go_sem high] field_num_fieldP   -- for this text's walks alone
attribute [local go_sem] max2_int min2_int max_two min_two max_three min_three max_four min_four   -- for this text's walks alone
set_option linter.unusedVariables false
set_option linter.unusedSimpArgs false
def impl_num_impl_fieldP_inverse.f (a0_0 : Int) : Option (Int) := (impl_prime_impl_fieldP.f).bind fun t162 => ((impl_num_impl_fieldP_power.f a0_0 (IntKind.u64.wrap (t162 - 2))).bind fun t163 => (some t163))
set_option maxRecDepth 100000 in
set_option maxHeartbeats 4000000 in
theorem impl_num_impl_fieldP_inverse.calls (a0_0 : Int) (r : Int) (w : World) (h : impl_num_impl_fieldP_inverse.f a0_0 = some r) :
    Calls Tryd.prog 94 #[.agg #[.int .u64 a0_0]] w fun e w' => e = .returned (.agg #[.int .u64 r]) ∧ Below w.heap.size w w' := by
  unfold impl_num_impl_fieldP_inverse.f at h
  repeat' (first | (rw [Option.bind_eq_some_iff] at h; obtain ⟨_, _, h⟩ := h) | (split at h) | (cases h <;> fail) | (replace h := Option.some.inj h) | (have h3_ := (Prod.mk.inj h).1; replace h := (Prod.mk.inj h).2; subst h3_) | (subst h))
  all_goals try contradiction
  all_goals refine ve_fn (args := [.agg #[.int .u64 a0_0]]) Tryd.func94 rfl Tryd.ntmps94 rfl (good (Γ := fun _ => True) (fun _ _ => trivial)) ?_
  all_goals repeat' (first | refine rbt ?_ | refine rbf ?_ | refine wn ?_ | refine wq ?_ | refine wc_plain ?_ | refine wc_draw ?_ | refine rZ ?_ | refine rD ?_ | refine ve8 ?_ | refine ve4 ?_ | refine ve3 ?_ | refine ve1 ?_ | refine ve2 ?_ | refine ve5 ?_ | refine ve6 ?_ | refine ve7 ?_ | refine ve9 ?_ | refine rA ?_ | refine rE ?_ | refine rC ?_ | refine rB ?_ | refine rG ?_ | refine rH ?_ | refine rI ?_ | refine rJ ?_ | refine rcb ?_ | refine rcp (Pre := impl_prime_impl_fieldP.f = some _) (fun hp_ w_ hΓ => impl_prime_impl_fieldP.calls _ w_ hp_) ?_ | refine rcp (Pre := impl_num_impl_fieldP_power.f _ _ = some _) (fun hp_ w_ hΓ => impl_num_impl_fieldP_power.calls _ _ _ w_ hp_) ?_ | refine wb ?_ | refine wk ?_ | refine we ?_ | exact wt | refine wr ?_ | refine rr1 ?_ | refine rr2 ?_ | exact fr | exact fe | refine wTs ?_ | refine wFs ?_ | refine rof ?_ | refine rof0 ?_)

def impl_spatial_point.f (k : Nat) (a0_0 : Int) (a0_1 : Int) (a0_2 : Int) : Option (Int × Int × Bool) := if a0_2 = 0 then (some (0, 0, true)) else ((impl_num_impl_fieldP_inverse.f a0_2).bind fun t166 => ((impl_num_impl_fieldP_times.f k t166 t166).bind fun t168 => ((impl_num_impl_fieldP_times.f k a0_0 t168).bind fun t170 => ((impl_num_impl_fieldP_times.f k a0_1 t168).bind fun t171 => ((impl_num_impl_fieldP_times.f k t171 t166).bind fun t172 => (some (t170, t172, false)))))))
set_option maxRecDepth 100000 in
set_option maxHeartbeats 4000000 in
theorem impl_spatial_point.calls (k : Nat) (a0_0 : Int) (a0_1 : Int) (a0_2 : Int) (r1 : Int) (r2 : Int) (r3 : Bool) (w : World) (hG : G w) (h : impl_spatial_point.f k a0_0 a0_1 a0_2 = some (r1, r2, r3)) :
    Calls Tryd.prog 60 #[.agg #[.int .u64 a0_0, .int .u64 a0_1, .int .u64 a0_2]] w fun e w' => e = .returned (.agg #[.int .u64 r1, .int .u64 r2, .bool r3]) ∧ Below w.heap.size w w' := by
  unfold impl_spatial_point.f at h
  repeat' (first | (rw [Option.bind_eq_some_iff] at h; obtain ⟨_, _, h⟩ := h) | (split at h) | (cases h <;> fail) | (replace h := Option.some.inj h) | (have h3_ := (Prod.mk.inj h).1; replace h := (Prod.mk.inj h).2; subst h3_) | (subst h))
  all_goals try contradiction
  all_goals refine ve_fn (args := [.agg #[.int .u64 a0_0, .int .u64 a0_1, .int .u64 a0_2]]) Tryd.func60 rfl Tryd.ntmps60 rfl (good (Γ := fun W => G W) (fun W hb => G_below hb hG)) ?_
  all_goals repeat' (first | refine rbt ?_ | refine rbf ?_ | refine wn ?_ | refine wq ?_ | refine wc_plain ?_ | refine wc_draw ?_ | refine rZ ?_ | refine rD ?_ | refine ve8 ?_ | refine ve4 ?_ | refine ve3 ?_ | refine ve1 ?_ | refine ve2 ?_ | refine ve5 ?_ | refine ve6 ?_ | refine ve7 ?_ | refine ve9 ?_ | refine rA ?_ | refine rE ?_ | refine rC ?_ | refine rB ?_ | refine rG ?_ | refine rH ?_ | refine rI ?_ | refine rJ ?_ | refine rcb ?_ | refine rcp (Pre := impl_num_impl_fieldP_inverse.f _ = some _) (fun hp_ w_ hΓ => impl_num_impl_fieldP_inverse.calls _ _ w_ hp_) ?_ | refine rcp (Pre := impl_num_impl_fieldP_times.f _ _ _ = some _) (fun hp_ w_ hΓ => impl_num_impl_fieldP_times.calls _ _ _ _ w_ hp_) ?_ | refine rel (fun w_ hΓ => ld_zero (by first  |  exact hΓ.z  |  exact hΓ.1.z  |  exact hΓ.1  |  exact hΓ)) ?_  |  refine req (fun w_ => eq_pt w_) ?_  |  refine req (fun w_ => ne_pt w_) ?_  |  refine req (fun w_ => eq_num w_) ?_ | refine wb ?_ | refine wk ?_ | refine we ?_ | exact wt | refine wr ?_ | refine rr1 ?_ | refine rr2 ?_ | exact fr | exact fe | refine wTs ?_ | refine wFs ?_ | refine rof ?_ | refine rof0 ?_)

end Go.Proofs.YtoejhekppfgmpaaDoor.C
end
section
namespace Go.Proofs.YtoejhekppfgmpaaDoor.CD
open Go Go.RowKit Go.Proofs.YtoejhekppfgmpaaDoor.C2 Go.Proofs.YtoejhekppfgmpaaDoor.Ve Go.Proofs.YtoejhekppfgmpaaDoor.VeT Go.Proofs.YtoejhekppfgmpaaDoor.VeE
set_option linter.unusedVariables false
set_option linter.unusedSimpArgs false
def dblN (X Y Z : Int) : Int × Int × Int :=
  let yy := tm Y Y
  let zz := tm Z Z
  let v := tm (tm 4 X) yy
  let m := tm 3 (mi (tm X X) (tm zz zz))
  let x3 := mi (mi (tm m m) v) v
  (x3, mi (tm m (mi v x3)) (tm (tm 8 yy) yy), ad (tm Y Z) (tm Y Z))
def impl_spatial_double.f (X Y Z : Int) : Option (Int × Int × Int) := if 0 ≤ X ∧ X < 2305843009213693951 ∧ 0 ≤ Y ∧ Y < 2305843009213693951 ∧ 0 ≤ Z ∧ Z < 2305843009213693951 then some (if Y = 0 ∨ Z = 0 then (1, 1, 0) else dblN X Y Z) else none
set_option maxRecDepth 100000 in
set_option maxHeartbeats 4000000 in
theorem impl_spatial_double.calls (X Y Z q1 q2 q3 : Int) (w : World) (h : impl_spatial_double.f X Y Z = some (q1, q2, q3)) : Calls Tryd.prog 108 #[.agg #[.int .u64 X, .int .u64 Y, .int .u64 Z]] w fun e w' => e = .returned (.agg #[.int .u64 (q1), .int .u64 (q2), .int .u64 (q3)]) ∧ Below w.heap.size w w' := by
  unfold impl_spatial_double.f at h
  split at h
  case isFalse => cases h
  rename_i hh
  obtain ⟨a1, a2, b1, b2, c1, c2⟩ := hh
  have hX : In X := ⟨a1, a2⟩
  have hY : In Y := ⟨b1, b2⟩
  have hZ : In Z := ⟨c1, c2⟩
  clear a1 a2 b1 b2 c1 c2
  replace h := Option.some.inj h
  refine ve_fn (args := [.agg #[.int .u64 X, .int .u64 Y, .int .u64 Z]]) Tryd.func108 rfl Tryd.ntmps108 rfl (good (Γ := fun _ => True) (fun _ _ => trivial)) ?_
  by_cases hy : Y = 0
  · rw [if_pos (.inl hy)] at h
    obtain ⟨rfl, rfl, rfl⟩ : 1 = q1 ∧ 1 = q2 ∧ 0 = q3 := by simpa using h
    clear h
    repeat' (first | refine rbt ?_ | refine rbf ?_ | refine wn ?_ | refine wq ?_ | refine wc_plain ?_ | refine wc_draw ?_ | refine rZ ?_ | refine rD ?_ | refine ve8 ?_ | refine ve4 ?_ | refine ve3 ?_ | refine ve1 ?_ | refine ve2 ?_ | refine ve5 ?_ | refine ve6 ?_ | refine ve7 ?_ | refine ve9 ?_ | refine rA ?_ | refine rE ?_ | refine rC ?_ | refine rB ?_ | refine rG ?_ | refine rH ?_ | refine rI ?_ | refine rJ ?_ | refine rcb ?_ | refine wb ?_ | refine wk ?_ | refine we ?_ | exact wt | refine wr ?_ | refine rr1 ?_ | refine rr2 ?_ | exact fr | exact fe | refine wTs ?_ | refine wFs ?_ | refine rof ?_ | refine rof0 ?_)
  · by_cases hz : Z = 0
    · rw [if_pos (.inr hz)] at h
      obtain ⟨rfl, rfl, rfl⟩ : 1 = q1 ∧ 1 = q2 ∧ 0 = q3 := by simpa using h
      clear h
      repeat' (first | refine rbt ?_ | refine rbf ?_ | refine wn ?_ | refine wq ?_ | refine wc_plain ?_ | refine wc_draw ?_ | refine rZ ?_ | refine rD ?_ | refine ve8 ?_ | refine ve4 ?_ | refine ve3 ?_ | refine ve1 ?_ | refine ve2 ?_ | refine ve5 ?_ | refine ve6 ?_ | refine ve7 ?_ | refine ve9 ?_ | refine rA ?_ | refine rE ?_ | refine rC ?_ | refine rB ?_ | refine rG ?_ | refine rH ?_ | refine rI ?_ | refine rJ ?_ | refine rcb ?_ | refine wb ?_ | refine wk ?_ | refine we ?_ | exact wt | refine wr ?_ | refine rr1 ?_ | refine rr2 ?_ | exact fr | exact fe | refine wTs ?_ | refine wFs ?_ | refine rof ?_ | refine rof0 ?_)
    · rw [if_neg (by simp [hy, hz])] at h
      obtain ⟨h1_, h2_, h3_⟩ : (dblN X Y Z).1 = q1 ∧ (dblN X Y Z).2.1 = q2 ∧ (dblN X Y Z).2.2 = q3 := by rw [h]; exact ⟨rfl, rfl, rfl⟩
      clear h
      subst h1_ h2_ h3_
      unfold dblN
      dsimp only
      repeat' (first | refine rbt ?_ | refine rbf ?_ | refine wn ?_ | refine wq ?_ | refine wc_plain ?_ | refine wc_draw ?_ | refine rZ ?_ | refine rD ?_ | refine ve8 ?_ | refine ve4 ?_ | refine ve3 ?_ | refine ve1 ?_ | refine ve2 ?_ | refine ve5 ?_ | refine ve6 ?_ | refine ve7 ?_ | refine ve9 ?_ | refine rA ?_ | refine rE ?_ | refine rC ?_ | refine rB ?_ | refine rG ?_ | refine rH ?_ | refine rI ?_ | refine rJ ?_ | refine rcb ?_ | refine rcp (Pre := In _ ∧ In _) (fun hp_ w_ _ => times_c hp_.1 hp_.2 w_) ?_ (hpre := by refine ⟨?_, ?_⟩ <;> (first | assumption | exact in_tm _ _ | exact in_mi _ _ | exact in_ad _ _ | exact ⟨by decide, by decide⟩)) | refine rcp (Pre := In _ ∧ In _) (fun hp_ w_ _ => minus_c hp_.1 hp_.2 w_) ?_ (hpre := by refine ⟨?_, ?_⟩ <;> (first | assumption | exact in_tm _ _ | exact in_mi _ _ | exact in_ad _ _ | exact ⟨by decide, by decide⟩)) | refine rcp (Pre := In _ ∧ In _) (fun hp_ w_ _ => plus_c hp_.1 hp_.2 w_) ?_ (hpre := by refine ⟨?_, ?_⟩ <;> (first | assumption | exact in_tm _ _ | exact in_mi _ _ | exact in_ad _ _ | exact ⟨by decide, by decide⟩)) | refine wb ?_ | refine wk ?_ | refine we ?_ | exact wt | refine wr ?_ | refine rr1 ?_ | refine rr2 ?_ | exact fr | exact fe | refine wTs ?_ | refine wFs ?_ | refine rof ?_ | refine rof0 ?_)
def hN (X1 Z1 X2 Z2 : Int) : Int := mi (tm X2 (tm Z1 Z1)) (tm X1 (tm Z2 Z2))
def rN (Y1 Z1 Y2 Z2 : Int) : Int := mi (tm (tm Y2 (tm Z1 Z1)) Z1) (tm (tm Y1 (tm Z2 Z2)) Z2)
/-- The sum of two with unlike x, number by number. -/
def plsN (X1 Y1 Z1 X2 Y2 Z2 : Int) : Int × Int × Int :=
  let z1 := tm Z1 Z1
  let z2 := tm Z2 Z2
  let u1 := tm X1 z2
  let u2 := tm X2 z1
  let s1 := tm (tm Y1 z2) Z2
  let s2 := tm (tm Y2 z1) Z1
  let h := mi u2 u1
  let r := mi s2 s1
  let hh := tm h h
  let hhh := tm hh h
  let v := tm u1 hh
  let x3 := mi (mi (mi (tm r r) hhh) v) v
  (x3, mi (tm r (mi v x3)) (tm s1 hhh), tm (tm h Z1) Z2)
def impl_spatial_plus.f (X1 Y1 Z1 X2 Y2 Z2 : Int) : Option (Int × Int × Int) :=
  if 0 ≤ X1 ∧ X1 < 2305843009213693951 ∧ 0 ≤ Y1 ∧ Y1 < 2305843009213693951 ∧ 0 ≤ Z1 ∧ Z1 < 2305843009213693951 ∧ 0 ≤ X2 ∧ X2 < 2305843009213693951 ∧ 0 ≤ Y2 ∧ Y2 < 2305843009213693951 ∧ 0 ≤ Z2 ∧ Z2 < 2305843009213693951 then
    if Z1 = 0 then some (X2, Y2, Z2) else if Z2 = 0 then some (X1, Y1, Z1) else if hN X1 Z1 X2 Z2 = 0 then if rN Y1 Z1 Y2 Z2 = 0 then impl_spatial_double.f X1 Y1 Z1 else some (1, 1, 0) else some (plsN X1 Y1 Z1 X2 Y2 Z2)
  else none
set_option maxRecDepth 100000 in
set_option maxHeartbeats 4000000 in
theorem impl_spatial_plus.calls (X1 Y1 Z1 X2 Y2 Z2 q1 q2 q3 : Int) (w : World) (h : impl_spatial_plus.f X1 Y1 Z1 X2 Y2 Z2 = some (q1, q2, q3)) : Calls Tryd.prog 59 #[.agg #[.int .u64 X1, .int .u64 Y1, .int .u64 Z1], .agg #[.int .u64 X2, .int .u64 Y2, .int .u64 Z2]] w fun e w' => e = .returned (.agg #[.int .u64 (q1), .int .u64 (q2), .int .u64 (q3)]) ∧ Below w.heap.size w w' := by
  unfold impl_spatial_plus.f at h
  split at h
  case isFalse => cases h
  rename_i hh
  obtain ⟨a1, a2, b1, b2, c1, c2, d1, d2, e1, e2, f1, f2⟩ := hh
  have hX1 : In X1 := ⟨a1, a2⟩
  have hY1 : In Y1 := ⟨b1, b2⟩
  have hZ1 : In Z1 := ⟨c1, c2⟩
  have hX2 : In X2 := ⟨d1, d2⟩
  have hY2 : In Y2 := ⟨e1, e2⟩
  have hZ2 : In Z2 := ⟨f1, f2⟩
  clear a1 a2 b1 b2 c1 c2 d1 d2 e1 e2 f1 f2
  refine ve_fn (args := [.agg #[.int .u64 X1, .int .u64 Y1, .int .u64 Z1], .agg #[.int .u64 X2, .int .u64 Y2, .int .u64 Z2]]) Tryd.func59 rfl Tryd.ntmps59 rfl (good (Γ := fun _ => True) (fun _ _ => trivial)) ?_
  by_cases hz1 : Z1 = 0
  · rw [if_pos hz1] at h
    obtain ⟨rfl, rfl, rfl⟩ : X2 = q1 ∧ Y2 = q2 ∧ Z2 = q3 := by simpa using h
    repeat' (first | refine rbt ?_ | refine rbf ?_ | refine wn ?_ | refine wq ?_ | refine wc_plain ?_ | refine wc_draw ?_ | refine rZ ?_ | refine rD ?_ | refine ve8 ?_ | refine ve4 ?_ | refine ve3 ?_ | refine ve1 ?_ | refine ve2 ?_ | refine ve5 ?_ | refine ve6 ?_ | refine ve7 ?_ | refine ve9 ?_ | refine rA ?_ | refine rE ?_ | refine rC ?_ | refine rB ?_ | refine rG ?_ | refine rH ?_ | refine rI ?_ | refine rJ ?_ | refine rcb ?_ | refine wb ?_ | refine wk ?_ | refine we ?_ | exact wt | refine wr ?_ | refine rr1 ?_ | refine rr2 ?_ | exact fr | exact fe | refine wTs ?_ | refine wFs ?_ | refine rof ?_ | refine rof0 ?_)
  · rw [if_neg hz1] at h
    by_cases hz2 : Z2 = 0
    · rw [if_pos hz2] at h
      obtain ⟨rfl, rfl, rfl⟩ : X1 = q1 ∧ Y1 = q2 ∧ Z1 = q3 := by simpa using h
      repeat' (first | refine rbt ?_ | refine rbf ?_ | refine wn ?_ | refine wq ?_ | refine wc_plain ?_ | refine wc_draw ?_ | refine rZ ?_ | refine rD ?_ | refine ve8 ?_ | refine ve4 ?_ | refine ve3 ?_ | refine ve1 ?_ | refine ve2 ?_ | refine ve5 ?_ | refine ve6 ?_ | refine ve7 ?_ | refine ve9 ?_ | refine rA ?_ | refine rE ?_ | refine rC ?_ | refine rB ?_ | refine rG ?_ | refine rH ?_ | refine rI ?_ | refine rJ ?_ | refine rcb ?_ | refine wb ?_ | refine wk ?_ | refine we ?_ | exact wt | refine wr ?_ | refine rr1 ?_ | refine rr2 ?_ | exact fr | exact fe | refine wTs ?_ | refine wFs ?_ | refine rof ?_ | refine rof0 ?_)
    · rw [if_neg hz2] at h
      by_cases hh : hN X1 Z1 X2 Z2 = 0
      · rw [if_pos hh] at h
        unfold hN at hh
        by_cases hr : rN Y1 Z1 Y2 Z2 = 0
        · rw [if_pos hr] at h
          unfold rN at hr
          repeat' (first | refine rbt ?_ | refine rbf ?_ | refine wn ?_ | refine wq ?_ | refine wc_plain ?_ | refine wc_draw ?_ | refine rZ ?_ | refine rD ?_ | refine ve8 ?_ | refine ve4 ?_ | refine ve3 ?_ | refine ve1 ?_ | refine ve2 ?_ | refine ve5 ?_ | refine ve6 ?_ | refine ve7 ?_ | refine ve9 ?_ | refine rA ?_ | refine rE ?_ | refine rC ?_ | refine rB ?_ | refine rG ?_ | refine rH ?_ | refine rI ?_ | refine rJ ?_ | refine rcb ?_ | refine rcp (Pre := In _ ∧ In _) (fun hp_ w_ _ => times_c hp_.1 hp_.2 w_) ?_ (hpre := by refine ⟨?_, ?_⟩ <;> (first | assumption | exact in_tm _ _ | exact in_mi _ _ | exact in_ad _ _ | exact ⟨by decide, by decide⟩)) | refine rcp (Pre := In _ ∧ In _) (fun hp_ w_ _ => minus_c hp_.1 hp_.2 w_) ?_ (hpre := by refine ⟨?_, ?_⟩ <;> (first | assumption | exact in_tm _ _ | exact in_mi _ _ | exact in_ad _ _ | exact ⟨by decide, by decide⟩)) | refine rcp (Pre := In _ ∧ In _) (fun hp_ w_ _ => plus_c hp_.1 hp_.2 w_) ?_ (hpre := by refine ⟨?_, ?_⟩ <;> (first | assumption | exact in_tm _ _ | exact in_mi _ _ | exact in_ad _ _ | exact ⟨by decide, by decide⟩)) | refine rcp (Pre := impl_spatial_double.f _ _ _ = some (_, _, _)) (fun hp_ w_ _ => impl_spatial_double.calls _ _ _ _ _ _ w_ hp_) ?_ | refine wb ?_ | refine wk ?_ | refine we ?_ | exact wt | refine wr ?_ | refine rr1 ?_ | refine rr2 ?_ | exact fr | exact fe | refine wTs ?_ | refine wFs ?_ | refine rof ?_ | refine rof0 ?_)
        · rw [if_neg hr] at h
          unfold rN at hr
          obtain ⟨rfl, rfl, rfl⟩ : 1 = q1 ∧ 1 = q2 ∧ 0 = q3 := by simpa using h
          repeat' (first | refine rbt ?_ | refine rbf ?_ | refine wn ?_ | refine wq ?_ | refine wc_plain ?_ | refine wc_draw ?_ | refine rZ ?_ | refine rD ?_ | refine ve8 ?_ | refine ve4 ?_ | refine ve3 ?_ | refine ve1 ?_ | refine ve2 ?_ | refine ve5 ?_ | refine ve6 ?_ | refine ve7 ?_ | refine ve9 ?_ | refine rA ?_ | refine rE ?_ | refine rC ?_ | refine rB ?_ | refine rG ?_ | refine rH ?_ | refine rI ?_ | refine rJ ?_ | refine rcb ?_ | refine rcp (Pre := In _ ∧ In _) (fun hp_ w_ _ => times_c hp_.1 hp_.2 w_) ?_ (hpre := by refine ⟨?_, ?_⟩ <;> (first | assumption | exact in_tm _ _ | exact in_mi _ _ | exact in_ad _ _ | exact ⟨by decide, by decide⟩)) | refine rcp (Pre := In _ ∧ In _) (fun hp_ w_ _ => minus_c hp_.1 hp_.2 w_) ?_ (hpre := by refine ⟨?_, ?_⟩ <;> (first | assumption | exact in_tm _ _ | exact in_mi _ _ | exact in_ad _ _ | exact ⟨by decide, by decide⟩)) | refine rcp (Pre := In _ ∧ In _) (fun hp_ w_ _ => plus_c hp_.1 hp_.2 w_) ?_ (hpre := by refine ⟨?_, ?_⟩ <;> (first | assumption | exact in_tm _ _ | exact in_mi _ _ | exact in_ad _ _ | exact ⟨by decide, by decide⟩)) | refine wb ?_ | refine wk ?_ | refine we ?_ | exact wt | refine wr ?_ | refine rr1 ?_ | refine rr2 ?_ | exact fr | exact fe | refine wTs ?_ | refine wFs ?_ | refine rof ?_ | refine rof0 ?_)
      · rw [if_neg hh] at h
        unfold hN at hh
        replace h := Option.some.inj h
        obtain ⟨h1_, h2_, h3_⟩ : (plsN X1 Y1 Z1 X2 Y2 Z2).1 = q1 ∧ (plsN X1 Y1 Z1 X2 Y2 Z2).2.1 = q2 ∧ (plsN X1 Y1 Z1 X2 Y2 Z2).2.2 = q3 := by rw [h]; exact ⟨rfl, rfl, rfl⟩
        clear h
        subst h1_ h2_ h3_
        unfold plsN
        dsimp only
        repeat' (first | refine rbt ?_ | refine rbf ?_ | refine wn ?_ | refine wq ?_ | refine wc_plain ?_ | refine wc_draw ?_ | refine rZ ?_ | refine rD ?_ | refine ve8 ?_ | refine ve4 ?_ | refine ve3 ?_ | refine ve1 ?_ | refine ve2 ?_ | refine ve5 ?_ | refine ve6 ?_ | refine ve7 ?_ | refine ve9 ?_ | refine rA ?_ | refine rE ?_ | refine rC ?_ | refine rB ?_ | refine rG ?_ | refine rH ?_ | refine rI ?_ | refine rJ ?_ | refine rcb ?_ | refine rcp (Pre := In _ ∧ In _) (fun hp_ w_ _ => times_c hp_.1 hp_.2 w_) ?_ (hpre := by refine ⟨?_, ?_⟩ <;> (first | assumption | exact in_tm _ _ | exact in_mi _ _ | exact in_ad _ _ | exact ⟨by decide, by decide⟩)) | refine rcp (Pre := In _ ∧ In _) (fun hp_ w_ _ => minus_c hp_.1 hp_.2 w_) ?_ (hpre := by refine ⟨?_, ?_⟩ <;> (first | assumption | exact in_tm _ _ | exact in_mi _ _ | exact in_ad _ _ | exact ⟨by decide, by decide⟩)) | refine rcp (Pre := In _ ∧ In _) (fun hp_ w_ _ => plus_c hp_.1 hp_.2 w_) ?_ (hpre := by refine ⟨?_, ?_⟩ <;> (first | assumption | exact in_tm _ _ | exact in_mi _ _ | exact in_ad _ _ | exact ⟨by decide, by decide⟩)) | refine wb ?_ | refine wk ?_ | refine we ?_ | exact wt | refine wr ?_ | refine rr1 ?_ | refine rr2 ?_ | exact fr | exact fe | refine wTs ?_ | refine wFs ?_ | refine rof ?_ | refine rof0 ?_)
end Go.Proofs.YtoejhekppfgmpaaDoor.CD
end
section
namespace Go.Proofs.YtoejhekppfgmpaaDoor.V2
open Go Go.Proofs.YtoejhekppfgmpaaDoor.C2 Go.Proofs.YtoejhekppfgmpaaDoor.CD Vi
set_option linter.unusedSimpArgs false
theorem tm_vi (a b : Fp) : tm (vi a) (vi b) = vi (a * b) := vi_mul a b
theorem ad_vi (a b : Fp) : ad (vi a) (vi b) = vi (a + b) := vi_add a b
theorem mi_vi (a b : Fp) : mi (vi a) (vi b) = vi (a - b) := vi_sub a b
theorem in_vi (a : Fp) : 0 ≤ vi a ∧ vi a < 2305843009213693951 := vi_range a
theorem n1 : (1 : Int) = vi 1 := rfl
theorem n0 : (0 : Int) = vi 0 := rfl
theorem n3 : (3 : Int) = vi 3 := rfl
theorem n4 : (4 : Int) = vi 4 := rfl
theorem n8 : (8 : Int) = vi 8 := rfl

def v3 (s : Sp) : Int × Int × Int := (vi s.1, vi s.2.1, vi s.2.2)

theorem dbl_vi (s : Sp) : impl_spatial_double.f (vi s.1) (vi s.2.1) (vi s.2.2) = some (v3 (dbl s)) := by
  unfold impl_spatial_double.f
  rw [if_pos ⟨(in_vi _).1, (in_vi _).2, (in_vi _).1, (in_vi _).2, (in_vi _).1, (in_vi _).2⟩]
  congr 1
  unfold dbl
  simp only [vi_zero]
  split
  · rfl
  · unfold dblN v3
    rw [n3, n4, n8]
    simp only [tm_vi, ad_vi, mi_vi]

theorem pls_vi (s t : Sp) : impl_spatial_plus.f (vi s.1) (vi s.2.1) (vi s.2.2) (vi t.1) (vi t.2.1) (vi t.2.2) = some (v3 (pls s t)) := by
  unfold impl_spatial_plus.f
  rw [if_pos ⟨(in_vi _).1, (in_vi _).2, (in_vi _).1, (in_vi _).2, (in_vi _).1, (in_vi _).2, (in_vi _).1, (in_vi _).2, (in_vi _).1, (in_vi _).2, (in_vi _).1, (in_vi _).2⟩]
  unfold pls hN rN
  simp only [tm_vi, ad_vi, mi_vi, vi_zero]
  split
  · rfl
  · split
    · rfl
    · split
      · split
        · exact dbl_vi s
        · rfl
      · congr 1
        unfold plsN v3
        simp only [tm_vi, ad_vi, mi_vi]

end Go.Proofs.YtoejhekppfgmpaaDoor.V2
end
section
namespace Go.Proofs.YtoejhekppfgmpaaDoor.F
open Go.RowKit Go.Proofs.YtoejhekppfgmpaaDoor.B Go.Proofs.YtoejhekppfgmpaaDoor.C Go.Proofs.YtoejhekppfgmpaaDoor.H0 Go.Proofs.YtoejhekppfgmpaaDoor.G3 Go.Proofs.YtoejhekppfgmpaaDoor.F0 Go.Proofs.YtoejhekppfgmpaaDoor.H1 Go.Proofs.YtoejhekppfgmpaaDoor.H2 Go.Proofs.YtoejhekppfgmpaaDoor.H3 Go.Proofs.YtoejhekppfgmpaaDoor.KG2 Go.Proofs.YtoejhekppfgmpaaDoor.CD Go.Proofs.YtoejhekppfgmpaaDoorW.PrintWords Go.Proofs.YtoejhekppfgmpaaDoorW.PrintLast Go.Proofs.YtoejhekppfgmpaaDoorW.PrintMore Go.Proofs.YtoejhekppfgmpaaDoor.Ve Go.Proofs.YtoejhekppfgmpaaDoor.VeT Go.Proofs.YtoejhekppfgmpaaDoor.VeE
attribute [local go_sem high] field_num_fieldP   -- for this text's walks alone
attribute [local go_sem] max2_int min2_int max_two min_two max_three min_three max_four min_four   -- for this text's walks alone
set_option linter.unusedVariables false
set_option linter.unusedSimpArgs false
def impl_Add.j0 : Nat → Bool → Int → Int → Bool → Int → Int → Bool → Int → Int → Bool → Option (Int × Int × Bool)
  | 0, _, _, _, _, _, _, _, _, _, _ => none
  | k + 1, x24, x81000, x81001, x81002, x109000, x109001, x109002, x114000, x114001, x114002 => if x24 = true then (some (x81000, x81001, x81002)) else ((impl_onCurve_spatial.f x109000 x109001 x109002).bind fun bt114 => ((impl_onCurve_spatial.f x114000 x114001 x114002).bind fun bt117 => ((impl_spatial_plus.f bt114.1 bt114.2.1 bt114.2.2 bt117.1 bt117.2.1 bt117.2.2).bind fun bt120 => ((impl_spatial_point.f k bt120.1 bt120.2.1 bt120.2.2).bind fun bt123 => (some (bt123.1, bt123.2.1, bt123.2.2))))))
def impl_Add.f (k : Nat) (a0_0 : Int) (a0_1 : Int) (a0_2 : Bool) (a1_0 : Int) (a1_1 : Int) (a1_2 : Bool) : Option (Int × Int × Bool) := (impl_at.f k a0_0 a0_1 a0_2).bind fun bt104 => ((impl_at.f k a1_0 a1_1 a1_2).bind fun bt109 => (if bt104.2.2.2 = true then (impl_Add.j0 k (!bt109.2.2.2) 0 0 true bt104.1 bt104.2.1 bt104.2.2.1 bt109.1 bt109.2.1 bt109.2.2.1) else (impl_Add.j0 k true 0 0 true bt104.1 bt104.2.1 bt104.2.2.1 bt109.1 bt109.2.1 bt109.2.2.1)))
set_option maxRecDepth 100000 in
set_option maxHeartbeats 4000000 in
theorem impl_Add.calls (k : Nat) (a0_0 : Int) (a0_1 : Int) (a0_2 : Bool) (a1_0 : Int) (a1_1 : Int) (a1_2 : Bool) (r1 : Int) (r2 : Int) (r3 : Bool) (w : World) (hG : G w) (h : impl_Add.f k a0_0 a0_1 a0_2 a1_0 a1_1 a1_2 = some (r1, r2, r3)) :
    Calls Tryd.prog 14 #[.agg #[.int .u64 a0_0, .int .u64 a0_1, .bool a0_2], .agg #[.int .u64 a1_0, .int .u64 a1_1, .bool a1_2]] w fun e w' => e = .returned (.agg #[.int .u64 r1, .int .u64 r2, .bool r3]) ∧ Below w.heap.size w w' := by
  unfold impl_Add.f at h
  all_goals rcases k with _ | k
  repeat' (first | (rw [Option.bind_eq_some_iff] at h; obtain ⟨_, _, h⟩ := h) | (split at h) | (rw [impl_Add.j0] at h) | (cases h <;> fail) | (replace h := Option.some.inj h) | (have h3_ := (Prod.mk.inj h).1; replace h := (Prod.mk.inj h).2; subst h3_) | (subst h))
  all_goals try contradiction
  all_goals refine ve_fn (args := [.agg #[.int .u64 a0_0, .int .u64 a0_1, .bool a0_2], .agg #[.int .u64 a1_0, .int .u64 a1_1, .bool a1_2]]) Tryd.func14 rfl Tryd.ntmps14 rfl (good (Γ := fun W => G W) (fun W hb => G_below hb hG)) ?_
  all_goals repeat' (first | refine rbt ?_ | refine rbf ?_ | refine wn ?_ | refine wq ?_ | refine wc_plain ?_ | refine wc_draw ?_ | refine rZ ?_ | refine rD ?_ | refine ve8 ?_ | refine ve4 ?_ | refine ve3 ?_ | refine ve1 ?_ | refine ve2 ?_ | refine ve5 ?_ | refine ve6 ?_ | refine ve7 ?_ | refine ve9 ?_ | refine rA ?_ | refine rE ?_ | refine rC ?_ | refine rB ?_ | refine rG ?_ | refine rH ?_ | refine rI ?_ | refine rJ ?_ | refine rcb ?_ | refine rcp (Pre := impl_onCurve_spatial.f _ _ _ = some (_, _, _)) (fun hp_ w_ hΓ => impl_onCurve_spatial.calls _ _ _ _ _ _ w_ hp_) ?_ | refine rcp (Pre := impl_spatial_plus.f _ _ _ _ _ _ = some (_, _, _)) (fun hp_ w_ hΓ => impl_spatial_plus.calls _ _ _ _ _ _ _ _ _ w_ hp_) ?_ | refine rcp (Pre := impl_spatial_point.f _ _ _ _ = some (_, _, _)) (fun hp_ w_ hΓ => impl_spatial_point.calls _ _ _ _ _ _ _ w_ hΓ hp_) ?_ | refine rcp (Pre := impl_at.f _ _ _ _ = some (_, _, _, _)) (fun hp_ w_ hΓ => impl_at.calls _ _ _ _ _ _ _ _ w_ hΓ hp_) ?_ | refine rel (fun w_ hΓ => ld_zero (by first  |  exact hΓ.z  |  exact hΓ.1.z  |  exact hΓ.1  |  exact hΓ)) ?_  |  refine req (fun w_ => eq_pt w_) ?_  |  refine req (fun w_ => ne_pt w_) ?_  |  refine req (fun w_ => eq_num w_) ?_ | refine wb ?_ | refine wk ?_ | refine we ?_ | exact wt | refine wr ?_ | refine rr1 ?_ | refine rr2 ?_ | exact fr | exact fe | refine wTs ?_ | refine wFs ?_ | refine rof ?_ | refine rof0 ?_)

end Go.Proofs.YtoejhekppfgmpaaDoor.F
end
section
namespace Go.Proofs.YtoejhekppfgmpaaDoor.H4
open Go.RowKit Go.Shelf Go.Proofs.YtoejhekppfgmpaaDoorW.PrintWords Go.Proofs.YtoejhekppfgmpaaDoorW.PrintLast Go.Proofs.YtoejhekppfgmpaaDoorW.PrintMore Go.Proofs.YtoejhekppfgmpaaDoor.H0 Go.Proofs.YtoejhekppfgmpaaDoor.H1 Go.Proofs.YtoejhekppfgmpaaDoor.H2 Go.Proofs.YtoejhekppfgmpaaDoor.H3 Go.Proofs.YtoejhekppfgmpaaDoor.C2 Go.Proofs.YtoejhekppfgmpaaDoor.CD Go.Proofs.YtoejhekppfgmpaaDoor.V2 Go.Proofs.YtoejhekppfgmpaaDoor.G1 Go.Proofs.YtoejhekppfgmpaaDoor.B Vi
attribute [local go_sem] Oper.semAt_some
set_option linter.unusedVariables false
set_option linter.unusedSimpArgs false
/-- A box of three numbers. -/
def B3 (W : World) (B : Nat) (t : TypeId) (s : Int × Int × Int) : Prop := W.heap[B]? = some (.cells #[.int .u64 s.1, .int .u64 s.2.1, .int .u64 s.2.2] t (0, 0))
theorem B3.lt {W : World} {B : Nat} {t : TypeId} {s : Int × Int × Int} (h : B3 W B t s) : B < W.heap.size := lt_of_heap h
theorem B3.c0 {W : World} {B : Nat} {t : TypeId} {s : Int × Int × Int} (h : B3 W B t s) : W.cell? ⟨B, 0, none⟩ = some (.int .u64 s.1) := (cell_of_row W B 0 _ _ _ h).trans rfl
theorem B3.c1 {W : World} {B : Nat} {t : TypeId} {s : Int × Int × Int} (h : B3 W B t s) : W.cell? ⟨B, 1, none⟩ = some (.int .u64 s.2.1) := (cell_of_row W B 1 _ _ _ h).trans rfl
theorem B3.c2 {W : World} {B : Nat} {t : TypeId} {s : Int × Int × Int} (h : B3 W B t s) : W.cell? ⟨B, 2, none⟩ = some (.int .u64 s.2.2) := (cell_of_row W B 2 _ _ _ h).trans rfl
theorem B3.fr {W : World} {B : Nat} {t : TypeId} {s : Int × Int × Int} (h : B3 W B t s) (i : Nat) : W.frozen? ⟨B, i, none⟩ = false := frozen_of_row W B i _ _ h
theorem B3.kept {W W' : World} {row : Option Nat} {B : Nat} {t : TypeId} {s : Int × Int × Int} (h : B3 W B t s) (hg : W.grownBy W' row) (hne : some B ≠ row) : B3 W' B t s := (hg.block B h.lt hne).trans h
theorem B3.below {W W' : World} {B : Nat} {t : TypeId} {s : Int × Int × Int} (h : B3 W B t s) (hb : Below W.heap.size W W') : B3 W' B t s := (hb.block B h.lt).trans h
theorem B3.own {β : Type} (B : Nat) (t : TypeId) (f : β → Int × Int × Int) : Own (fun s W => B3 W B t (f s)) := fun s X Y row hs hg hrow =>
  hs.kept hg (fun e' => by obtain ⟨o, ho, hc⟩ := hrow B e'.symm; rw [show X.heap[B]? = _ from hs] at ho; cases ho; cases hc)
theorem B3.set {W : World} {B : Nat} {t : TypeId} {s : Int × Int × Int} (h : B3 W B t s) (r : Int × Int × Int) :
    B3 (((W.setCell ⟨B, 0, none⟩ (.int .u64 r.1)).setCell ⟨B, 1, none⟩ (.int .u64 r.2.1)).setCell ⟨B, 2, none⟩ (.int .u64 r.2.2)) B t r := by
  have h0 := heap_setCell_same W B 0 _ t (.int .u64 r.1) h
  have h1 := heap_setCell_same _ B 1 _ t (.int .u64 r.2.1) h0
  have h2 := heap_setCell_same _ B 2 _ t (.int .u64 r.2.2) h1
  simpa [B3] using h2
/-- the element of a number -/
def el (x : Int) : Fp := Fin.ofNat _ x.toNat
end Go.Proofs.YtoejhekppfgmpaaDoor.H4
end
