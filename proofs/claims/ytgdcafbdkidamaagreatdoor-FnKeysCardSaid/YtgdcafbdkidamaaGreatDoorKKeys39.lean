/- What the proof of FnKeys leans on, part 39: cut out of the texts of this claim's making by a program (wip/tools/pack.py). -/
import Derived.Test.YtgdcafbdkidamaaGreatDoorKKeys8
import Derived.Test.YtgdcafbdkidamaaGreatDoorKKeys10
import Derived.Test.YtgdcafbdkidamaaGreatDoorKKeys11
import Derived.Test.YtgdcafbdkidamaaGreatDoorKKeys12
import Derived.Test.YtgdcafbdkidamaaGreatDoorKKeys13
import Derived.Test.YtgdcafbdkidamaaGreatDoorKKeys24
import Derived.Test.YtgdcafbdkidamaaGreatDoorKKeys38
section
namespace Go.Proofs.YtgdcafbdkidamaaGreatDoor.B
open Go.Proofs.YtgdcafbdkidamaaGreatDoor.Sq Go.RowKit Go.Proofs.YtgdcafbdkidamaaGreatDoor.H0 Go.Proofs.YtgdcafbdkidamaaGreatDoor.F0 Go.Proofs.YtgdcafbdkidamaaGreatDoorW.PrintWords Go.Proofs.YtgdcafbdkidamaaGreatDoorW.PrintLast Go.Proofs.YtgdcafbdkidamaaGreatDoorW.PrintMore Go.Proofs.YtgdcafbdkidamaaGreatDoor.Ve Go.Proofs.YtgdcafbdkidamaaGreatDoor.VeT Go.Proofs.YtgdcafbdkidamaaGreatDoor.VeE
attribute [local go_sem high] field_num_fieldP   -- for this text's walks alone
attribute [local go_sem] max2_int min2_int max_two min_two max_three min_three max_four min_four   -- for this text's walks alone
set_option linter.unusedVariables false
set_option linter.unusedSimpArgs false
def spec_l2DrawWord.f (k : Nat) (l0 : List Int) (a1 : Int) : Option (Int × Int) := (spec_l1Take.f k l0 a1 12).bind fun bt672 => ((spec_l1Take.f k l0 bt672.2 5).bind fun bt674 => ((spec_l1Bytes.f k l0 bt674.2 8).bind fun bt676 => ((spec_l2Word.f k bt676.1).bind fun t678 => (if bt672.1 = 0 then (some (IntKind.u64.wrap ((IntKind.u64.wrap (2305843009213693951 + (IntKind.u64.wrap (bt674.1)))) - 2), bt676.2)) else (if bt672.1 = 1 then (some (IntKind.u64.wrap ((IntKind.u64.wrap (2305843010818082053 + (IntKind.u64.wrap (bt674.1)))) - 2), bt676.2)) else (if bt672.1 = 2 then (some (IntKind.u64.wrap (bt674.1), bt676.2)) else (if bt672.1 < 9 then (some (Int.tmod t678 2305843009213693951, bt676.2)) else (some (t678, bt676.2)))))))))
theorem spec_l2DrawWord.mono : ∀ a0 a1 k, LeO (spec_l2DrawWord.f k a0 a1) (spec_l2DrawWord.f (k + 1) a0 a1) := by
  intro a0 a1 k
  unfold spec_l2DrawWord.f
  repeat' first
      | (with_reducible exact spec_l1Bytes.mono _ _ _ _)
      | (with_reducible exact spec_l1Take.mono _ _ _ _)
      | (with_reducible exact spec_l2Word.mono _ _)
      | (with_reducible exact LeO.refl _)
      | (with_reducible exact LeO.none _)
      | (with_reducible refine LeO.ite ?_ ?_)
      | (with_reducible refine LeO.bind ?_ (fun _ => ?_))
      | exact spec_l1Bytes.mono _ _ _ _
      | exact spec_l1Take.mono _ _ _ _
      | exact spec_l2Word.mono _ _
      | exact LeO.none _
      | refine LeO.ite ?_ ?_
      | refine LeO.bind ?_ (fun _ => ?_)
set_option maxRecDepth 100000 in
set_option maxHeartbeats 4000000 in
theorem spec_l2DrawWord.calls (k : Nat) (A0 : Option Addr) (c0 : Nat) (l0 : List Int) (a1 : Int) (r1 : Int) (r2 : Int) (w : World) (hr0 : Kd.C (Kd.int .u8) w A0 l0.length l0) (hc0 : l0.length ≤ c0) (h : spec_l2DrawWord.f k l0 a1 = some (r1, r2)) :
    Calls Tryz.prog 165 #[.slice A0 l0.length c0, .int .i64 a1] w fun e w' => e = .returned (.tuple #[.int .u64 r1, .int .i64 r2]) ∧ Below w.heap.size w w' := by
  unfold spec_l2DrawWord.f at h
  repeat' (first | (rw [Option.bind_eq_some_iff] at h; obtain ⟨_, _, h⟩ := h) | (split at h) | (cases h <;> fail) | (replace h := Option.some.inj h) | (have h3_ := (Prod.mk.inj h).1; replace h := (Prod.mk.inj h).2; subst h3_) | (subst h))
  all_goals try contradiction
  all_goals refine ve_fn (args := [.slice A0 l0.length c0, .int .i64 a1]) Tryz.func165 rfl Tryz.ntmps165 rfl (good (Γ := fun W => Kd.C (Kd.int .u8) W A0 l0.length l0) (fun W hb => Kd.C_below hr0 hb)) ?_
  all_goals repeat' (first | refine rbt ?_ | refine rbf ?_ | refine wn ?_ | refine wq ?_ | refine wc_plain ?_ | refine wc_draw ?_ | refine rZ ?_ | refine rD ?_ | refine ve8 ?_ | refine ve4 ?_ | refine ve3 ?_ | refine ve1 ?_ | refine ve2 ?_ | refine ve5 ?_ | refine ve6 ?_ | refine ve7 ?_ | refine ve9 ?_ | refine rA ?_ | refine rE ?_ | refine rC ?_ | refine rB ?_ | refine rG ?_ | refine rH ?_ | refine rI ?_ | refine rJ ?_ | refine rcb ?_ | refine rcp (Pre := spec_l1Take.f _ _ _ _ = some (_, _)) (fun hp_ w_ hΓ => drb (spec_l1Take.calls _ _ _ _ _ _ _ _ w_ hΓ (by assumption) hp_)) ?_ | refine rcp (Pre := spec_l1Bytes.f _ _ _ _ = some (_, _)) (fun hp_ w_ hΓ => spec_l1Bytes.calls _ _ _ _ _ _ _ _ w_ hΓ (by assumption) hp_) ?_ | refine rcp (Pre := spec_l2Word.f _ _ = some _) (fun hp_ w_ hΓ => drb (spec_l2Word.calls _ _ _ w_ hp_)) ?_ | refine rel (fun w_ hΓ => ld_zero (by first  |  exact hΓ.z  |  exact hΓ.1.z  |  exact hΓ.1  |  exact hΓ)) ?_  |  refine req (fun w_ => eq_pt w_) ?_  |  refine req (fun w_ => ne_pt w_) ?_  |  refine req (fun w_ => eq_num w_) ?_  |  refine rsh ?_  |  refine rsl_ ?_  |  refine rslh ?_ | refine wb ?_ | refine wk ?_ | refine we ?_ | exact wt | refine wr ?_ | refine rr1 ?_ | refine rr2 ?_ | exact fr | exact fe | refine wTs ?_ | refine wFs ?_ | refine rof ?_ | refine rof0 ?_)

def spec_l2DrawScalar.f (k : Nat) (l0 : List Int) (a1 : Int) : Option (Int × Int) := (spec_l2DrawWord.f k l0 a1).bind fun bt679 => (some (IntKind.u64.wrap ((Int.tmod bt679.1 2305843010818082052) + 1), bt679.2))
theorem spec_l2DrawScalar.mono : ∀ a0 a1 k, LeO (spec_l2DrawScalar.f k a0 a1) (spec_l2DrawScalar.f (k + 1) a0 a1) := by
  intro a0 a1 k
  unfold spec_l2DrawScalar.f
  repeat' first
      | (with_reducible exact spec_l2DrawWord.mono _ _ _)
      | (with_reducible exact LeO.refl _)
      | (with_reducible exact LeO.none _)
      | (with_reducible refine LeO.ite ?_ ?_)
      | (with_reducible refine LeO.bind ?_ (fun _ => ?_))
      | exact spec_l2DrawWord.mono _ _ _
      | exact LeO.none _
      | refine LeO.ite ?_ ?_
      | refine LeO.bind ?_ (fun _ => ?_)
set_option maxHeartbeats 8000000 in
set_option maxRecDepth 100000 in
theorem spec_l2DrawScalar.calls (k : Nat) (A0 : Option Addr) (c0 : Nat) (l0 : List Int) (a1 : Int) (r1 : Int) (r2 : Int) (w : World) (hr0 : Kd.C (Kd.int .u8) w A0 l0.length l0) (hc0 : l0.length ≤ c0) (h : spec_l2DrawScalar.f k l0 a1 = some (r1, r2)) :
    Calls Tryz.prog 152 #[.slice A0 l0.length c0, .int .i64 a1] w fun e w' => e = .returned (.tuple #[.int .u64 r1, .int .i64 r2]) ∧ Below w.heap.size w w' := by
  have HR0 := Aside0.mk hr0
  have HC0 := Aside0.mk hc0
  clear hr0 hc0
  have HB := Aside0.mk (Below.refl w.heap.size w)
  have H : ((spec_l2DrawWord.f k l0 a1).bind fun bt679 => (some (IntKind.u64.wrap ((Int.tmod bt679.1 2305843010818082052) + 1), bt679.2))) = some (r1, r2) := h
  clear h
  replace H := Option.bind_eq_some_iff.mp H
  obtain ⟨⟨t679, t680⟩, A30, H⟩ := H
  try dsimp only at H
  have A3 := Aside0.mk A30
  clear A30
  simp only [Option.some.injEq, Prod.mk.injEq] at H
  obtain ⟨rfl, rfl⟩ := H
  go_enter Tryz.func152, Tryz.ntmps152
  go_wp2_with (first | ((with_reducible refine gate_callee (f := 165) rfl ?_); refine goesL_ (some 11) rfl rfl Tryz.func165 (by kernel_rfl) rfl #[.slice A0 l0.length c0, .int .i64 a1] rfl ga_ ?_; (with_reducible refine (spec_l2DrawWord.calls k _ _ l0 a1 t679 t680 _ ?side1 ?side2 A3.out).mono ?_); (case side1 => repeat (first | exact HR0.out | (with_reducible refine Kd.C_alloc ?_ _) | (with_reducible refine Kd.C_drewN ?_ _) | (with_reducible refine Kd.C_drew ?_))); (case side2 => exact HC0.out); rintro e w4 ⟨rfl, hb⟩; refine ⟨_, rfl, ?_⟩; have n0_ := Aside0.mk (below_step hb_ hb); clear HB; have HB := n0_; clear n0_; (try clear hb); (try clear hb2); (try clear hk); (try clear hi)))
  go_ret2
  exact ⟨by first | rfl | (simp [errW_none, errW_some] <;> rfl) | (simp [*, errW_none, errW_some] <;> rfl), by repeat (first | (with_reducible first | exact HB.out | apply below_alloc | apply pw_below_drewN | apply below_drew1) | exact HB.out)⟩

def spec_l3DrawPoint.f (k : Nat) (l0 : List Int) (a1 : Int) : Option (Int × Int × Bool × Int) := (spec_l1Take.f k l0 a1 16).bind fun bt682 => ((spec_l2DrawScalar.f k l0 bt682.2).bind fun bt684 => (if bt682.1 = 0 then ((spec_l3Zero.f).bind fun bt686 => (some (bt686.1, bt686.2.1, bt686.2.2, bt684.2))) else (if bt682.1 < 6 then ((spec_Base.f).bind fun bt689 => ((spec_Times.f k (Int.tmod bt684.1 20) bt689.1 bt689.2.1 bt689.2.2).bind fun bt692 => (some (bt692.1, bt692.2.1, bt692.2.2, bt684.2)))) else ((spec_Base.f).bind fun bt695 => ((spec_Times.f k bt684.1 bt695.1 bt695.2.1 bt695.2.2).bind fun bt698 => (some (bt698.1, bt698.2.1, bt698.2.2, bt684.2)))))))
theorem spec_l3DrawPoint.mono : ∀ a0 a1 k, LeO (spec_l3DrawPoint.f k a0 a1) (spec_l3DrawPoint.f (k + 1) a0 a1) := by
  intro a0 a1 k
  unfold spec_l3DrawPoint.f
  repeat' first
      | (with_reducible exact spec_Times.mono _ _ _ _ _)
      | (with_reducible exact spec_l1Take.mono _ _ _ _)
      | (with_reducible exact spec_l2DrawScalar.mono _ _ _)
      | (with_reducible exact LeO.refl _)
      | (with_reducible exact LeO.none _)
      | (with_reducible refine LeO.ite ?_ ?_)
      | (with_reducible refine LeO.bind ?_ (fun _ => ?_))
      | exact spec_Times.mono _ _ _ _ _
      | exact spec_l1Take.mono _ _ _ _
      | exact spec_l2DrawScalar.mono _ _ _
      | exact LeO.none _
      | refine LeO.ite ?_ ?_
      | refine LeO.bind ?_ (fun _ => ?_)
set_option maxRecDepth 100000 in
set_option maxHeartbeats 4000000 in
theorem spec_l3DrawPoint.calls (k : Nat) (A0 : Option Addr) (c0 : Nat) (l0 : List Int) (a1 : Int) (r1 : Int) (r2 : Int) (r3 : Bool) (r4 : Int) (w : World) (hr0 : Kd.C (Kd.int .u8) w A0 l0.length l0) (hc0 : l0.length ≤ c0) (h : spec_l3DrawPoint.f k l0 a1 = some (r1, r2, r3, r4)) :
    Calls Tryz.prog 130 #[.slice A0 l0.length c0, .int .i64 a1] w fun e w' => e = .returned (.tuple #[.agg #[.int .u64 r1, .int .u64 r2, .bool r3], .int .i64 r4]) ∧ Below w.heap.size w w' := by
  unfold spec_l3DrawPoint.f at h
  repeat' (first | (rw [Option.bind_eq_some_iff] at h; obtain ⟨_, _, h⟩ := h) | (split at h) | (cases h <;> fail) | (replace h := Option.some.inj h) | (have h3_ := (Prod.mk.inj h).1; replace h := (Prod.mk.inj h).2; subst h3_) | (subst h))
  all_goals try contradiction
  all_goals refine ve_fn (args := [.slice A0 l0.length c0, .int .i64 a1]) Tryz.func130 rfl Tryz.ntmps130 rfl (good (Γ := fun W => Kd.C (Kd.int .u8) W A0 l0.length l0) (fun W hb => Kd.C_below hr0 hb)) ?_
  all_goals repeat' (first | refine rbt ?_ | refine rbf ?_ | refine wn ?_ | refine wq ?_ | refine wc_plain ?_ | refine wc_draw ?_ | refine rZ ?_ | refine rD ?_ | refine ve8 ?_ | refine ve4 ?_ | refine ve3 ?_ | refine ve1 ?_ | refine ve2 ?_ | refine ve5 ?_ | refine ve6 ?_ | refine ve7 ?_ | refine ve9 ?_ | refine rA ?_ | refine rE ?_ | refine rC ?_ | refine rB ?_ | refine rG ?_ | refine rH ?_ | refine rI ?_ | refine rJ ?_ | refine rcb ?_ | refine rcp (Pre := spec_l1Take.f _ _ _ _ = some (_, _)) (fun hp_ w_ hΓ => drb (spec_l1Take.calls _ _ _ _ _ _ _ _ w_ hΓ (by assumption) hp_)) ?_ | refine rcp (Pre := spec_l2DrawScalar.f _ _ _ = some (_, _)) (fun hp_ w_ hΓ => spec_l2DrawScalar.calls _ _ _ _ _ _ _ w_ hΓ (by assumption) hp_) ?_ | refine rc (fun w_ hΓ => spec_l3Zero.calls _ _ _ w_ (by assumption)) ?_ | refine rc (fun w_ hΓ => spec_Base.calls _ _ _ w_ (by assumption)) ?_ | refine rcp (Pre := spec_Times.f _ _ _ _ _ = some (_, _, _)) (fun hp_ w_ hΓ => spec_Times.calls _ _ _ _ _ _ _ _ w_ hp_) ?_ | refine rel (fun w_ hΓ => ld_zero (by first  |  exact hΓ.z  |  exact hΓ.1.z  |  exact hΓ.1  |  exact hΓ)) ?_  |  refine req (fun w_ => eq_pt w_) ?_  |  refine req (fun w_ => ne_pt w_) ?_  |  refine req (fun w_ => eq_num w_) ?_  |  refine rsh ?_  |  refine rsl_ ?_  |  refine rslh ?_ | refine wb ?_ | refine wk ?_ | refine we ?_ | exact wt | refine wr ?_ | refine rr1 ?_ | refine rr2 ?_ | exact fr | exact fe | refine wTs ?_ | refine wFs ?_ | refine rof ?_ | refine rof0 ?_)

def spec_l3AnyPoint.f (k : Nat) (l0 : List Int) (a1 : Int) : Option (Int × Int × Bool × Int) := (spec_l1Take.f k l0 a1 20).bind fun bt702 => ((spec_l3DrawPoint.f k l0 bt702.2).bind fun bt704 => (if bt702.1 = 18 then (some (bt704.1, IntKind.u64.wrap (bt704.2.1 + 1), bt704.2.2.1, bt704.2.2.2)) else (if bt702.1 = 19 then (some (IntKind.u64.wrap (bt704.1 + 2305843009213693951), bt704.2.1, false, bt704.2.2.2)) else (some (bt704.1, bt704.2.1, bt704.2.2.1, bt704.2.2.2)))))
theorem spec_l3AnyPoint.mono : ∀ a0 a1 k, LeO (spec_l3AnyPoint.f k a0 a1) (spec_l3AnyPoint.f (k + 1) a0 a1) := by
  intro a0 a1 k
  unfold spec_l3AnyPoint.f
  repeat' first
      | (with_reducible exact spec_l1Take.mono _ _ _ _)
      | (with_reducible exact spec_l3DrawPoint.mono _ _ _)
      | (with_reducible exact LeO.refl _)
      | (with_reducible exact LeO.none _)
      | (with_reducible refine LeO.ite ?_ ?_)
      | (with_reducible refine LeO.bind ?_ (fun _ => ?_))
      | exact spec_l1Take.mono _ _ _ _
      | exact spec_l3DrawPoint.mono _ _ _
      | exact LeO.none _
      | refine LeO.ite ?_ ?_
      | refine LeO.bind ?_ (fun _ => ?_)
set_option maxRecDepth 100000 in
set_option maxHeartbeats 4000000 in
theorem spec_l3AnyPoint.calls (k : Nat) (A0 : Option Addr) (c0 : Nat) (l0 : List Int) (a1 : Int) (r1 : Int) (r2 : Int) (r3 : Bool) (r4 : Int) (w : World) (hr0 : Kd.C (Kd.int .u8) w A0 l0.length l0) (hc0 : l0.length ≤ c0) (h : spec_l3AnyPoint.f k l0 a1 = some (r1, r2, r3, r4)) :
    Calls Tryz.prog 91 #[.slice A0 l0.length c0, .int .i64 a1] w fun e w' => e = .returned (.tuple #[.agg #[.int .u64 r1, .int .u64 r2, .bool r3], .int .i64 r4]) ∧ Below w.heap.size w w' := by
  unfold spec_l3AnyPoint.f at h
  repeat' (first | (rw [Option.bind_eq_some_iff] at h; obtain ⟨_, _, h⟩ := h) | (split at h) | (cases h <;> fail) | (replace h := Option.some.inj h) | (have h3_ := (Prod.mk.inj h).1; replace h := (Prod.mk.inj h).2; subst h3_) | (subst h))
  all_goals try contradiction
  all_goals refine ve_fn (args := [.slice A0 l0.length c0, .int .i64 a1]) Tryz.func91 rfl Tryz.ntmps91 rfl (good (Γ := fun W => Kd.C (Kd.int .u8) W A0 l0.length l0) (fun W hb => Kd.C_below hr0 hb)) ?_
  all_goals repeat' (first | refine rbt ?_ | refine rbf ?_ | refine wn ?_ | refine wq ?_ | refine wc_plain ?_ | refine wc_draw ?_ | refine rZ ?_ | refine rD ?_ | refine ve8 ?_ | refine ve4 ?_ | refine ve3 ?_ | refine ve1 ?_ | refine ve2 ?_ | refine ve5 ?_ | refine ve6 ?_ | refine ve7 ?_ | refine ve9 ?_ | refine rA ?_ | refine rE ?_ | refine rC ?_ | refine rB ?_ | refine rG ?_ | refine rH ?_ | refine rI ?_ | refine rJ ?_ | refine rcb ?_ | refine rcp (Pre := spec_l1Take.f _ _ _ _ = some (_, _)) (fun hp_ w_ hΓ => drb (spec_l1Take.calls _ _ _ _ _ _ _ _ w_ hΓ (by assumption) hp_)) ?_ | refine rcp (Pre := spec_l3DrawPoint.f _ _ _ = some (_, _, _, _)) (fun hp_ w_ hΓ => spec_l3DrawPoint.calls _ _ _ _ _ _ _ _ _ w_ hΓ (by assumption) hp_) ?_ | refine rel (fun w_ hΓ => ld_zero (by first  |  exact hΓ.z  |  exact hΓ.1.z  |  exact hΓ.1  |  exact hΓ)) ?_  |  refine req (fun w_ => eq_pt w_) ?_  |  refine req (fun w_ => ne_pt w_) ?_  |  refine req (fun w_ => eq_num w_) ?_  |  refine rsh ?_  |  refine rsl_ ?_  |  refine rslh ?_ | refine wb ?_ | refine wk ?_ | refine we ?_ | exact wt | refine wr ?_ | refine rr1 ?_ | refine rr2 ?_ | exact fr | exact fe | refine wTs ?_ | refine wFs ?_ | refine rof ?_ | refine rof0 ?_)

end Go.Proofs.YtgdcafbdkidamaaGreatDoor.B
end
section
namespace Go.Proofs.YtgdcafbdkidamaaGreatDoor.B
open Go.Proofs.YtgdcafbdkidamaaGreatDoor.Sq Go.RowKit Go.Proofs.YtgdcafbdkidamaaGreatDoor.H0 Go.Proofs.YtgdcafbdkidamaaGreatDoor.F0 Go.Proofs.YtgdcafbdkidamaaGreatDoorW.PrintWords Go.Proofs.YtgdcafbdkidamaaGreatDoorW.PrintLast Go.Proofs.YtgdcafbdkidamaaGreatDoorW.PrintMore Go.Proofs.YtgdcafbdkidamaaGreatDoor.Ve Go.Proofs.YtgdcafbdkidamaaGreatDoor.VeT Go.Proofs.YtgdcafbdkidamaaGreatDoor.VeE
attribute [local go_sem high] field_num_fieldP   -- for this text's walks alone
attribute [local go_sem] max2_int min2_int max_two min_two max_three min_three max_four min_four   -- for this text's walks alone
set_option linter.unusedVariables false
set_option linter.unusedSimpArgs false
def spec_DrawAgree.f (k : Nat) (l0 : List Int) : Option (Int × Int × Bool × Int × Int × Bool × Int × Int × Bool × ByteArray) := (spec_l3AnyPoint.f k l0 0).bind fun bt712 => ((spec_l3AnyPoint.f k l0 bt712.2.2.2).bind fun bt717 => ((spec_l3AnyPoint.f k l0 bt717.2.2.2).bind fun bt722 => ((spec_l1Some.f k l0 bt722.2.2.2).bind fun bt727 => (some (bt712.1, bt712.2.1, bt712.2.2.1, bt717.1, bt717.2.1, bt717.2.2.1, bt722.1, bt722.2.1, bt722.2.2.1, bt727.1)))))
set_option maxRecDepth 100000 in
set_option maxHeartbeats 4000000 in
theorem spec_DrawAgree.calls (k : Nat) (A0 : Option Addr) (c0 : Nat) (l0 : List Int) (r1 : Int) (r2 : Int) (r3 : Bool) (r4 : Int) (r5 : Int) (r6 : Bool) (r7 : Int) (r8 : Int) (r9 : Bool) (r10 : ByteArray) (w : World) (hr0 : Kd.C (Kd.int .u8) w A0 l0.length l0) (hc0 : l0.length ≤ c0) (h : spec_DrawAgree.f k l0 = some (r1, r2, r3, r4, r5, r6, r7, r8, r9, r10)) :
    Calls Tryz.prog 41 #[.slice A0 l0.length c0] w fun e w' => e = .returned (.tuple #[.agg #[.int .u64 r1, .int .u64 r2, .bool r3], .agg #[.int .u64 r4, .int .u64 r5, .bool r6], .agg #[.int .u64 r7, .int .u64 r8, .bool r9], .string r10]) ∧ Below w.heap.size w w' := by
  unfold spec_DrawAgree.f at h
  repeat' (first | (rw [Option.bind_eq_some_iff] at h; obtain ⟨_, _, h⟩ := h) | (split at h) | (cases h <;> fail) | (replace h := Option.some.inj h) | (have h3_ := (Prod.mk.inj h).1; replace h := (Prod.mk.inj h).2; subst h3_) | (subst h))
  all_goals try contradiction
  all_goals refine ve_fn (args := [.slice A0 l0.length c0]) Tryz.func41 rfl Tryz.ntmps41 rfl (good (Γ := fun W => Kd.C (Kd.int .u8) W A0 l0.length l0) (fun W hb => Kd.C_below hr0 hb)) ?_
  all_goals repeat' (first | refine rbt ?_ | refine rbf ?_ | refine wn ?_ | refine wq ?_ | refine wc_plain ?_ | refine wc_draw ?_ | refine rZ ?_ | refine rD ?_ | refine ve8 ?_ | refine ve4 ?_ | refine ve3 ?_ | refine ve1 ?_ | refine ve2 ?_ | refine ve5 ?_ | refine ve6 ?_ | refine ve7 ?_ | refine ve9 ?_ | refine rA ?_ | refine rE ?_ | refine rC ?_ | refine rB ?_ | refine rG ?_ | refine rH ?_ | refine rI ?_ | refine rJ ?_ | refine rcb ?_ | refine rcp (Pre := spec_l3AnyPoint.f _ _ _ = some (_, _, _, _)) (fun hp_ w_ hΓ => spec_l3AnyPoint.calls _ _ _ _ _ _ _ _ _ w_ hΓ (by assumption) hp_) ?_ | refine rcp (Pre := spec_l1Some.f _ _ _ = some (_, _)) (fun hp_ w_ hΓ => spec_l1Some.calls _ _ _ _ _ _ _ w_ hΓ (by assumption) hp_) ?_ | refine rel (fun w_ hΓ => ld_zero (by first  |  exact hΓ.z  |  exact hΓ.1.z  |  exact hΓ.1  |  exact hΓ)) ?_  |  refine req (fun w_ => eq_pt w_) ?_  |  refine req (fun w_ => ne_pt w_) ?_  |  refine req (fun w_ => eq_num w_) ?_  |  refine rsh ?_  |  refine rsl_ ?_  |  refine rslh ?_ | refine wb ?_ | refine wk ?_ | refine we ?_ | exact wt | refine wr ?_ | refine rr1 ?_ | refine rr2 ?_ | exact fr | exact fe | refine wTs ?_ | refine wFs ?_ | refine rof ?_ | refine rof0 ?_)

end Go.Proofs.YtgdcafbdkidamaaGreatDoor.B
end
