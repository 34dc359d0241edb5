/- What the proof of FnKeys leans on, part 28: cut out of the texts of this claim's making by a program (wip/tools/pack.py). -/
import Derived.Test.YtgdcafbdkidamaaGreatDoorKKeys5
import Derived.Test.YtgdcafbdkidamaaGreatDoorKKeys8
import Derived.Test.YtgdcafbdkidamaaGreatDoorKKeys10
import Derived.Test.YtgdcafbdkidamaaGreatDoorKKeys11
import Derived.Test.YtgdcafbdkidamaaGreatDoorKKeys12
import Derived.Test.YtgdcafbdkidamaaGreatDoorKKeys13
import Derived.Test.YtgdcafbdkidamaaGreatDoorKKeys19
import Derived.Test.YtgdcafbdkidamaaGreatDoorKKeys24
import Derived.Test.YtgdcafbdkidamaaGreatDoorKKeys25
import Derived.Test.YtgdcafbdkidamaaGreatDoorKKeys27
import Derived.KernelRfl
section
namespace Go.Proofs.YtgdcafbdkidamaaGreatDoor.C
open Go.Proofs.YtgdcafbdkidamaaGreatDoor.Sq Go.RowKit Go.Proofs.YtgdcafbdkidamaaGreatDoor.B Go.Proofs.YtgdcafbdkidamaaGreatDoor.H0 Go.Proofs.YtgdcafbdkidamaaGreatDoor.G1 Go.Proofs.YtgdcafbdkidamaaGreatDoor.F0 Go.Proofs.YtgdcafbdkidamaaGreatDoor.H1 Go.Proofs.YtgdcafbdkidamaaGreatDoor.H2 Go.Proofs.YtgdcafbdkidamaaGreatDoor.H3 Go.Proofs.YtgdcafbdkidamaaGreatDoor.KG2 Go.Proofs.YtgdcafbdkidamaaGreatDoorW.PrintWords Go.Proofs.YtgdcafbdkidamaaGreatDoorW.PrintLast Go.Proofs.YtgdcafbdkidamaaGreatDoorW.PrintMore Go.Proofs.YtgdcafbdkidamaaGreatDoor.Ve Go.Proofs.YtgdcafbdkidamaaGreatDoor.VeT Go.Proofs.YtgdcafbdkidamaaGreatDoor.VeE
attribute [local go_sem high] field_num_fieldP   -- for this text's walks alone
attribute [local go_sem] max2_int min2_int max_two min_two max_three min_three max_four min_four   -- for this text's walks alone
set_option linter.unusedVariables false
set_option linter.unusedSimpArgs false
attribute [local go_sem high] eqA27
def impl_proper.f (k : Nat) (a0_0 : Int) (a0_1 : Int) (a0_2 : Bool) : Option (Bool) := (impl_OnCurve.f k a0_0 a0_1 a0_2).bind fun t573 => (if t573 = true then (some (!(a0_0 == 0) || (!(a0_1 == 0) || (!a0_2)))) else (some false))
set_option maxRecDepth 100000 in
set_option maxHeartbeats 4000000 in
theorem impl_proper.calls (k : Nat) (a0_0 : Int) (a0_1 : Int) (a0_2 : Bool) (r : Bool) (w : World) (hG : G w) (h : impl_proper.f k a0_0 a0_1 a0_2 = some r) :
    Calls Tryz.prog 79 #[.agg #[.int .u64 a0_0, .int .u64 a0_1, .bool a0_2]] w fun e w' => e = .returned (.bool r) ∧ Below w.heap.size w w' := by
  unfold impl_proper.f at h
  repeat' (first | (rw [Option.bind_eq_some_iff] at h; obtain ⟨_, _, h⟩ := h) | (split at h) | (cases h <;> fail) | (replace h := Option.some.inj h) | (have h3_ := (Prod.mk.inj h).1; replace h := (Prod.mk.inj h).2; subst h3_) | (subst h))
  all_goals try contradiction
  all_goals refine ve_fn (args := [.agg #[.int .u64 a0_0, .int .u64 a0_1, .bool a0_2]]) Tryz.func79 rfl Tryz.ntmps79 rfl (good (Γ := fun W => G W) (fun W hb => G_below hb hG)) ?_
  all_goals repeat' (first | refine rbt ?_ | refine rbf ?_ | refine wn ?_ | refine wq ?_ | refine wc_plain ?_ | refine wc_draw ?_ | refine rZ ?_ | refine rD ?_ | refine ve8 ?_ | refine ve4 ?_ | refine ve3 ?_ | refine ve1 ?_ | refine ve2 ?_ | refine ve5 ?_ | refine ve6 ?_ | refine ve7 ?_ | refine ve9 ?_ | refine rA ?_ | refine rE ?_ | refine rC ?_ | refine rB ?_ | refine rG ?_ | refine rH ?_ | refine rI ?_ | refine rJ ?_ | refine rcb ?_ | refine rcp (Pre := impl_OnCurve.f _ _ _ _ = some _) (fun hp_ w_ hΓ => impl_OnCurve.calls _ _ _ _ _ w_ hΓ hp_) ?_ | refine rel (fun w_ hΓ => ld_zero (by first  |  exact hΓ.z  |  exact hΓ.1.z  |  exact hΓ.1  |  exact hΓ)) ?_  |  refine req (fun w_ => eq_pt w_) ?_  |  refine req (fun w_ => ne_pt w_) ?_  |  refine req (fun w_ => eq_num w_) ?_  |  refine rsh ?_  |  refine rsl_ ?_  |  refine rslh ?_ | refine wb ?_ | refine wk ?_ | refine we ?_ | exact wt | refine wr ?_ | refine rr1 ?_ | refine rr2 ?_ | exact fr | exact fe | refine wTs ?_ | refine wFs ?_ | refine rof ?_ | refine rof0 ?_)

def impl_PutPoint.f (k : Nat) (a0_0 : Int) (a0_1 : Int) (a0_2 : Bool) : Option (ByteArray) := (impl_proper.f k a0_0 a0_1 a0_2).bind fun t575 => (if t575 = true then ((impl_PutWord.f k (IntKind.u64.wrap ((IntKind.u64.wrap (a0_0 + 4611686018427387904)) + (IntKind.u64.wrap ((Int.tmod a0_1 2) * 2305843009213693952))))).bind fun t576 => (some t576)) else ((impl_PutWord.f k 0).bind fun t577 => (some t577)))
set_option maxHeartbeats 8000000 in
set_option maxRecDepth 100000 in
theorem impl_PutPoint.calls (k : Nat) (a0_0 : Int) (a0_1 : Int) (a0_2 : Bool) (r : ByteArray) (w : World) (hG : G w) (h : impl_PutPoint.f k a0_0 a0_1 a0_2 = some r) :
    Calls Tryz.prog 81 #[.agg #[.int .u64 a0_0, .int .u64 a0_1, .bool a0_2]] w fun e w' => e = .returned (.string r) ∧ Below w.heap.size w w' := by
  have hu27 := Tryz.underlying27
  have HB := Aside0.mk (Below.refl w.heap.size w)
  have H : ((impl_proper.f k a0_0 a0_1 a0_2).bind fun t575 => (if t575 = true then ((impl_PutWord.f k (IntKind.u64.wrap ((IntKind.u64.wrap (a0_0 + 4611686018427387904)) + (IntKind.u64.wrap ((Int.tmod a0_1 2) * 2305843009213693952))))).bind fun t576 => (some t576)) else ((impl_PutWord.f k 0).bind fun t577 => (some t577)))) = some r := h
  clear h
  have HG := Aside0.mk hG
  clear hG
  replace H := Option.bind_eq_some_iff.mp H
  obtain ⟨t575, A20, H⟩ := H
  try dsimp only at H
  have A2 := Aside0.mk A20
  clear A20
  by_cases c3 : t575 = true
  rotate_left
  · replace c3 := Bool.eq_false_iff.mpr c3
    subst c3
    have H1 : ((impl_PutWord.f k 0).bind fun t577 => (some t577)) = some r := by rw [if_neg (show ¬ (false = true) by decide)] at H; exact H
    clear H
    have H := H1
    clear H1
    replace H := Option.bind_eq_some_iff.mp H
    obtain ⟨t577, A100, H⟩ := H
    replace H : (some t577) = some r := H
    have A10 := Aside0.mk A100
    clear A100
    obtain rfl := Option.some.inj H
    go_enter Tryz.func81, Tryz.ntmps81
    go_wp2_with (first | ((with_reducible refine gate_dst (N := 1) rfl ?_); refine box_event ?hg (N := 1) ?hd (cs := #[.int .u64 a0_0, .int .u64 a0_1, .bool a0_2]) (t := 27) ?hr ?_; (case hd => rfl); (case hg => rfl); (case hr => first | (go_simp; done) | (go_simp; rfl)); intro gb574 hg w11 hbox hb; have n0_ := Aside0.mk (below_step hb_ hb); have n1_ := Aside0.mk (hbox); have n2_ := Aside0.mk ((by rw [hg]; exact (below_size hb_) : w.heap.size ≤ gb574)); have n3_ := Aside0.mk ((by rw [hg]; exact (below_size hb_) : w.heap.size ≤ gb574)); clear HB; have HB := n0_; have BK574 := n1_; have GW574 := n2_; have GE574 := n3_; clear n0_ n1_ n2_ n3_; clear hb hbox hg; have hcz12_0 : w11.cell? ⟨gb574, 0, none⟩ = some (.int .u64 a0_0) := (blk_cell BK574.out 0).trans rfl; have hcz12_1 : w11.cell? ⟨gb574, 1, none⟩ = some (.int .u64 a0_1) := (blk_cell BK574.out 1).trans rfl; have hcz12_2 : w11.cell? ⟨gb574, 2, none⟩ = some (.bool a0_2) := (blk_cell BK574.out 2).trans rfl; have hfz12_0 := blk_frozen BK574.out 0; have hfz12_1 := blk_frozen BK574.out 1; have hfz12_2 := blk_frozen BK574.out 2) | ((with_reducible refine gate_callee (f := 79) rfl ?_); refine goesL_ (some 4) rfl rfl Tryz.func79 (by kernel_rfl) rfl #[.agg #[.int .u64 a0_0, .int .u64 a0_1, .bool a0_2]] rfl ga_ ?_; (with_reducible refine (impl_proper.calls k a0_0 a0_1 a0_2 false _ (G_below (by repeat (first | (with_reducible first | exact HB.out | apply below_alloc | apply pw_below_drewN | apply below_drew1 | refine below_set ?_ GE574.out) | exact HB.out)) HG.out) A2.out).mono ?_); rintro e w13 ⟨rfl, hb⟩; refine ⟨_, rfl, ?_⟩; have n0_ := Aside0.mk (blk_below (g := gb574) (o := .cells #[.int .u64 a0_0, .int .u64 a0_1, .bool a0_2] 27 (0, 0)) (by (with_reducible repeat (first | refine blk_drewN ?_ _ | refine blk_drew ?_ | refine blk_alloc ?_ _)); exact BK574.out) hb); have n1_ := Aside0.mk (below_step (by repeat (first | (with_reducible first | exact HB.out | apply below_alloc | apply pw_below_drewN | apply below_drew1 | refine below_set ?_ GE574.out) | exact HB.out)) hb); clear BK574; clear HB; have BK574 := n0_; have HB := n1_; clear n0_ n1_; (try clear hb); (try clear hb2); (try clear hk); (try clear hi)) | ((with_reducible refine gate_callee (f := 66) rfl ?_); refine goesL_ (some 6) rfl rfl Tryz.func66 (by kernel_rfl) rfl #[.int .u64 0] rfl ga_ ?_; (with_reducible refine (impl_PutWord.calls k 0 t577 _ A10.out).mono ?_); rintro e w14 ⟨rfl, hb⟩; refine ⟨_, rfl, ?_⟩; have n0_ := Aside0.mk (blk_below (g := gb574) (o := .cells #[.int .u64 a0_0, .int .u64 a0_1, .bool a0_2] 27 (0, 0)) (by (with_reducible repeat (first | refine blk_drewN ?_ _ | refine blk_drew ?_ | refine blk_alloc ?_ _)); exact BK574.out) hb); have n1_ := Aside0.mk (below_step (by repeat (first | (with_reducible first | exact HB.out | apply below_alloc | apply pw_below_drewN | apply below_drew1 | refine below_set ?_ GE574.out) | exact HB.out)) hb); clear BK574; clear HB; have BK574 := n0_; have HB := n1_; clear n0_ n1_; (try clear hb); (try clear hb2); (try clear hk); (try clear hi)))
    go_ret
    exact ⟨by first | rfl | (simp [errW_none, errW_some] <;> rfl) | (simp [*, errW_none, errW_some] <;> rfl), by repeat (first | (with_reducible first | exact HB.out | apply below_alloc | apply pw_below_drewN | apply below_drew1 | refine below_set ?_ GE574.out) | exact HB.out)⟩

  subst c3
  have H1 : ((impl_PutWord.f k (IntKind.u64.wrap ((IntKind.u64.wrap (a0_0 + 4611686018427387904)) + (IntKind.u64.wrap ((Int.tmod a0_1 2) * 2305843009213693952))))).bind fun t576 => (some t576)) = some r := by rw [if_pos rfl] at H; exact H
  clear H
  have H := H1
  clear H1
  replace H := Option.bind_eq_some_iff.mp H
  obtain ⟨t576, A40, H⟩ := H
  replace H : (some t576) = some r := H
  have A4 := Aside0.mk A40
  clear A40
  obtain rfl := Option.some.inj H
  go_enter Tryz.func81, Tryz.ntmps81
  go_wp2_with (first | ((with_reducible refine gate_dst (N := 1) rfl ?_); refine box_event ?hg (N := 1) ?hd (cs := #[.int .u64 a0_0, .int .u64 a0_1, .bool a0_2]) (t := 27) ?hr ?_; (case hd => rfl); (case hg => rfl); (case hr => first | (go_simp; done) | (go_simp; rfl)); intro gb574 hg w5 hbox hb; have n0_ := Aside0.mk (below_step hb_ hb); have n1_ := Aside0.mk (hbox); have n2_ := Aside0.mk ((by rw [hg]; exact (below_size hb_) : w.heap.size ≤ gb574)); have n3_ := Aside0.mk ((by rw [hg]; exact (below_size hb_) : w.heap.size ≤ gb574)); clear HB; have HB := n0_; have BK574 := n1_; have GW574 := n2_; have GE574 := n3_; clear n0_ n1_ n2_ n3_; clear hb hbox hg; have hcz6_0 : w5.cell? ⟨gb574, 0, none⟩ = some (.int .u64 a0_0) := (blk_cell BK574.out 0).trans rfl; have hcz6_1 : w5.cell? ⟨gb574, 1, none⟩ = some (.int .u64 a0_1) := (blk_cell BK574.out 1).trans rfl; have hcz6_2 : w5.cell? ⟨gb574, 2, none⟩ = some (.bool a0_2) := (blk_cell BK574.out 2).trans rfl; have hfz6_0 := blk_frozen BK574.out 0; have hfz6_1 := blk_frozen BK574.out 1; have hfz6_2 := blk_frozen BK574.out 2) | ((with_reducible refine gate_callee (f := 79) rfl ?_); refine goesL_ (some 4) rfl rfl Tryz.func79 (by kernel_rfl) rfl #[.agg #[.int .u64 a0_0, .int .u64 a0_1, .bool a0_2]] rfl ga_ ?_; (with_reducible refine (impl_proper.calls k a0_0 a0_1 a0_2 true _ (G_below (by repeat (first | (with_reducible first | exact HB.out | apply below_alloc | apply pw_below_drewN | apply below_drew1 | refine below_set ?_ GE574.out) | exact HB.out)) HG.out) A2.out).mono ?_); rintro e w7 ⟨rfl, hb⟩; refine ⟨_, rfl, ?_⟩; have n0_ := Aside0.mk (blk_below (g := gb574) (o := .cells #[.int .u64 a0_0, .int .u64 a0_1, .bool a0_2] 27 (0, 0)) (by (with_reducible repeat (first | refine blk_drewN ?_ _ | refine blk_drew ?_ | refine blk_alloc ?_ _)); exact BK574.out) hb); have n1_ := Aside0.mk (below_step (by repeat (first | (with_reducible first | exact HB.out | apply below_alloc | apply pw_below_drewN | apply below_drew1 | refine below_set ?_ GE574.out) | exact HB.out)) hb); clear BK574; clear HB; have BK574 := n0_; have HB := n1_; clear n0_ n1_; (try clear hb); (try clear hb2); (try clear hk); (try clear hi); have hcz8_0 : w7.cell? ⟨gb574, 0, none⟩ = some (.int .u64 a0_0) := (blk_cell BK574.out 0).trans rfl; have hcz8_1 : w7.cell? ⟨gb574, 1, none⟩ = some (.int .u64 a0_1) := (blk_cell BK574.out 1).trans rfl; have hcz8_2 : w7.cell? ⟨gb574, 2, none⟩ = some (.bool a0_2) := (blk_cell BK574.out 2).trans rfl; have hfz8_0 := blk_frozen BK574.out 0; have hfz8_1 := blk_frozen BK574.out 1; have hfz8_2 := blk_frozen BK574.out 2) | ((with_reducible refine gate_callee (f := 66) rfl ?_); refine goesL_ (some 15) rfl rfl Tryz.func66 (by kernel_rfl) rfl #[.int .u64 (IntKind.u64.wrap ((IntKind.u64.wrap (a0_0 + 4611686018427387904)) + (IntKind.u64.wrap ((Int.tmod a0_1 2) * 2305843009213693952))))] rfl ga_ ?_; (with_reducible refine (impl_PutWord.calls k (IntKind.u64.wrap ((IntKind.u64.wrap (a0_0 + 4611686018427387904)) + (IntKind.u64.wrap ((Int.tmod a0_1 2) * 2305843009213693952)))) t576 _ A4.out).mono ?_); rintro e w9 ⟨rfl, hb⟩; refine ⟨_, rfl, ?_⟩; have n0_ := Aside0.mk (blk_below (g := gb574) (o := .cells #[.int .u64 a0_0, .int .u64 a0_1, .bool a0_2] 27 (0, 0)) (by (with_reducible repeat (first | refine blk_drewN ?_ _ | refine blk_drew ?_ | refine blk_alloc ?_ _)); exact BK574.out) hb); have n1_ := Aside0.mk (below_step (by repeat (first | (with_reducible first | exact HB.out | apply below_alloc | apply pw_below_drewN | apply below_drew1 | refine below_set ?_ GE574.out) | exact HB.out)) hb); clear BK574; clear HB; have BK574 := n0_; have HB := n1_; clear n0_ n1_; (try clear hb); (try clear hb2); (try clear hk); (try clear hi)))
  go_ret
  exact ⟨by first | rfl | (simp [errW_none, errW_some] <;> rfl) | (simp [*, errW_none, errW_some] <;> rfl), by repeat (first | (with_reducible first | exact HB.out | apply below_alloc | apply pw_below_drewN | apply below_drew1 | refine below_set ?_ GE574.out) | exact HB.out)⟩
def spec_l7Expanded.f (k : Nat) (a0 : ByteArray) (a1 : ByteArray) (a2 : ByteArray) : Option (ByteArray) := (spec_Sha256.f a2).bind fun t614 => (if a1.size + t614.size ≤ 9223372036854775807 then ((spec_Expand.f k a0 (a1 ++ t614) 32).bind fun bt615 => (some bt615.1)) else (none))
set_option maxHeartbeats 8000000 in
set_option maxRecDepth 100000 in
theorem spec_l7Expanded.calls (k : Nat) (a0 : ByteArray) (a1 : ByteArray) (a2 : ByteArray) (r : ByteArray) (w : World) (h : spec_l7Expanded.f k a0 a1 a2 = some r) :
    Calls Tryz.prog 97 #[.string a0, .string a1, .string a2] w fun e w' => e = .returned (.string r) ∧ Below w.heap.size w w' := by
  have HB := Aside0.mk (Below.refl w.heap.size w)
  have H : ((spec_Sha256.f a2).bind fun t614 => (if a1.size + t614.size ≤ 9223372036854775807 then ((spec_Expand.f k a0 (a1 ++ t614) 32).bind fun bt615 => (some bt615.1)) else (none))) = some r := h
  clear h
  replace H := Option.bind_eq_some_iff.mp H
  obtain ⟨t614, A40, H⟩ := H
  try dsimp only at H
  have A4 := Aside0.mk A40
  clear A40
  by_cases c5 : a1.size + t614.size ≤ 9223372036854775807
  rotate_left
  · rw [if_neg c5] at H
    exact absurd H (by simp)

  rw [if_pos c5] at H
  have c5b0 := eq_true c5
  have c5b1 := decide_eq_true c5
  try have c5b2 : (9223372036854775807 < a1.size + t614.size) = False := eq_false (Nat.not_lt.2 c5)
  try (have c5b3 := c5b2; simp only [ByteArray.size_append] at c5b3)
  replace H := Option.bind_eq_some_iff.mp H
  obtain ⟨⟨t615, t616⟩, A60, H⟩ := H
  replace H : (some t615) = some r := H
  have A6 := Aside0.mk A60
  clear A60
  obtain rfl := Option.some.inj H
  go_enter Tryz.func97, Tryz.ntmps97
  go_wp2_with (first | ((with_reducible refine gate_callee (f := 101) rfl ?_); refine goesL_ (some 13) rfl rfl Tryz.func101 (by kernel_rfl) rfl #[.string a2] rfl ga_ ?_; (with_reducible refine (spec_Sha256.calls a2 t614 _ A4.out).mono ?_); rintro e w7 ⟨rfl, hb⟩; refine ⟨_, rfl, ?_⟩; have n0_ := Aside0.mk (below_step hb_ hb); clear HB; have HB := n0_; clear n0_; (try clear hb); (try clear hb2); (try clear hk); (try clear hi)) | ((with_reducible refine gate_callee (f := 122) rfl ?_); refine goesL_ (some 15) rfl rfl Tryz.func122 (by kernel_rfl) rfl #[.string a0, .string (a1 ++ t614), .int .i64 32] rfl ga_ ?_; (with_reducible refine (spec_Expand.calls k a0 (a1 ++ t614) 32 t615 t616 _ A6.out).mono ?_); rintro e w8 ⟨rfl, hb⟩; refine ⟨_, rfl, ?_⟩; have n0_ := Aside0.mk (below_step hb_ hb); clear HB; have HB := n0_; clear n0_; (try clear hb); (try clear hb2); (try clear hk); (try clear hi)))
  go_ret
  exact ⟨by first | rfl | (simp [errW_none, errW_some] <;> rfl) | (simp [*, errW_none, errW_some] <;> rfl), by repeat (first | (with_reducible first | exact HB.out | apply below_alloc | apply pw_below_drewN | apply below_drew1) | exact HB.out)⟩
def spec_Agree.f (k : Nat) (a0_0 : Int) (a0_1 : Int) (a0_2 : Bool) (a1_0 : Int) (a1_1 : Int) (a1_2 : Bool) (a2_0 : Int) (a2_1 : Int) (a2_2 : Bool) (a3 : ByteArray) : Option (ByteArray × ByteArray × ByteArray) := (spec_PutPoint.f k a0_0 a0_1 a0_2).bind fun t621 => ((spec_PutPoint.f k a1_0 a1_1 a1_2).bind fun t622 => (if t621.size + t622.size ≤ 9223372036854775807 then ((spec_PutPoint.f k a2_0 a2_1 a2_2).bind fun t623 => (if (t621 ++ t622).size + t623.size ≤ 9223372036854775807 then ((spec_Extract.f k (⟨#[]⟩ : ByteArray) ((t621 ++ t622) ++ t623)).bind fun t624 => ((spec_l7Expanded.f k t624 (⟨#[83, 101, 115, 115, 105, 111, 110]⟩ : ByteArray) a3).bind fun t625 => ((spec_l7Expanded.f k t624 (⟨#[83, 101, 114, 118, 101, 114]⟩ : ByteArray) a3).bind fun t626 => ((spec_l7Expanded.f k t624 (⟨#[67, 108, 105, 101, 110, 116]⟩ : ByteArray) a3).bind fun t627 => (some (t625, t626, t627)))))) else (none))) else (none)))
set_option maxRecDepth 100000 in
set_option maxHeartbeats 4000000 in
theorem spec_Agree.calls (k : Nat) (a0_0 : Int) (a0_1 : Int) (a0_2 : Bool) (a1_0 : Int) (a1_1 : Int) (a1_2 : Bool) (a2_0 : Int) (a2_1 : Int) (a2_2 : Bool) (a3 : ByteArray) (r1 : ByteArray) (r2 : ByteArray) (r3 : ByteArray) (w : World) (h : spec_Agree.f k a0_0 a0_1 a0_2 a1_0 a1_1 a1_2 a2_0 a2_1 a2_2 a3 = some (r1, r2, r3)) :
    Calls Tryz.prog 44 #[.agg #[.int .u64 a0_0, .int .u64 a0_1, .bool a0_2], .agg #[.int .u64 a1_0, .int .u64 a1_1, .bool a1_2], .agg #[.int .u64 a2_0, .int .u64 a2_1, .bool a2_2], .string a3] w fun e w' => e = .returned (.agg #[.string r1, .string r2, .string r3]) ∧ Below w.heap.size w w' := by
  unfold spec_Agree.f at h
  repeat' (first | (rw [Option.bind_eq_some_iff] at h; obtain ⟨_, _, h⟩ := h) | (split at h) | (cases h <;> fail) | (replace h := Option.some.inj h) | (have h3_ := (Prod.mk.inj h).1; replace h := (Prod.mk.inj h).2; subst h3_) | (subst h))
  all_goals try contradiction
  all_goals refine ve_fn (args := [.agg #[.int .u64 a0_0, .int .u64 a0_1, .bool a0_2], .agg #[.int .u64 a1_0, .int .u64 a1_1, .bool a1_2], .agg #[.int .u64 a2_0, .int .u64 a2_1, .bool a2_2], .string a3]) Tryz.func44 rfl Tryz.ntmps44 rfl (good (Γ := fun _ => True) (fun _ _ => trivial)) ?_
  all_goals repeat' (first | refine rbt ?_ | refine rbf ?_ | refine wn ?_ | refine wq ?_ | refine wc_plain ?_ | refine wc_draw ?_ | refine rZ ?_ | refine rD ?_ | refine ve8 ?_ | refine ve4 ?_ | refine ve3 ?_ | refine ve1 ?_ | refine ve2 ?_ | refine ve5 ?_ | refine ve6 ?_ | refine ve7 ?_ | refine ve9 ?_ | refine rA ?_ | refine rE ?_ | refine rC ?_ | refine rB ?_ | refine rG ?_ | refine rH ?_ | refine rI ?_ | refine rJ ?_ | refine rcb ?_ | refine rcp (Pre := spec_PutPoint.f _ _ _ _ = some _) (fun hp_ w_ hΓ => spec_PutPoint.calls _ _ _ _ _ w_ hp_) ?_ | refine rcp (Pre := spec_Extract.f _ _ _ = some _) (fun hp_ w_ hΓ => spec_Extract.calls _ _ _ _ w_ hp_) ?_ | refine rcp (Pre := spec_l7Expanded.f _ _ _ _ = some _) (fun hp_ w_ hΓ => spec_l7Expanded.calls _ _ _ _ _ w_ hp_) ?_ | refine rel (fun w_ hΓ => ld_zero (by first  |  exact hΓ.z  |  exact hΓ.1.z  |  exact hΓ.1  |  exact hΓ)) ?_  |  refine req (fun w_ => eq_pt w_) ?_  |  refine req (fun w_ => ne_pt w_) ?_  |  refine req (fun w_ => eq_num w_) ?_  |  refine rsh ?_  |  refine rsl_ ?_  |  refine rslh ?_ | refine wb ?_ | refine wk ?_ | refine we ?_ | exact wt | refine wr ?_ | refine rr1 ?_ | refine rr2 ?_ | exact fr | exact fe | refine wTs ?_ | refine wFs ?_ | refine rof ?_ | refine rof0 ?_)

end Go.Proofs.YtgdcafbdkidamaaGreatDoor.C
end
section
namespace Go.Proofs.YtgdcafbdkidamaaGreatDoor.Ag
open Go Go.RowKit Go.Proofs.YtgdcafbdkidamaaGreatDoorW.PrintWords Go.Proofs.YtgdcafbdkidamaaGreatDoorW.PrintLast Go.Proofs.YtgdcafbdkidamaaGreatDoorW.PrintMore Go.Proofs.YtgdcafbdkidamaaGreatDoor.Ve Go.Proofs.YtgdcafbdkidamaaGreatDoor.VeT Go.Proofs.YtgdcafbdkidamaaGreatDoor.VeE Go.Proofs.YtgdcafbdkidamaaGreatDoor.G3 Go.Proofs.YtgdcafbdkidamaaGreatDoor.KG2 Go.Proofs.YtgdcafbdkidamaaGreatDoor.KH2 Go.Proofs.YtgdcafbdkidamaaGreatDoor.C
set_option linter.unusedVariables false
set_option linter.unusedSimpArgs false
def impl_Agree.f (a0 a1 : Int) (a2 : Bool) (b0 b1 : Int) (b2 : Bool) (c0 c1 : Int) (c2 : Bool) (seen : ByteArray) : Option (ByteArray × ByteArray × ByteArray) :=
  (impl_PutPoint.f 1000 a0 a1 a2).bind fun pa => (impl_PutPoint.f 1000 b0 b1 b2).bind fun pb => (impl_PutPoint.f 1000 c0 c1 c2).bind fun pc =>
  if pa.size + pb.size ≤ 9223372036854775807 then if (pa ++ pb).size + pc.size ≤ 9223372036854775807 then
    (impl_Extract.f ⟨#[]⟩ ((pa ++ pb) ++ pc)).bind fun x => (impl_Sha256.f seen).bind fun sh =>
    if 7 + sh.size ≤ 9223372036854775807 then
      (impl_Expand.f x (⟨#[83, 101, 115, 115, 105, 111, 110]⟩ ++ sh) 32).bind fun s1 => (impl_Expand.f x (⟨#[83, 101, 114, 118, 101, 114]⟩ ++ sh) 32).bind fun s2 => (impl_Expand.f x (⟨#[67, 108, 105, 101, 110, 116]⟩ ++ sh) 32).bind fun s3 => some (s1.1, s2.1, s3.1)
    else none
  else none else none
set_option maxRecDepth 100000 in
set_option maxHeartbeats 8000000 in
theorem impl_Agree.calls (a0 a1 : Int) (a2 : Bool) (b0 b1 : Int) (b2 : Bool) (c0 c1 : Int) (c2 : Bool) (seen r1 r2 r3 : ByteArray) (w : World) (hG : G w) (h : impl_Agree.f a0 a1 a2 b0 b1 b2 c0 c1 c2 seen = some (r1, r2, r3)) :
    Calls Tryz.prog 43 #[.agg #[.int .u64 a0, .int .u64 a1, .bool a2], .agg #[.int .u64 b0, .int .u64 b1, .bool b2], .agg #[.int .u64 c0, .int .u64 c1, .bool c2], .string seen] w fun e w' => e = .returned (.agg #[.string r1, .string r2, .string r3]) ∧ Below w.heap.size w w' := by
  unfold impl_Agree.f at h
  obtain ⟨pa, ha, h⟩ := Option.bind_eq_some_iff.mp h
  obtain ⟨pb, hb, h⟩ := Option.bind_eq_some_iff.mp h
  obtain ⟨pc, hc, h⟩ := Option.bind_eq_some_iff.mp h
  split at h
  case isFalse => cases h
  split at h
  case isFalse => cases h
  obtain ⟨x, hx, h⟩ := Option.bind_eq_some_iff.mp h
  obtain ⟨sh, hs, h⟩ := Option.bind_eq_some_iff.mp h
  split at h
  case isFalse => cases h
  rename_i z1 z2 z3
  obtain ⟨⟨s1, o1⟩, h1, h⟩ := Option.bind_eq_some_iff.mp h
  obtain ⟨⟨s2, o2⟩, h2, h⟩ := Option.bind_eq_some_iff.mp h
  obtain ⟨⟨s3, o3⟩, h3, h⟩ := Option.bind_eq_some_iff.mp h
  obtain ⟨rfl, rfl, rfl⟩ : s1 = r1 ∧ s2 = r2 ∧ s3 = r3 := by simpa using h
  have y1 : (⟨#[83, 101, 115, 115, 105, 111, 110]⟩ : ByteArray).size + sh.size ≤ 9223372036854775807 := z3
  have y2 : (⟨#[83, 101, 114, 118, 101, 114]⟩ : ByteArray).size + sh.size ≤ 9223372036854775807 := by show 6 + sh.size ≤ _; omega
  have y3 : (⟨#[67, 108, 105, 101, 110, 116]⟩ : ByteArray).size + sh.size ≤ 9223372036854775807 := by show 6 + sh.size ≤ _; omega
  clear h
  refine ve_fn (args := [.agg #[.int .u64 a0, .int .u64 a1, .bool a2], .agg #[.int .u64 b0, .int .u64 b1, .bool b2], .agg #[.int .u64 c0, .int .u64 c1, .bool c2], .string seen]) Tryz.func43 rfl Tryz.ntmps43 rfl (good (Γ := fun W => G W) (fun W hb => G_below hb hG)) ?_
  repeat' (first | refine rbt ?_ | refine rbf ?_ | refine wn ?_ | refine wq ?_ | refine wc_plain ?_ | refine wc_draw ?_ | refine rZ ?_ | refine rD ?_ | refine ve8 ?_ | refine ve4 ?_ | refine ve3 ?_ | refine ve1 ?_ | refine ve2 ?_ | refine ve5 ?_ | refine ve6 ?_ | refine ve7 ?_ | refine ve9 ?_ | refine rA ?_ | refine rE ?_ | refine rC ?_ | refine rB ?_ | refine rG ?_ | refine rH ?_ | refine rI ?_ | refine rJ ?_ | refine rcb ?_ | refine rcp (Pre := impl_PutPoint.f _ _ _ _ = some _) (fun hp_ w_ hΓ => impl_PutPoint.calls _ _ _ _ _ w_ (by first | exact hΓ | exact hΓ.z) hp_) ?_ | refine rcp (Pre := impl_Extract.f _ _ = some _) (fun hp_ w_ hΓ => impl_Extract.calls _ _ _ w_ hΓ.r hp_) ?_ | refine rcp (Pre := impl_Sha256.f _ = some _) (fun hp_ w_ hΓ => impl_Sha256.calls _ _ w_ hΓ.r hp_) ?_ | refine rcp (Pre := impl_Expand.f _ _ _ = some (_, _)) (fun hp_ w_ hΓ => impl_Expand.calls _ _ _ _ _ w_ hΓ.r hp_) ?_ | refine wc_loop 4 ?_ | refine wl_succ ?_ | refine wb ?_ | refine wk ?_ | refine we ?_ | exact wt | refine wr ?_ | refine rr1 ?_ | refine rr2 ?_ | exact fr | exact fe | refine wTs ?_ | refine wFs ?_ | refine rof ?_ | refine rof0 ?_)
end Go.Proofs.YtgdcafbdkidamaaGreatDoor.Ag
end
section
namespace Go.Proofs.YtgdcafbdkidamaaGreatDoor.Pure
open Go.RowKit Go.Proofs.YtgdcafbdkidamaaGreatDoor.B Go.Proofs.YtgdcafbdkidamaaGreatDoor.C Go.Proofs.YtgdcafbdkidamaaGreatDoor.H0 Go.Proofs.YtgdcafbdkidamaaGreatDoorW.PrintWords Go.Proofs.YtgdcafbdkidamaaGreatDoorW.PrintLast Go.Proofs.YtgdcafbdkidamaaGreatDoorW.PrintMore
set_option linter.unusedVariables false
set_option linter.unusedSimpArgs false
theorem at_least {α : Type} {f : Nat → Option α} (hm : ∀ k, LeO (f k) (f (k + 1))) {k0 : Nat} {r : α} (h : f k0 = some r) : ∀ {k : Nat}, k0 ≤ k → f k = some r
  | 0, hk => by rw [show k0 = 0 by omega] at h; exact h
  | k + 1, hk => by
    by_cases e : k0 = k + 1
    · rw [← e]; exact h
    · exact hm k _ (at_least hm h (by omega))

/-- a word's eight bytes -/
def putWord (a : Int) : ByteArray := strOfNums [shr .u64 a 56 % 256, shr .u64 a 48 % 256, shr .u64 a 40 % 256, shr .u64 a 32 % 256, shr .u64 a 24 % 256, shr .u64 a 16 % 256, shr .u64 a 8 % 256, shr .u64 a 0 % 256]

theorem spec_putWord (a : Int) {k : Nat} (hk : 20 ≤ k) : spec_PutWord.f k a = some (putWord a) := by
  have h : spec_PutWord.f 20 a = some (putWord a) := by
    simp [spec_PutWord.f, spec_PutWord.l0, wrap64, IntKind.wrap, IntKind.bits, IntKind.signed, putWord]
  exact at_least (f := fun k => spec_PutWord.f k a) (fun k => spec_PutWord.mono _ _) h hk

theorem impl_putWord (a : Int) {k : Nat} (hk : 20 ≤ k) : impl_PutWord.f k a = some (putWord a) := by
  have h : impl_PutWord.f 20 a = some (putWord a) := by
    simp [impl_PutWord.f, impl_bigEndian.f, impl_bigEndian.l0, wrap64, List.replicate_succ, putWord]
  exact at_least (f := fun k => impl_PutWord.f k a) (fun k => impl_PutWord.mono _ _) h hk

theorem putWord_size (a : Int) : (putWord a).size = 8 := by simp [putWord, strOfNums_size]

/-- a point's word -/
def ptWord (x y : Int) (inf : Bool) : Int := if oc x y inf = true ∧ inf = false then x + 4611686018427387904 + 2305843009213693952 * (y % 2) else 0

theorem proper_impl (x y : Int) (inf : Bool) (hx0 : 0 ≤ x) (hx : x < 18446744073709551616) (hy0 : 0 ≤ y) (hy : y < 18446744073709551616) {k : Nat} (hk : 11 ≤ k) :
    impl_proper.f k x y inf = some (oc x y inf && !inf) := by
  unfold impl_proper.f
  rw [onCurve_impl x y inf hx0 hx hy0 hy hk]; simp only [Option.bind_some]
  by_cases h : oc x y inf = true
  · rw [if_pos h, h]
    cases inf
    · simp
    · rw [oc_t, decide_eq_true_eq] at h
      simp [h.1, h.2]
  · rw [if_neg h]; simp [h]

theorem putPoint_impl (x y : Int) (inf : Bool) (hx0 : 0 ≤ x) (hx : x < 18446744073709551616) (hy0 : 0 ≤ y) (hy : y < 18446744073709551616) {k : Nat} (hk : 22 ≤ k) :
    impl_PutPoint.f k x y inf = some (putWord (ptWord x y inf)) := by
  unfold impl_PutPoint.f ptWord
  rw [proper_impl x y inf hx0 hx hy0 hy (by omega)]; simp only [Option.bind_some]
  by_cases h : oc x y inf = true
  · cases inf
    · have h2 := h
      rw [oc_f, decide_eq_true_eq] at h2
      rw [if_pos (by simp [h]), if_pos (by simp [h]), Int.tmod_eq_emod_of_nonneg hy0, wu (n := x + 4611686018427387904) (by omega) (by omega), wu (n := y % 2 * 2305843009213693952) (by omega) (by omega), wu (by omega) (by omega), impl_putWord _ (by omega)]
      simp only [Option.bind_some]
      rw [Int.mul_comm (y % 2)]
    · rw [if_neg (by simp), if_neg (by simp), impl_putWord _ (by omega)]; rfl
  · rw [if_neg (by simp [h]), if_neg (by simp [h]), impl_putWord _ (by omega)]; rfl

theorem putPoint_spec (x y : Int) (inf : Bool) (hx0 : 0 ≤ x) (hx : x < 18446744073709551616) (hy0 : 0 ≤ y) (hy : y < 18446744073709551616) {k : Nat} (hk : 22 ≤ k) :
    spec_PutPoint.f k x y inf = some (putWord (ptWord x y inf)) := by
  obtain ⟨k, rfl⟩ : ∃ j, k = j + 1 := ⟨k - 1, by omega⟩
  unfold spec_PutPoint.f ptWord
  cases inf
  · rw [if_neg (by decide), onCurve_spec x y false hx0 hy0]; simp only [Option.bind_some, spec_PutPoint.j0]
    by_cases h : oc x y false = true
    · have h2 := h
      rw [oc_f, decide_eq_true_eq] at h2
      rw [if_neg (by simp [h]), if_pos (by simp [h]), Int.tmod_eq_emod_of_nonneg hy0, wu (n := x + 4611686018427387904) (by omega) (by omega), wu (n := 2305843009213693952 * (y % 2)) (by omega) (by omega), wu (by omega) (by omega), spec_putWord _ (by omega)]
      rfl
    · rw [if_pos (by simp [h]), if_neg (by simp [h]), spec_putWord _ (by omega)]; rfl
  · rw [if_pos rfl]; simp only [spec_PutPoint.j0]
    rw [if_pos trivial, if_neg (by simp), spec_putWord _ (by omega)]; rfl

end Go.Proofs.YtgdcafbdkidamaaGreatDoor.Pure
end
section
namespace Go.Proofs.YtgdcafbdkidamaaGreatDoor.Agp
open Go Go.RowKit Go.Proofs.YtgdcafbdkidamaaGreatDoorW.PrintWords Go.Proofs.YtgdcafbdkidamaaGreatDoorW.PrintLast Go.Proofs.YtgdcafbdkidamaaGreatDoorW.PrintMore Go.Proofs.YtgdcafbdkidamaaGreatDoor.KG2 Go.Proofs.YtgdcafbdkidamaaGreatDoor.KH2 Go.Proofs.YtgdcafbdkidamaaGreatDoor.B Go.Proofs.YtgdcafbdkidamaaGreatDoor.C Go.Proofs.YtgdcafbdkidamaaGreatDoor.Ag Go.Proofs.YtgdcafbdkidamaaGreatDoor.Hp Go.Proofs.YtgdcafbdkidamaaGreatDoor.Pure
set_option linter.unusedVariables false
set_option linter.unusedSimpArgs false
theorem exp1_size (x i : ByteArray) : (exp1 x i 32).size = 32 := by
  unfold exp1
  show (List.toArray _).size = 32
  rw [List.size_toArray, List.length_take, K8.oE_len]
  rfl
theorem agree_same (a0 a1 : Int) (a2 : Bool) (b0 b1 : Int) (b2 : Bool) (c0 c1 : Int) (c2 : Bool) (s : ByteArray) (ha0 : 0 ≤ a0 ∧ a0 < 18446744073709551616) (ha1 : 0 ≤ a1 ∧ a1 < 18446744073709551616) (hb0 : 0 ≤ b0 ∧ b0 < 18446744073709551616) (hb1 : 0 ≤ b1 ∧ b1 < 18446744073709551616) (hc0 : 0 ≤ c0 ∧ c0 < 18446744073709551616) (hc1 : 0 ≤ c1 ∧ c1 < 18446744073709551616) (hs : s.size ≤ 1048576) :
    ∃ q1 q2 q3 : ByteArray, (q1.size = 32 ∧ q2.size = 32 ∧ q3.size = 32) ∧ spec_Agree.f 2000 a0 a1 a2 b0 b1 b2 c0 c1 c2 s = some (q1, q2, q3) ∧ impl_Agree.f a0 a1 a2 b0 b1 b2 c0 c1 c2 s = some (q1, q2, q3) := by
  have xs : ∀ x : ByteArray, x.size ≤ 1048576 → spec_Sha256.f x = some (Ks.sha1 x) := fun x hx => by unfold spec_Sha256.f; rw [if_pos (by omega)]
  have xi : ∀ x : ByteArray, x.size ≤ 1048576 → impl_Sha256.f x = some (Ks.sha1 x) := fun x hx => by unfold impl_Sha256.f; rw [if_pos (by omega)]
  have xp : (putWord (ptWord a0 a1 a2) ++ putWord (ptWord b0 b1 b2)).size = 16 := by rw [app_size, putWord_size, putWord_size]
  have xq : (putWord (ptWord a0 a1 a2) ++ putWord (ptWord b0 b1 b2) ++ putWord (ptWord c0 c1 c2)).size = 24 := by rw [app_size, xp, putWord_size]
  have ei : ∀ a : ByteArray, a.size ≤ 1048576 → impl_Extract.f (⟨#[]⟩ : ByteArray) a = some (hm1 ⟨#[]⟩ a) := fun a h => by unfold impl_Extract.f; rw [if_pos (by decide), if_pos (by omega)]
  have es : ∀ a : ByteArray, a.size ≤ 1048576 → spec_Extract.f 2000 (⟨#[]⟩ : ByteArray) a = some (hm1 ⟨#[]⟩ a) := fun a h => by
    unfold spec_Extract.f
    rw [hmac_spec _ _ (by decide) (by omega) _ (by omega), Option.bind_some]
  have hmz : ∀ a b : ByteArray, (hm1 a b).size = 32 := fun a b => by rw [hm_eq, sha1_size]
  have ex : ∀ i : ByteArray, i.size ≤ 1048576 → ∀ x : ByteArray, x.size = 32 → spec_Expand.f 2000 x i 32 = impl_Expand.f x i 32 := fun i hi x hx => exp_spec x i 32 (by omega) (by omega)
  have el : ∀ i x : ByteArray, i.size ≤ 1048576 → x.size = 32 → impl_Expand.f x i 32 = some (exp1 x i 32, true) := fun i x hi hx => by
    unfold impl_Expand.f
    rw [if_neg (by decide), if_neg (by decide), if_pos (by omega), if_pos (by omega)]; rfl
  have hz := sha1_size s
  have l7 : ∀ (x : ByteArray) (wd : ByteArray), x.size = 32 → wd.size ≤ 7 → spec_l7Expanded.f 2000 x wd s = some (exp1 x (wd ++ Ks.sha1 s) 32) := fun x wd hx hw => by
    unfold spec_l7Expanded.f
    rw [xs s hs, Option.bind_some, if_pos (by omega), ex _ (by rw [app_size]; omega) x hx, el _ x (by rw [app_size]; omega) hx, Option.bind_some]
  refine ⟨exp1 (hm1 ⟨#[]⟩ (putWord (ptWord a0 a1 a2) ++ putWord (ptWord b0 b1 b2) ++ putWord (ptWord c0 c1 c2))) ((⟨#[83, 101, 115, 115, 105, 111, 110]⟩ : ByteArray) ++ Ks.sha1 s) 32, exp1 (hm1 ⟨#[]⟩ (putWord (ptWord a0 a1 a2) ++ putWord (ptWord b0 b1 b2) ++ putWord (ptWord c0 c1 c2))) ((⟨#[83, 101, 114, 118, 101, 114]⟩ : ByteArray) ++ Ks.sha1 s) 32, exp1 (hm1 ⟨#[]⟩ (putWord (ptWord a0 a1 a2) ++ putWord (ptWord b0 b1 b2) ++ putWord (ptWord c0 c1 c2))) ((⟨#[67, 108, 105, 101, 110, 116]⟩ : ByteArray) ++ Ks.sha1 s) 32, ⟨exp1_size _ _, exp1_size _ _, exp1_size _ _⟩, ?_, ?_⟩
  rotate_left
  · unfold impl_Agree.f
    rw [putPoint_impl a0 a1 a2 ha0.1 ha0.2 ha1.1 ha1.2 (by omega), Option.bind_some, putPoint_impl b0 b1 b2 hb0.1 hb0.2 hb1.1 hb1.2 (by omega), Option.bind_some, putPoint_impl c0 c1 c2 hc0.1 hc0.2 hc1.1 hc1.2 (by omega), Option.bind_some,
      if_pos (by rw [putWord_size, putWord_size]; decide), if_pos (by rw [xp, putWord_size]; decide), ei _ (by rw [xq]; decide), Option.bind_some, xi s hs, Option.bind_some, if_pos (by omega),
      el _ _ (by rw [app_size, hz]; decide) (hmz _ _), Option.bind_some, el _ _ (by rw [app_size, hz]; decide) (hmz _ _), Option.bind_some, el _ _ (by rw [app_size, hz]; decide) (hmz _ _), Option.bind_some]
  · unfold spec_Agree.f
    rw [putPoint_spec a0 a1 a2 ha0.1 ha0.2 ha1.1 ha1.2 (by omega), Option.bind_some, putPoint_spec b0 b1 b2 hb0.1 hb0.2 hb1.1 hb1.2 (by omega), Option.bind_some,
      if_pos (by rw [putWord_size, putWord_size]; decide), putPoint_spec c0 c1 c2 hc0.1 hc0.2 hc1.1 hc1.2 (by omega), Option.bind_some, if_pos (by rw [xp, putWord_size]; decide), es _ (by rw [xq]; decide), Option.bind_some,
      l7 _ _ (hmz _ _) (by decide), Option.bind_some, l7 _ _ (hmz _ _) (by decide), Option.bind_some, l7 _ _ (hmz _ _) (by decide), Option.bind_some]
end Go.Proofs.YtgdcafbdkidamaaGreatDoor.Agp
end
