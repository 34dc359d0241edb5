/- What the proof of FnExactUnseal leans on, part 28: cut out of the texts of this claim's making by a program (wip/tools/pack.py). -/
import Derived.Test.YtgdcafbdkidamaaGreatDoorKUnseal8
import Derived.Test.YtgdcafbdkidamaaGreatDoorKUnseal10
import Derived.Test.YtgdcafbdkidamaaGreatDoorKUnseal11
import Derived.Test.YtgdcafbdkidamaaGreatDoorKUnseal12
import Derived.Test.YtgdcafbdkidamaaGreatDoorKUnseal13
import Derived.Test.YtgdcafbdkidamaaGreatDoorKUnseal14
import Derived.Test.YtgdcafbdkidamaaGreatDoorKUnseal20
import Derived.Test.YtgdcafbdkidamaaGreatDoorKUnseal26
section
namespace Go.Proofs.YtgdcafbdkidamaaGreatDoor.C
open Go.Proofs.YtgdcafbdkidamaaGreatDoor.Sq Go.RowKit Go.Proofs.YtgdcafbdkidamaaGreatDoor.B Go.Proofs.YtgdcafbdkidamaaGreatDoor.H0 Go.Proofs.YtgdcafbdkidamaaGreatDoor.G1 Go.Proofs.YtgdcafbdkidamaaGreatDoor.F0 Go.Proofs.YtgdcafbdkidamaaGreatDoor.H1 Go.Proofs.YtgdcafbdkidamaaGreatDoor.H2 Go.Proofs.YtgdcafbdkidamaaGreatDoor.H3 Go.Proofs.YtgdcafbdkidamaaGreatDoor.KG2 Go.Proofs.YtgdcafbdkidamaaGreatDoorW.PrintWords Go.Proofs.YtgdcafbdkidamaaGreatDoorW.PrintLast Go.Proofs.YtgdcafbdkidamaaGreatDoorW.PrintMore Go.Proofs.YtgdcafbdkidamaaGreatDoor.Ve Go.Proofs.YtgdcafbdkidamaaGreatDoor.VeT Go.Proofs.YtgdcafbdkidamaaGreatDoor.VeE
attribute [local go_sem high] field_num_fieldP   -- for this text's walks alone
attribute [local go_sem] max2_int min2_int max_two min_two max_three min_three max_four min_four   -- for this text's walks alone
set_option linter.unusedVariables false
set_option linter.unusedSimpArgs false
attribute [local go_sem high] eqA27
def impl_proper.f (k : Nat) (a0_0 : Int) (a0_1 : Int) (a0_2 : Bool) : Option (Bool) := (impl_OnCurve.f k a0_0 a0_1 a0_2).bind fun t573 => (if t573 = true then (some (!(a0_0 == 0) || (!(a0_1 == 0) || (!a0_2)))) else (some false))
set_option maxRecDepth 100000 in
set_option maxHeartbeats 4000000 in
theorem impl_proper.calls (k : Nat) (a0_0 : Int) (a0_1 : Int) (a0_2 : Bool) (r : Bool) (w : World) (hG : G w) (h : impl_proper.f k a0_0 a0_1 a0_2 = some r) :
    Calls Tryz.prog 79 #[.agg #[.int .u64 a0_0, .int .u64 a0_1, .bool a0_2]] w fun e w' => e = .returned (.bool r) ∧ Below w.heap.size w w' := by
  unfold impl_proper.f at h
  repeat' (first | (rw [Option.bind_eq_some_iff] at h; obtain ⟨_, _, h⟩ := h) | (split at h) | (cases h <;> fail) | (replace h := Option.some.inj h) | (have h3_ := (Prod.mk.inj h).1; replace h := (Prod.mk.inj h).2; subst h3_) | (subst h))
  all_goals try contradiction
  all_goals refine ve_fn (args := [.agg #[.int .u64 a0_0, .int .u64 a0_1, .bool a0_2]]) Tryz.func79 rfl Tryz.ntmps79 rfl (good (Γ := fun W => G W) (fun W hb => G_below hb hG)) ?_
  all_goals repeat' (first | refine rbt ?_ | refine rbf ?_ | refine wn ?_ | refine wq ?_ | refine wc_plain ?_ | refine wc_draw ?_ | refine rZ ?_ | refine rD ?_ | refine ve8 ?_ | refine ve4 ?_ | refine ve3 ?_ | refine ve1 ?_ | refine ve2 ?_ | refine ve5 ?_ | refine ve6 ?_ | refine ve7 ?_ | refine ve9 ?_ | refine rA ?_ | refine rE ?_ | refine rC ?_ | refine rB ?_ | refine rG ?_ | refine rH ?_ | refine rI ?_ | refine rJ ?_ | refine rcb ?_ | refine rcp (Pre := impl_OnCurve.f _ _ _ _ = some _) (fun hp_ w_ hΓ => impl_OnCurve.calls _ _ _ _ _ w_ hΓ hp_) ?_ | refine rel (fun w_ hΓ => ld_zero (by first  |  exact hΓ.z  |  exact hΓ.1.z  |  exact hΓ.1  |  exact hΓ)) ?_  |  refine req (fun w_ => eq_pt w_) ?_  |  refine req (fun w_ => ne_pt w_) ?_  |  refine req (fun w_ => eq_num w_) ?_  |  refine rsh ?_  |  refine rsl_ ?_  |  refine rslh ?_ | refine wb ?_ | refine wk ?_ | refine we ?_ | exact wt | refine wr ?_ | refine rr1 ?_ | refine rr2 ?_ | exact fr | exact fe | refine wTs ?_ | refine wFs ?_ | refine rof ?_ | refine rof0 ?_)

def impl_PutPoint.f (k : Nat) (a0_0 : Int) (a0_1 : Int) (a0_2 : Bool) : Option (ByteArray) := (impl_proper.f k a0_0 a0_1 a0_2).bind fun t575 => (if t575 = true then ((impl_PutWord.f k (IntKind.u64.wrap ((IntKind.u64.wrap (a0_0 + 4611686018427387904)) + (IntKind.u64.wrap ((Int.tmod a0_1 2) * 2305843009213693952))))).bind fun t576 => (some t576)) else ((impl_PutWord.f k 0).bind fun t577 => (some t577)))
set_option maxHeartbeats 8000000 in
set_option maxRecDepth 100000 in
theorem impl_PutPoint.calls (k : Nat) (a0_0 : Int) (a0_1 : Int) (a0_2 : Bool) (r : ByteArray) (w : World) (hG : G w) (h : impl_PutPoint.f k a0_0 a0_1 a0_2 = some r) :
    Calls Tryz.prog 81 #[.agg #[.int .u64 a0_0, .int .u64 a0_1, .bool a0_2]] w fun e w' => e = .returned (.string r) ∧ Below w.heap.size w w' := by
  have hu27 := Tryz.underlying27
  have HB := Aside0.mk (Below.refl w.heap.size w)
  have H : ((impl_proper.f k a0_0 a0_1 a0_2).bind fun t575 => (if t575 = true then ((impl_PutWord.f k (IntKind.u64.wrap ((IntKind.u64.wrap (a0_0 + 4611686018427387904)) + (IntKind.u64.wrap ((Int.tmod a0_1 2) * 2305843009213693952))))).bind fun t576 => (some t576)) else ((impl_PutWord.f k 0).bind fun t577 => (some t577)))) = some r := h
  clear h
  have HG := Aside0.mk hG
  clear hG
  replace H := Option.bind_eq_some_iff.mp H
  obtain ⟨t575, A20, H⟩ := H
  try dsimp only at H
  have A2 := Aside0.mk A20
  clear A20
  by_cases c3 : t575 = true
  rotate_left
  · replace c3 := Bool.eq_false_iff.mpr c3
    subst c3
    have H1 : ((impl_PutWord.f k 0).bind fun t577 => (some t577)) = some r := by rw [if_neg (show ¬ (false = true) by decide)] at H; exact H
    clear H
    have H := H1
    clear H1
    replace H := Option.bind_eq_some_iff.mp H
    obtain ⟨t577, A100, H⟩ := H
    replace H : (some t577) = some r := H
    have A10 := Aside0.mk A100
    clear A100
    obtain rfl := Option.some.inj H
    go_enter Tryz.func81, Tryz.ntmps81
    go_wp2_with (first | ((with_reducible refine gate_dst (N := 1) rfl ?_); refine box_event ?hg (N := 1) ?hd (cs := #[.int .u64 a0_0, .int .u64 a0_1, .bool a0_2]) (t := 27) ?hr ?_; (case hd => rfl); (case hg => rfl); (case hr => first | (go_simp; done) | (go_simp; rfl)); intro gb574 hg w11 hbox hb; have n0_ := Aside0.mk (below_step hb_ hb); have n1_ := Aside0.mk (hbox); have n2_ := Aside0.mk ((by rw [hg]; exact (below_size hb_) : w.heap.size ≤ gb574)); have n3_ := Aside0.mk ((by rw [hg]; exact (below_size hb_) : w.heap.size ≤ gb574)); clear HB; have HB := n0_; have BK574 := n1_; have GW574 := n2_; have GE574 := n3_; clear n0_ n1_ n2_ n3_; clear hb hbox hg; have hcz12_0 : w11.cell? ⟨gb574, 0, none⟩ = some (.int .u64 a0_0) := (blk_cell BK574.out 0).trans rfl; have hcz12_1 : w11.cell? ⟨gb574, 1, none⟩ = some (.int .u64 a0_1) := (blk_cell BK574.out 1).trans rfl; have hcz12_2 : w11.cell? ⟨gb574, 2, none⟩ = some (.bool a0_2) := (blk_cell BK574.out 2).trans rfl; have hfz12_0 := blk_frozen BK574.out 0; have hfz12_1 := blk_frozen BK574.out 1; have hfz12_2 := blk_frozen BK574.out 2) | ((with_reducible refine gate_callee (f := 79) rfl ?_); refine goesL_ (some 4) rfl rfl Tryz.func79 (by kernel_rfl) rfl #[.agg #[.int .u64 a0_0, .int .u64 a0_1, .bool a0_2]] rfl ga_ ?_; (with_reducible refine (impl_proper.calls k a0_0 a0_1 a0_2 false _ (G_below (by repeat (first | (with_reducible first | exact HB.out | apply below_alloc | apply pw_below_drewN | apply below_drew1 | refine below_set ?_ GE574.out) | exact HB.out)) HG.out) A2.out).mono ?_); rintro e w13 ⟨rfl, hb⟩; refine ⟨_, rfl, ?_⟩; have n0_ := Aside0.mk (blk_below (g := gb574) (o := .cells #[.int .u64 a0_0, .int .u64 a0_1, .bool a0_2] 27 (0, 0)) (by (with_reducible repeat (first | refine blk_drewN ?_ _ | refine blk_drew ?_ | refine blk_alloc ?_ _)); exact BK574.out) hb); have n1_ := Aside0.mk (below_step (by repeat (first | (with_reducible first | exact HB.out | apply below_alloc | apply pw_below_drewN | apply below_drew1 | refine below_set ?_ GE574.out) | exact HB.out)) hb); clear BK574; clear HB; have BK574 := n0_; have HB := n1_; clear n0_ n1_; (try clear hb); (try clear hb2); (try clear hk); (try clear hi)) | ((with_reducible refine gate_callee (f := 66) rfl ?_); refine goesL_ (some 6) rfl rfl Tryz.func66 (by kernel_rfl) rfl #[.int .u64 0] rfl ga_ ?_; (with_reducible refine (impl_PutWord.calls k 0 t577 _ A10.out).mono ?_); rintro e w14 ⟨rfl, hb⟩; refine ⟨_, rfl, ?_⟩; have n0_ := Aside0.mk (blk_below (g := gb574) (o := .cells #[.int .u64 a0_0, .int .u64 a0_1, .bool a0_2] 27 (0, 0)) (by (with_reducible repeat (first | refine blk_drewN ?_ _ | refine blk_drew ?_ | refine blk_alloc ?_ _)); exact BK574.out) hb); have n1_ := Aside0.mk (below_step (by repeat (first | (with_reducible first | exact HB.out | apply below_alloc | apply pw_below_drewN | apply below_drew1 | refine below_set ?_ GE574.out) | exact HB.out)) hb); clear BK574; clear HB; have BK574 := n0_; have HB := n1_; clear n0_ n1_; (try clear hb); (try clear hb2); (try clear hk); (try clear hi)))
    go_ret
    exact ⟨by first | rfl | (simp [errW_none, errW_some] <;> rfl) | (simp [*, errW_none, errW_some] <;> rfl), by repeat (first | (with_reducible first | exact HB.out | apply below_alloc | apply pw_below_drewN | apply below_drew1 | refine below_set ?_ GE574.out) | exact HB.out)⟩

  subst c3
  have H1 : ((impl_PutWord.f k (IntKind.u64.wrap ((IntKind.u64.wrap (a0_0 + 4611686018427387904)) + (IntKind.u64.wrap ((Int.tmod a0_1 2) * 2305843009213693952))))).bind fun t576 => (some t576)) = some r := by rw [if_pos rfl] at H; exact H
  clear H
  have H := H1
  clear H1
  replace H := Option.bind_eq_some_iff.mp H
  obtain ⟨t576, A40, H⟩ := H
  replace H : (some t576) = some r := H
  have A4 := Aside0.mk A40
  clear A40
  obtain rfl := Option.some.inj H
  go_enter Tryz.func81, Tryz.ntmps81
  go_wp2_with (first | ((with_reducible refine gate_dst (N := 1) rfl ?_); refine box_event ?hg (N := 1) ?hd (cs := #[.int .u64 a0_0, .int .u64 a0_1, .bool a0_2]) (t := 27) ?hr ?_; (case hd => rfl); (case hg => rfl); (case hr => first | (go_simp; done) | (go_simp; rfl)); intro gb574 hg w5 hbox hb; have n0_ := Aside0.mk (below_step hb_ hb); have n1_ := Aside0.mk (hbox); have n2_ := Aside0.mk ((by rw [hg]; exact (below_size hb_) : w.heap.size ≤ gb574)); have n3_ := Aside0.mk ((by rw [hg]; exact (below_size hb_) : w.heap.size ≤ gb574)); clear HB; have HB := n0_; have BK574 := n1_; have GW574 := n2_; have GE574 := n3_; clear n0_ n1_ n2_ n3_; clear hb hbox hg; have hcz6_0 : w5.cell? ⟨gb574, 0, none⟩ = some (.int .u64 a0_0) := (blk_cell BK574.out 0).trans rfl; have hcz6_1 : w5.cell? ⟨gb574, 1, none⟩ = some (.int .u64 a0_1) := (blk_cell BK574.out 1).trans rfl; have hcz6_2 : w5.cell? ⟨gb574, 2, none⟩ = some (.bool a0_2) := (blk_cell BK574.out 2).trans rfl; have hfz6_0 := blk_frozen BK574.out 0; have hfz6_1 := blk_frozen BK574.out 1; have hfz6_2 := blk_frozen BK574.out 2) | ((with_reducible refine gate_callee (f := 79) rfl ?_); refine goesL_ (some 4) rfl rfl Tryz.func79 (by kernel_rfl) rfl #[.agg #[.int .u64 a0_0, .int .u64 a0_1, .bool a0_2]] rfl ga_ ?_; (with_reducible refine (impl_proper.calls k a0_0 a0_1 a0_2 true _ (G_below (by repeat (first | (with_reducible first | exact HB.out | apply below_alloc | apply pw_below_drewN | apply below_drew1 | refine below_set ?_ GE574.out) | exact HB.out)) HG.out) A2.out).mono ?_); rintro e w7 ⟨rfl, hb⟩; refine ⟨_, rfl, ?_⟩; have n0_ := Aside0.mk (blk_below (g := gb574) (o := .cells #[.int .u64 a0_0, .int .u64 a0_1, .bool a0_2] 27 (0, 0)) (by (with_reducible repeat (first | refine blk_drewN ?_ _ | refine blk_drew ?_ | refine blk_alloc ?_ _)); exact BK574.out) hb); have n1_ := Aside0.mk (below_step (by repeat (first | (with_reducible first | exact HB.out | apply below_alloc | apply pw_below_drewN | apply below_drew1 | refine below_set ?_ GE574.out) | exact HB.out)) hb); clear BK574; clear HB; have BK574 := n0_; have HB := n1_; clear n0_ n1_; (try clear hb); (try clear hb2); (try clear hk); (try clear hi); have hcz8_0 : w7.cell? ⟨gb574, 0, none⟩ = some (.int .u64 a0_0) := (blk_cell BK574.out 0).trans rfl; have hcz8_1 : w7.cell? ⟨gb574, 1, none⟩ = some (.int .u64 a0_1) := (blk_cell BK574.out 1).trans rfl; have hcz8_2 : w7.cell? ⟨gb574, 2, none⟩ = some (.bool a0_2) := (blk_cell BK574.out 2).trans rfl; have hfz8_0 := blk_frozen BK574.out 0; have hfz8_1 := blk_frozen BK574.out 1; have hfz8_2 := blk_frozen BK574.out 2) | ((with_reducible refine gate_callee (f := 66) rfl ?_); refine goesL_ (some 15) rfl rfl Tryz.func66 (by kernel_rfl) rfl #[.int .u64 (IntKind.u64.wrap ((IntKind.u64.wrap (a0_0 + 4611686018427387904)) + (IntKind.u64.wrap ((Int.tmod a0_1 2) * 2305843009213693952))))] rfl ga_ ?_; (with_reducible refine (impl_PutWord.calls k (IntKind.u64.wrap ((IntKind.u64.wrap (a0_0 + 4611686018427387904)) + (IntKind.u64.wrap ((Int.tmod a0_1 2) * 2305843009213693952)))) t576 _ A4.out).mono ?_); rintro e w9 ⟨rfl, hb⟩; refine ⟨_, rfl, ?_⟩; have n0_ := Aside0.mk (blk_below (g := gb574) (o := .cells #[.int .u64 a0_0, .int .u64 a0_1, .bool a0_2] 27 (0, 0)) (by (with_reducible repeat (first | refine blk_drewN ?_ _ | refine blk_drew ?_ | refine blk_alloc ?_ _)); exact BK574.out) hb); have n1_ := Aside0.mk (below_step (by repeat (first | (with_reducible first | exact HB.out | apply below_alloc | apply pw_below_drewN | apply below_drew1 | refine below_set ?_ GE574.out) | exact HB.out)) hb); clear BK574; clear HB; have BK574 := n0_; have HB := n1_; clear n0_ n1_; (try clear hb); (try clear hb2); (try clear hk); (try clear hi)))
  go_ret
  exact ⟨by first | rfl | (simp [errW_none, errW_some] <;> rfl) | (simp [*, errW_none, errW_some] <;> rfl), by repeat (first | (with_reducible first | exact HB.out | apply below_alloc | apply pw_below_drewN | apply below_drew1 | refine below_set ?_ GE574.out) | exact HB.out)⟩
end Go.Proofs.YtgdcafbdkidamaaGreatDoor.C
end
section
namespace Go.Proofs.YtgdcafbdkidamaaGreatDoor.Pure
open Go.RowKit Go.Proofs.YtgdcafbdkidamaaGreatDoor.B Go.Proofs.YtgdcafbdkidamaaGreatDoor.C Go.Proofs.YtgdcafbdkidamaaGreatDoor.H0 Go.Proofs.YtgdcafbdkidamaaGreatDoorW.PrintWords Go.Proofs.YtgdcafbdkidamaaGreatDoorW.PrintLast Go.Proofs.YtgdcafbdkidamaaGreatDoorW.PrintMore
set_option linter.unusedVariables false
set_option linter.unusedSimpArgs false
theorem at_least {α : Type} {f : Nat → Option α} (hm : ∀ k, LeO (f k) (f (k + 1))) {k0 : Nat} {r : α} (h : f k0 = some r) : ∀ {k : Nat}, k0 ≤ k → f k = some r
  | 0, hk => by rw [show k0 = 0 by omega] at h; exact h
  | k + 1, hk => by
    by_cases e : k0 = k + 1
    · rw [← e]; exact h
    · exact hm k _ (at_least hm h (by omega))

/-- a word's eight bytes -/
def putWord (a : Int) : ByteArray := strOfNums [shr .u64 a 56 % 256, shr .u64 a 48 % 256, shr .u64 a 40 % 256, shr .u64 a 32 % 256, shr .u64 a 24 % 256, shr .u64 a 16 % 256, shr .u64 a 8 % 256, shr .u64 a 0 % 256]

theorem spec_putWord (a : Int) {k : Nat} (hk : 20 ≤ k) : spec_PutWord.f k a = some (putWord a) := by
  have h : spec_PutWord.f 20 a = some (putWord a) := by
    simp [spec_PutWord.f, spec_PutWord.l0, wrap64, IntKind.wrap, IntKind.bits, IntKind.signed, putWord]
  exact at_least (f := fun k => spec_PutWord.f k a) (fun k => spec_PutWord.mono _ _) h hk

theorem impl_putWord (a : Int) {k : Nat} (hk : 20 ≤ k) : impl_PutWord.f k a = some (putWord a) := by
  have h : impl_PutWord.f 20 a = some (putWord a) := by
    simp [impl_PutWord.f, impl_bigEndian.f, impl_bigEndian.l0, wrap64, List.replicate_succ, putWord]
  exact at_least (f := fun k => impl_PutWord.f k a) (fun k => impl_PutWord.mono _ _) h hk

theorem putWord_size (a : Int) : (putWord a).size = 8 := by simp [putWord, strOfNums_size]

/-- a point's word -/
def ptWord (x y : Int) (inf : Bool) : Int := if oc x y inf = true ∧ inf = false then x + 4611686018427387904 + 2305843009213693952 * (y % 2) else 0

theorem proper_impl (x y : Int) (inf : Bool) (hx0 : 0 ≤ x) (hx : x < 18446744073709551616) (hy0 : 0 ≤ y) (hy : y < 18446744073709551616) {k : Nat} (hk : 11 ≤ k) :
    impl_proper.f k x y inf = some (oc x y inf && !inf) := by
  unfold impl_proper.f
  rw [onCurve_impl x y inf hx0 hx hy0 hy hk]; simp only [Option.bind_some]
  by_cases h : oc x y inf = true
  · rw [if_pos h, h]
    cases inf
    · simp
    · rw [oc_t, decide_eq_true_eq] at h
      simp [h.1, h.2]
  · rw [if_neg h]; simp [h]

theorem putPoint_impl (x y : Int) (inf : Bool) (hx0 : 0 ≤ x) (hx : x < 18446744073709551616) (hy0 : 0 ≤ y) (hy : y < 18446744073709551616) {k : Nat} (hk : 22 ≤ k) :
    impl_PutPoint.f k x y inf = some (putWord (ptWord x y inf)) := by
  unfold impl_PutPoint.f ptWord
  rw [proper_impl x y inf hx0 hx hy0 hy (by omega)]; simp only [Option.bind_some]
  by_cases h : oc x y inf = true
  · cases inf
    · have h2 := h
      rw [oc_f, decide_eq_true_eq] at h2
      rw [if_pos (by simp [h]), if_pos (by simp [h]), Int.tmod_eq_emod_of_nonneg hy0, wu (n := x + 4611686018427387904) (by omega) (by omega), wu (n := y % 2 * 2305843009213693952) (by omega) (by omega), wu (by omega) (by omega), impl_putWord _ (by omega)]
      simp only [Option.bind_some]
      rw [Int.mul_comm (y % 2)]
    · rw [if_neg (by simp), if_neg (by simp), impl_putWord _ (by omega)]; rfl
  · rw [if_neg (by simp [h]), if_neg (by simp [h]), impl_putWord _ (by omega)]; rfl

theorem putPoint_spec (x y : Int) (inf : Bool) (hx0 : 0 ≤ x) (hx : x < 18446744073709551616) (hy0 : 0 ≤ y) (hy : y < 18446744073709551616) {k : Nat} (hk : 22 ≤ k) :
    spec_PutPoint.f k x y inf = some (putWord (ptWord x y inf)) := by
  obtain ⟨k, rfl⟩ : ∃ j, k = j + 1 := ⟨k - 1, by omega⟩
  unfold spec_PutPoint.f ptWord
  cases inf
  · rw [if_neg (by decide), onCurve_spec x y false hx0 hy0]; simp only [Option.bind_some, spec_PutPoint.j0]
    by_cases h : oc x y false = true
    · have h2 := h
      rw [oc_f, decide_eq_true_eq] at h2
      rw [if_neg (by simp [h]), if_pos (by simp [h]), Int.tmod_eq_emod_of_nonneg hy0, wu (n := x + 4611686018427387904) (by omega) (by omega), wu (n := 2305843009213693952 * (y % 2)) (by omega) (by omega), wu (by omega) (by omega), spec_putWord _ (by omega)]
      rfl
    · rw [if_pos (by simp [h]), if_neg (by simp [h]), spec_putWord _ (by omega)]; rfl
  · rw [if_pos rfl]; simp only [spec_PutPoint.j0]
    rw [if_pos trivial, if_neg (by simp), spec_putWord _ (by omega)]; rfl

end Go.Proofs.YtgdcafbdkidamaaGreatDoor.Pure
end
