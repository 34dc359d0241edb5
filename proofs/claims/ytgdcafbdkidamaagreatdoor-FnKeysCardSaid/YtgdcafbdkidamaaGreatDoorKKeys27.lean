/- What the proof of FnKeys leans on, part 27: cut out of the texts of this claim's making by a program (wip/tools/pack.py). -/
import Derived.Test.YtgdcafbdkidamaaGreatDoorKKeys0
import Derived.Test.YtgdcafbdkidamaaGreatDoorKKeys8
import Derived.Test.YtgdcafbdkidamaaGreatDoorKKeys10
import Derived.Test.YtgdcafbdkidamaaGreatDoorKKeys11
import Derived.Test.YtgdcafbdkidamaaGreatDoorKKeys12
import Derived.Test.YtgdcafbdkidamaaGreatDoorKKeys13
import Derived.Test.YtgdcafbdkidamaaGreatDoorKKeys14
import Derived.Test.YtgdcafbdkidamaaGreatDoorKKeys26
import Derived.KernelRfl
section
namespace Go.Proofs.YtgdcafbdkidamaaGreatDoor.H2
open Go.RowKit Go.Shelf Go.Proofs.YtgdcafbdkidamaaGreatDoorW.PrintWords Go.Proofs.YtgdcafbdkidamaaGreatDoorW.PrintLast Go.Proofs.YtgdcafbdkidamaaGreatDoorW.PrintMore Go.Proofs.YtgdcafbdkidamaaGreatDoor.H0 Go.Proofs.YtgdcafbdkidamaaGreatDoor.H1 Go.Proofs.YtgdcafbdkidamaaGreatDoor.B
attribute [local go_sem] Oper.semAt_some
/-- the product modulo m; 0 for m 0 -/
def mm (x y m : Int) : Int := if m = 0 then 0 else x * y % m
theorem mm_range {x y m : Int} (h : 0 ≤ m) (hm : m < 18446744073709551616) : 0 ≤ mm x y m ∧ mm x y m < 18446744073709551616 := by
  unfold mm
  by_cases h0 : m = 0
  · rw [if_pos h0]; omega
  · rw [if_neg h0]
    have := Int.emod_nonneg (x * y) h0
    have := Int.emod_lt_of_pos (x * y) (show 0 < m by omega)
    omega
/-- one bit's step -/
def pst (a m r : Int) (b : Bool) : Int := if b then mm (mm r r m) a m else mm r r m
def pfold (a m : Int) (bs : List Bool) : Int := bs.foldl (pst a m) (1 % m)
theorem pfold_snoc (a m : Int) (bs : List Bool) (b : Bool) : pfold a m (bs ++ [b]) = pst a m (pfold a m bs) b := by simp [pfold]
theorem pfold_range {a m : Int} (h : 0 ≤ m) (hm : m < 18446744073709551616) (h0 : m ≠ 0) : ∀ (bs : List Bool) (r : Int), 0 ≤ r → r < 18446744073709551616 → 0 ≤ bs.foldl (pst a m) r ∧ bs.foldl (pst a m) r < 18446744073709551616
  | [], r, h1, h2 => ⟨h1, h2⟩
  | b :: bs, r, h1, h2 => by
    have := mm_range (x := r) (y := r) h hm
    have := mm_range (x := mm r r m) (y := a) h hm
    apply pfold_range h hm h0 bs
    · unfold pst; split <;> omega
    · unfold pst; split <;> omega

end Go.Proofs.YtgdcafbdkidamaaGreatDoor.H2
end
section
namespace Go.Proofs.YtgdcafbdkidamaaGreatDoor.H3
open Go.RowKit Go.Shelf Go.Proofs.YtgdcafbdkidamaaGreatDoorW.PrintWords Go.Proofs.YtgdcafbdkidamaaGreatDoorW.PrintLast Go.Proofs.YtgdcafbdkidamaaGreatDoorW.PrintMore Go.Proofs.YtgdcafbdkidamaaGreatDoor.H0 Go.Proofs.YtgdcafbdkidamaaGreatDoor.H1 Go.Proofs.YtgdcafbdkidamaaGreatDoor.H2 Go.Proofs.YtgdcafbdkidamaaGreatDoor.B
attribute [local go_sem] Oper.semAt_some
theorem times_fieldP (x y : Int) (w : World) (hx0 : 0 ≤ x) (hx : x < 18446744073709551616) (hy0 : 0 ≤ y) (hy : y < 18446744073709551616) :
    Calls Tryz.prog 116 #[.agg #[.int .u64 x], .agg #[.int .u64 y]] w fun e w' => e = .returned (.agg #[.int .u64 (mm x y primefieldP)]) ∧ Below w.heap.size w w' :=
  impl_num_impl_fieldP_times.calls 10 x y _ w (by
    simp only [impl_num_impl_fieldP_times.f, impl_prime_impl_fieldP.f, Option.bind_some]
    rw [Pure.mulmod x y primefieldP hx0 hx hy0 hy (by decide) (by decide) (by omega)]; rfl)
theorem numOf_fieldP (x : Int) (hx : 0 ≤ x) (w : World) :
    Calls Tryz.prog 160 #[.int .u64 x] w fun e w' => e = .returned (.agg #[.int .u64 (x % primefieldP)]) ∧ Below w.heap.size w w' :=
  impl_numOf_impl_fieldP.calls x _ w (by
    simp only [impl_numOf_impl_fieldP.f, impl_prime_impl_fieldP.f, Option.bind_some]
    rw [if_neg (by decide), Int.tmod_eq_emod_of_nonneg hx])

def impl_num_impl_fieldP_power.f (a e : Int) : Option Int :=
  if 0 ≤ a ∧ a < 18446744073709551616 ∧ 0 ≤ e ∧ e < 18446744073709551616 then some (pfold a primefieldP (bitsOf e)) else none

set_option maxRecDepth 100000 in
set_option maxHeartbeats 4000000 in
theorem impl_num_impl_fieldP_power.calls (a e r : Int) (w : World) (h : impl_num_impl_fieldP_power.f a e = some r) :
    Calls Tryz.prog 147 #[.agg #[.int .u64 a], .int .u64 e] w fun en w' => en = .returned (.agg #[.int .u64 r]) ∧ Below w.heap.size w w' := by
  unfold impl_num_impl_fieldP_power.f at h
  split at h
  case isFalse => cases h
  rename_i hh
  obtain ⟨ha0, ha1, he0, he1⟩ := hh
  obtain rfl := Option.some.inj h
  clear h
  refine (callsIn_wide (n := 5)).1 ?_
  refine callsIn_of_wp_marks Tryz.func147 rfl trivial ?_ rfl
  simp only [Tryz.ntmps147, List.size_toArray, List.length_cons, List.length_nil, Nat.reduceAdd, Nat.reduceSub, Array.replicate_succ, Array.replicate_zero, List.push_toArray, List.append_toArray, List.nil_append, List.cons_append]
  gi_wp2_with (first | (refine ⟨trivial, ?_⟩; gi_at_call 160; refine (callsIn_wide.2 (numOf_fieldP 1 (by omega) _)).mono ?_; rintro en w1 ⟨rfl, hb1⟩) | (refine ⟨trivial, ?_⟩; gi_at_call 118; refine (callsIn_wide.2 (highBits_any e _)).mono ?_; rintro en w' ⟨rfl, rfl⟩))
  have hA0 : Boxed w1 w.heap.size 101 (.int .u64 a) := boxed_below ((Boxed.new w _ _).alloc _) hb1
  have hR0 : Boxed w1 (w.heap.size + 1) 101 (.int .u64 0) := by
    have := Boxed.new (w.alloc (.cells #[.int .u64 a] 101)) 101 (.int .u64 0)
    rw [World.size_alloc] at this
    exact boxed_below this hb1
  have hs1 : w.heap.size + 2 ≤ w1.heap.size := by have := hb1.size; simp only [World.size_alloc] at this; omega
  have hB1 : Below w.heap.size w w1 := (((Below.refl _ w).alloc (Nat.le_refl _) _).alloc (by simp) _).trans (hb1.mono (by simp only [World.size_alloc]; omega))
  have hb2 : Boxed (w1.alloc (.cells #[.int .u64 (1 % primefieldP)] 101)) w1.heap.size 101 (.int .u64 (1 % primefieldP)) := Boxed.new w1 _ _
  have hbe : Boxed ((w1.alloc (.cells #[.int .u64 (1 % primefieldP)] 101)).alloc (.cells #[.int .u64 e] 22)) (w1.heap.size + 1) 22 (.int .u64 e) := by
    have := Boxed.new (w1.alloc (.cells #[.int .u64 (1 % primefieldP)] 101)) 22 (.int .u64 e)
    rwa [World.size_alloc] at this
  have hA1 := (hA0.alloc (.cells #[.int .u64 (1 % primefieldP)] 101)).alloc (.cells #[.int .u64 e] 22)
  have hR1 := (hR0.alloc (.cells #[.int .u64 (1 % primefieldP)] 101)).alloc (.cells #[.int .u64 e] 22)
  have hO1 := hb2.alloc (.cells #[.int .u64 e] 22)
  have hBB : Below w.heap.size w ((w1.alloc (.cells #[.int .u64 (1 % primefieldP)] 101)).alloc (.cells #[.int .u64 e] 22)) :=
    (hB1.alloc (by omega) _).alloc (by simp; omega) _
  have hsz : ((w1.alloc (.cells #[.int .u64 (1 % primefieldP)] 101)).alloc (.cells #[.int .u64 e] 22)).heap.size = w1.heap.size + 1 + 1 := by simp only [World.size_alloc]
  generalize ((w1.alloc (.cells #[.int .u64 (1 % primefieldP)] 101)).alloc (.cells #[.int .u64 e] 22)) = W1 at *
  generalize w1.heap.size = s1 at *
  refine wpIn_rangeFunc_ownF rfl (by omega) (gf := 145) (lb := #[.pointer (some ⟨s1 + 1, 0, none⟩)]) rfl trivial (enters_of Tryz.func145 (by kernel_rfl) rfl)
    (bits_stops (s1 + 1) 22 e he0 (by omega) _ hbe) keepBox_t (keepBox_b (by simp [hsz])) (Below.refl _ _) (fun _ => rfl)
    (fun pre W => (Boxed W w.heap.size 101 (.int .u64 a) ∧ Boxed W (w.heap.size + 1) 101 (.int .u64 0) ∧ Boxed W s1 101 (.int .u64 (pfold a primefieldP pre)) ∧ Boxed W (s1 + 1) 22 (.int .u64 e)) ∧ Below w.heap.size w W)
    (fun _ _ _ => False)
    (OwnFrom.and (Own.from (fun s A B row hs hg hr => ⟨boxed_own _ _ (fun _ : List Bool => Value.int .u64 a) s A B row hs.1 hg hr, boxed_own _ _ (fun _ : List Bool => Value.int .u64 0) s A B row hs.2.1 hg hr, boxed_own _ _ (fun s => Value.int .u64 (pfold a primefieldP s)) s A B row hs.2.2.1 hg hr, boxed_own _ _ (fun _ : List Bool => Value.int .u64 e) s A B row hs.2.2.2 hg hr⟩) _) (ownFrom_below (Nat.le_refl _) (by simp [hsz]; omega)))
    (fun _ _ _ _ _ hs _ _ => hs)
    ⟨⟨hA1, hR1, hO1, hbe⟩, hBB⟩
    (fun x => { tmps := #[.agg #[.int .u64 a], .int .u64 e, .pointer (some ⟨w.heap.size, 0, none⟩), undef, .pointer (some ⟨w.heap.size + 1, 0, none⟩), .pointer (some ⟨s1, 0, none⟩), .bool x, .agg #[.int .u64 (1 % primefieldP)], .int .u64 e, .func (.func 145) #[] #[.pointer (some ⟨s1 + 1, 0, none⟩)], .bool x, undef, undef, undef, undef, undef, undef, undef, undef], defers := [] }) ?assign ?body ?done ?stop
  case assign =>
    intro l x W K hK
    gi_wp2
    exact hK
  case body =>
    rintro l pre x W ⟨⟨hA, hR, hO, hE⟩, hB⟩ _
    have hWs := hE.lt
    have hr0 := pfold_range (a := a) (m := primefieldP) (by decide) (by decide) (by decide) pre (1 % primefieldP) (by decide) (by decide)
    change 0 ≤ pfold a primefieldP pre ∧ pfold a primefieldP pre < 18446744073709551616 at hr0
    have hr1 := mm_range (x := pfold a primefieldP pre) (y := pfold a primefieldP pre) (m := primefieldP) (by decide) (by decide)
    have hs := pfold_snoc a primefieldP pre x
    have hAc := hA.cell
    have hOc := hO.cell
    have hOf := hO.frozen
    cases x with
    | false =>
      gi_wp2_with (refine ⟨trivial, ?_⟩; gi_at_call 116; refine (CallsIn.inRound l (callsIn_wide.2 (times_fieldP (pfold a primefieldP pre) (pfold a primefieldP pre) _ hr0.1 hr0.2 hr0.1 hr0.2))).mono ?_; rintro en w' ⟨rfl, hn1⟩; have hO' := boxed_below hO hn1; have hOc' := hO'.cell; have hOf' := hO'.frozen)
      have hg := gb_set (gb_below (gb_refl W (some s1)) hn1) (.int .u64 (mm (pfold a primefieldP pre) (pfold a primefieldP pre) primefieldP))
      refine ⟨keeps_of_gb hO hg, keepBox_of_gb hg hWs (by omega), ⟨hA.kept hg (by simp; omega), hR.kept hg (by simp; omega), ?_, hE.kept hg (by simp)⟩, below_of_gb hB hg hB.size (by omega)⟩
      rw [hs]
      exact hO'.set _
    | true =>
      gi_wp2_with (refine ⟨trivial, ?_⟩; gi_at_call 116; first | ((with_reducible refine (CallsIn.inRound l (callsIn_wide.2 (times_fieldP (pfold a primefieldP pre) (pfold a primefieldP pre) _ hr0.1 hr0.2 hr0.1 hr0.2))).mono ?_); rintro en w' ⟨rfl, hn1⟩; have hO' := boxed_below hO hn1; have hOc' := hO'.cell; have hOf' := hO'.frozen; have hA' := (boxed_below hA hn1).kept (gb_set (gb_refl w' (some s1)) (.int .u64 (mm (pfold a primefieldP pre) (pfold a primefieldP pre) primefieldP))) (by simp; omega); have hA'c := hA'.cell) | ((with_reducible refine (CallsIn.inRound l (callsIn_wide.2 (times_fieldP (mm (pfold a primefieldP pre) (pfold a primefieldP pre) primefieldP) a _ hr1.1 hr1.2 ha0 ha1))).mono ?_); rintro en w'' ⟨rfl, hn2⟩; have hO'' := boxed_below (hO'.set _) hn2; have hOc'' := hO''.cell; have hOf'' := hO''.frozen))
      have hg := gb_set (gb_below (gb_set (gb_below (gb_refl W (some s1)) hn1) (.int .u64 (mm (pfold a primefieldP pre) (pfold a primefieldP pre) primefieldP))) hn2) (.int .u64 (mm (mm (pfold a primefieldP pre) (pfold a primefieldP pre) primefieldP) a primefieldP))
      refine ⟨keeps_of_gb hO hg, keepBox_of_gb hg hWs (by omega), ⟨hA.kept hg (by simp; omega), hR.kept hg (by simp; omega), ?_, hE.kept hg (by simp)⟩, below_of_gb hB hg hB.size (by omega)⟩
      rw [hs]
      exact hO''.set _
  case done =>
    rintro D ys W hD rfl ⟨⟨hA, hR, hO, _⟩, hB⟩ hK
    have hOc := hO.cell
    have hRc := hR.cell
    have hRf := hR.frozen
    gi_wp2
    have hR2 := hR.set (.int .u64 (pfold a primefieldP (bitsOf e)))
    have hB2 : Below w.heap.size w (W.setCell ⟨w.heap.size + 1, 0, none⟩ (.int .u64 (pfold a primefieldP (bitsOf e)))) := hB.setCell (by simp) _
    have hK2 : (W.setCell ⟨w.heap.size + 1, 0, none⟩ (.int .u64 (pfold a primefieldP (bitsOf e)))).heap[D]? = some (.deferred (some [])) := by
      rw [Below.heap_setCell _ _ _ _ (by simp; omega)]; exact hK
    generalize W.setCell ⟨w.heap.size + 1, 0, none⟩ (.int .u64 (pfold a primefieldP (bitsOf e))) = W2 at *
    refine ⟨by simp, .inl ⟨_, _, rfl, run_takeDeferred hK2, ?_⟩⟩
    refine ⟨_, results_cell_row rfl _ _ (w.heap.size + 1) 101 #[.int .u64 (pfold a primefieldP (bitsOf e))] (0, 0) _ rfl ?_ Tryz.underlying101 rfl (by kernel_rfl), rfl, hB2.trans (belowK_b (w := w) (Nat.le_refl _) W2 D _ _ (by omega) hK2 rfl rfl)⟩
    exact hR2.kept (grownBy_putObj' W2 D (.deferred none)) (by simp; omega)
  case stop =>
    rintro D c pre W _ _ h _
    exact h.elim
end Go.Proofs.YtgdcafbdkidamaaGreatDoor.H3
end
section
namespace Go.Proofs.YtgdcafbdkidamaaGreatDoor.C
open Go.Proofs.YtgdcafbdkidamaaGreatDoor.Sq Go.RowKit Go.Proofs.YtgdcafbdkidamaaGreatDoor.B Go.Proofs.YtgdcafbdkidamaaGreatDoor.H0 Go.Proofs.YtgdcafbdkidamaaGreatDoor.G1 Go.Proofs.YtgdcafbdkidamaaGreatDoor.F0 Go.Proofs.YtgdcafbdkidamaaGreatDoor.H1 Go.Proofs.YtgdcafbdkidamaaGreatDoor.H2 Go.Proofs.YtgdcafbdkidamaaGreatDoor.H3 Go.Proofs.YtgdcafbdkidamaaGreatDoorW.PrintWords Go.Proofs.YtgdcafbdkidamaaGreatDoorW.PrintLast Go.Proofs.YtgdcafbdkidamaaGreatDoorW.PrintMore Go.Proofs.YtgdcafbdkidamaaGreatDoor.Ve Go.Proofs.YtgdcafbdkidamaaGreatDoor.VeT Go.Proofs.YtgdcafbdkidamaaGreatDoor.VeE
attribute [local go_sem high] field_num_fieldP   -- for this text's walks alone
attribute [local go_sem] max2_int min2_int max_two min_two max_three min_three max_four min_four   -- for this text's walks alone
set_option linter.unusedVariables false
set_option linter.unusedSimpArgs false
def impl_OnCurve.f (k : Nat) (a0_0 : Int) (a0_1 : Int) (a0_2 : Bool) : Option (Bool) := (impl_at.f k a0_0 a0_1 a0_2).bind fun bt174 => (some bt174.2.2.2)
set_option maxRecDepth 100000 in
set_option maxHeartbeats 4000000 in
theorem impl_OnCurve.calls (k : Nat) (a0_0 : Int) (a0_1 : Int) (a0_2 : Bool) (r : Bool) (w : World) (hG : G w) (h : impl_OnCurve.f k a0_0 a0_1 a0_2 = some r) :
    Calls Tryz.prog 51 #[.agg #[.int .u64 a0_0, .int .u64 a0_1, .bool a0_2]] w fun e w' => e = .returned (.bool r) ∧ Below w.heap.size w w' := by
  unfold impl_OnCurve.f at h
  repeat' (first | (rw [Option.bind_eq_some_iff] at h; obtain ⟨_, _, h⟩ := h) | (split at h) | (cases h <;> fail) | (replace h := Option.some.inj h) | (have h3_ := (Prod.mk.inj h).1; replace h := (Prod.mk.inj h).2; subst h3_) | (subst h))
  all_goals try contradiction
  all_goals refine ve_fn (args := [.agg #[.int .u64 a0_0, .int .u64 a0_1, .bool a0_2]]) Tryz.func51 rfl Tryz.ntmps51 rfl (good (Γ := fun W => G W) (fun W hb => G_below hb hG)) ?_
  all_goals repeat' (first | refine rbt ?_ | refine rbf ?_ | refine wn ?_ | refine wq ?_ | refine wc_plain ?_ | refine wc_draw ?_ | refine rZ ?_ | refine rD ?_ | refine ve8 ?_ | refine ve4 ?_ | refine ve3 ?_ | refine ve1 ?_ | refine ve2 ?_ | refine ve5 ?_ | refine ve6 ?_ | refine ve7 ?_ | refine ve9 ?_ | refine rA ?_ | refine rE ?_ | refine rC ?_ | refine rB ?_ | refine rG ?_ | refine rH ?_ | refine rI ?_ | refine rJ ?_ | refine rcb ?_ | refine rcp (Pre := impl_at.f _ _ _ _ = some (_, _, _, _)) (fun hp_ w_ hΓ => impl_at.calls _ _ _ _ _ _ _ _ w_ hΓ hp_) ?_ | refine rel (fun w_ hΓ => ld_zero (by first  |  exact hΓ.z  |  exact hΓ.1.z  |  exact hΓ.1  |  exact hΓ)) ?_  |  refine req (fun w_ => eq_pt w_) ?_  |  refine req (fun w_ => ne_pt w_) ?_  |  refine req (fun w_ => eq_num w_) ?_  |  refine rsh ?_  |  refine rsl_ ?_  |  refine rslh ?_ | refine wb ?_ | refine wk ?_ | refine we ?_ | exact wt | refine wr ?_ | refine rr1 ?_ | refine rr2 ?_ | exact fr | exact fe | refine wTs ?_ | refine wFs ?_ | refine rof ?_ | refine rof0 ?_)

def impl_num_impl_fieldP_inverse.f (a0_0 : Int) : Option (Int) := (impl_prime_impl_fieldP.f).bind fun t253 => ((impl_num_impl_fieldP_power.f a0_0 (IntKind.u64.wrap (t253 - 2))).bind fun t254 => (some t254))
set_option maxRecDepth 100000 in
set_option maxHeartbeats 4000000 in
theorem impl_num_impl_fieldP_inverse.calls (a0_0 : Int) (r : Int) (w : World) (h : impl_num_impl_fieldP_inverse.f a0_0 = some r) :
    Calls Tryz.prog 120 #[.agg #[.int .u64 a0_0]] w fun e w' => e = .returned (.agg #[.int .u64 r]) ∧ Below w.heap.size w w' := by
  unfold impl_num_impl_fieldP_inverse.f at h
  repeat' (first | (rw [Option.bind_eq_some_iff] at h; obtain ⟨_, _, h⟩ := h) | (split at h) | (cases h <;> fail) | (replace h := Option.some.inj h) | (have h3_ := (Prod.mk.inj h).1; replace h := (Prod.mk.inj h).2; subst h3_) | (subst h))
  all_goals try contradiction
  all_goals refine ve_fn (args := [.agg #[.int .u64 a0_0]]) Tryz.func120 rfl Tryz.ntmps120 rfl (good (Γ := fun _ => True) (fun _ _ => trivial)) ?_
  all_goals repeat' (first | refine rbt ?_ | refine rbf ?_ | refine wn ?_ | refine wq ?_ | refine wc_plain ?_ | refine wc_draw ?_ | refine rZ ?_ | refine rD ?_ | refine ve8 ?_ | refine ve4 ?_ | refine ve3 ?_ | refine ve1 ?_ | refine ve2 ?_ | refine ve5 ?_ | refine ve6 ?_ | refine ve7 ?_ | refine ve9 ?_ | refine rA ?_ | refine rE ?_ | refine rC ?_ | refine rB ?_ | refine rG ?_ | refine rH ?_ | refine rI ?_ | refine rJ ?_ | refine rcb ?_ | refine rcp (Pre := impl_prime_impl_fieldP.f = some _) (fun hp_ w_ hΓ => impl_prime_impl_fieldP.calls _ w_ hp_) ?_ | refine rcp (Pre := impl_num_impl_fieldP_power.f _ _ = some _) (fun hp_ w_ hΓ => impl_num_impl_fieldP_power.calls _ _ _ w_ hp_) ?_ | refine rel (fun w_ hΓ => ld_zero (by first  |  exact hΓ.z  |  exact hΓ.1.z  |  exact hΓ.1  |  exact hΓ)) ?_  |  refine req (fun w_ => eq_pt w_) ?_  |  refine req (fun w_ => ne_pt w_) ?_  |  refine req (fun w_ => eq_num w_) ?_  |  refine rsh ?_  |  refine rsl_ ?_  |  refine rslh ?_ | refine wb ?_ | refine wk ?_ | refine we ?_ | exact wt | refine wr ?_ | refine rr1 ?_ | refine rr2 ?_ | exact fr | exact fe | refine wTs ?_ | refine wFs ?_ | refine rof ?_ | refine rof0 ?_)

end Go.Proofs.YtgdcafbdkidamaaGreatDoor.C
end
section
namespace Go.Proofs.YtgdcafbdkidamaaGreatDoor.Pure
open Go.RowKit Go.Proofs.YtgdcafbdkidamaaGreatDoor.B Go.Proofs.YtgdcafbdkidamaaGreatDoor.C Go.Proofs.YtgdcafbdkidamaaGreatDoor.H0 Go.Proofs.YtgdcafbdkidamaaGreatDoorW.PrintWords Go.Proofs.YtgdcafbdkidamaaGreatDoorW.PrintLast Go.Proofs.YtgdcafbdkidamaaGreatDoorW.PrintMore
set_option linter.unusedVariables false
set_option linter.unusedSimpArgs false
theorem is_mod {r c m k : Int} (h0 : 0 ≤ r) (h : r < m) (e : r = c - m * k) : r = c % m := by
  have : c = r + m * k := by omega
  rw [this, Int.add_mul_emod_self_left, Int.emod_eq_of_lt h0 h]

theorem mod_out (c m : Int) : ∃ k, c % m = c - m * k := ⟨c / m, by have := Int.emod_add_mul_ediv c m; omega⟩

theorem plus_P (a b : Int) (ha0 : 0 ≤ a) (ha : a < 2305843009213693951) (hb0 : 0 ≤ b) (hb : b < 2305843009213693951) : impl_num_impl_fieldP_plus.f a b = some ((a + b) % 2305843009213693951) := by
  simp only [impl_num_impl_fieldP_plus.f, impl_prime_impl_fieldP.f, Option.bind_some]
  rw [show primefieldP = 2305843009213693951 from rfl, wu (by omega) (by omega)]
  by_cases h : a + b ≥ 2305843009213693951
  · rw [if_pos h, wu (by omega) (by omega), emod_sub (by omega) (by omega)]
  · rw [if_neg h, Int.emod_eq_of_lt (by omega) (by omega)]

theorem negate_P (a : Int) (ha0 : 0 ≤ a) (ha : a < 2305843009213693951) :
    impl_num_impl_fieldP_negative.f a = some (if a = 0 then 0 else 2305843009213693951 - a) := by
  simp only [impl_num_impl_fieldP_negative.f, impl_prime_impl_fieldP.f, Option.bind_some]
  by_cases h : a = 0
  · rw [if_pos h, if_pos h, h]
  · rw [if_neg h, if_neg h, show primefieldP = 2305843009213693951 from rfl, wu (by omega) (by omega)]

theorem minus_P (a b : Int) (ha0 : 0 ≤ a) (ha : a < 2305843009213693951) (hb0 : 0 ≤ b) (hb : b < 2305843009213693951) : impl_num_impl_fieldP_minus.f a b = some ((a - b) % 2305843009213693951) := by
  simp only [impl_num_impl_fieldP_minus.f]
  rw [negate_P b hb0 hb]
  simp only [Option.bind_some]
  by_cases h : b = 0
  · rw [if_pos h, plus_P a 0 ha0 ha (by decide) (by decide), h]; simp
  · rw [if_neg h, plus_P a _ ha0 ha (by omega) (by omega)]
    simp only [Option.bind_some]
    rw [show a + (2305843009213693951 - b) = a - b + 2305843009213693951 by omega, Int.add_emod_right]

theorem prod_P (a b : Int) (ha0 : 0 ≤ a) (ha : a < 18446744073709551616) (hb0 : 0 ≤ b) (hb : b < 18446744073709551616) {k : Nat} (hk : 10 ≤ k) :
    impl_num_impl_fieldP_times.f k a b = some (a * b % 2305843009213693951) := by
  simp only [impl_num_impl_fieldP_times.f, impl_prime_impl_fieldP.f, Option.bind_some]
  rw [mulmod a b primefieldP ha0 ha hb0 hb (by decide) (by decide) hk]; rfl

theorem pP (x : Int) : 0 ≤ x % 2305843009213693951 ∧ x % 2305843009213693951 < 2305843009213693951 := by omega

/-- the curve's right side -/
def rhs (x : Int) : Int := (x * x * x - 3 * x + 111) % 2305843009213693951

theorem curveAt_P (x : Int) (hx0 : 0 ≤ x) (hx : x < 2305843009213693951) {k : Nat} (hk : 10 ≤ k) : impl_curveAt.f k x = some (rhs x) := by
  unfold impl_curveAt.f
  have h1 := pP (x * x)
  rw [prod_P x x hx0 (by omega) hx0 (by omega) hk]; simp only [Option.bind_some]
  rw [minus_P _ 3 h1.1 h1.2 (by decide) (by decide)]; simp only [Option.bind_some]
  have h2 := pP (x * x % 2305843009213693951 - 3)
  rw [prod_P _ x h2.1 (by omega) hx0 (by omega) hk]; simp only [Option.bind_some]
  have h3 := pP ((x * x % 2305843009213693951 - 3) % 2305843009213693951 * x)
  rw [plus_P _ 111 h3.1 h3.2 (by decide) (by decide)]; simp only [Option.bind_some]
  have h4 := pP ((x * x % 2305843009213693951 - 3) % 2305843009213693951 * x % 2305843009213693951 + 111)
  congr 1
  obtain ⟨k1, e1⟩ := mod_out (x * x) 2305843009213693951
  obtain ⟨k2, e2⟩ := mod_out (x * x % 2305843009213693951 - 3) 2305843009213693951
  obtain ⟨k3, e3⟩ := mod_out ((x * x % 2305843009213693951 - 3) % 2305843009213693951 * x) 2305843009213693951
  obtain ⟨k4, e4⟩ := mod_out ((x * x % 2305843009213693951 - 3) % 2305843009213693951 * x % 2305843009213693951 + 111) 2305843009213693951
  refine is_mod (k := k1 * x + k2 * x + k3 + k4) h4.1 h4.2 ?_
  rw [e4, e3, e2, e1]
  grind

theorem l3Minus_P (a b : Int) (ha0 : 0 ≤ a) (ha : a < 2305843009213693951) (hb0 : 0 ≤ b) (hb : b < 2305843009213693951) : spec_l3Minus.f a b = some ((a - b) % 2305843009213693951) := by
  unfold spec_l3Minus.f
  rw [wu (by omega) (by omega), Int.tmod_eq_emod_of_nonneg (by omega)]
  rw [l2Add ha0 ha (pP _).1 (pP _).2 (by decide)]
  simp only [Option.bind_some]
  rw [Int.add_emod_emod, show a + (2305843009213693951 - b) = a - b + 2305843009213693951 by omega, Int.add_emod_right]

theorem right_P (x : Int) (hx0 : 0 ≤ x) (hx : x < 2305843009213693951) : spec_l3Right.f x = some (rhs x) := by
  unfold spec_l3Right.f
  have h1 := pP (x * x)
  rw [l2Times hx0 hx hx0 hx]; simp only [Option.bind_some]
  rw [l2Times h1.1 h1.2 hx0 hx]; simp only [Option.bind_some]
  rw [l2Times (by decide) (by decide) hx0 hx]; simp only [Option.bind_some]
  have h2 := pP (x * x % 2305843009213693951 * x)
  have h3 := pP (3 * x)
  rw [l3Minus_P _ _ h2.1 h2.2 h3.1 h3.2]; simp only [Option.bind_some]
  have h4 := pP (x * x % 2305843009213693951 * x % 2305843009213693951 - 3 * x % 2305843009213693951)
  rw [l2Add h4.1 h4.2 (by decide) (by decide) (by decide)]; simp only [Option.bind_some]
  have h5 := pP ((x * x % 2305843009213693951 * x % 2305843009213693951 - 3 * x % 2305843009213693951) % 2305843009213693951 + 111)
  congr 1
  obtain ⟨k1, e1⟩ := mod_out (x * x) 2305843009213693951
  obtain ⟨k2, e2⟩ := mod_out (x * x % 2305843009213693951 * x) 2305843009213693951
  obtain ⟨k3, e3⟩ := mod_out (3 * x) 2305843009213693951
  obtain ⟨k4, e4⟩ := mod_out (x * x % 2305843009213693951 * x % 2305843009213693951 - 3 * x % 2305843009213693951) 2305843009213693951
  obtain ⟨k5, e5⟩ := mod_out ((x * x % 2305843009213693951 * x % 2305843009213693951 - 3 * x % 2305843009213693951) % 2305843009213693951 + 111) 2305843009213693951
  refine is_mod (k := k1 * x + k2 - k3 + k4 + k5) h5.1 h5.2 ?_
  rw [e5, e4, e3, e2, e1]
  grind

/-- whether a point is of the curve -/
def oc (x y : Int) (inf : Bool) : Bool :=
  if inf = true then decide (x = 0 ∧ y = 0) else decide (x < 2305843009213693951 ∧ y < 2305843009213693951 ∧ y * y % 2305843009213693951 = rhs x)

theorem oc_t (x y : Int) : oc x y true = decide (x = 0 ∧ y = 0) := rfl
theorem oc_f (x y : Int) : oc x y false = decide (x < 2305843009213693951 ∧ y < 2305843009213693951 ∧ y * y % 2305843009213693951 = rhs x) := rfl
theorem beq_dec (a b : Int) : (a == b) = decide (a = b) := by by_cases h : a = b <;> simp [h]

theorem onCurve_spec (x y : Int) (inf : Bool) (hx0 : 0 ≤ x) (hy0 : 0 ≤ y) : spec_OnCurve.f x y inf = some (oc x y inf) := by
  unfold spec_OnCurve.f
  cases inf
  · rw [if_neg (show ¬ false = true by decide), oc_f]
    by_cases h1 : x < 2305843009213693951
    · rw [if_pos h1]
      by_cases h2 : y < 2305843009213693951
      · rw [if_pos h2, l2Times hy0 h2 hy0 h2]; simp only [Option.bind_some]
        rw [right_P x hx0 h1]; simp only [Option.bind_some]
        rw [beq_dec]; simp [h1, h2]
      · rw [if_neg h2]; simp [h2]
    · rw [if_neg h1]; simp [h1]
  · rw [if_pos rfl, oc_t]
    by_cases h1 : x = 0
    · rw [if_pos h1, beq_dec]; simp [h1]
    · rw [if_neg h1]; simp [h1]

theorem at_impl (x y : Int) (inf : Bool) (hx0 : 0 ≤ x) (hx : x < 18446744073709551616) (hy0 : 0 ≤ y) (hy : y < 18446744073709551616) {k : Nat} (hk : 11 ≤ k) :
    ∃ p : Int × Int × Bool, impl_at.f k x y inf = some (p.1, p.2.1, p.2.2, oc x y inf) ∧ (oc x y inf = true → p = (x, y, inf)) := by
  obtain ⟨k, rfl⟩ : ∃ j, k = j + 1 := ⟨k - 1, by omega⟩
  unfold impl_at.f
  cases inf
  · rw [if_neg (show ¬ false = true by decide), oc_f]
    by_cases h1 : x ≥ 2305843009213693951
    · rw [if_pos h1]
      simp only [impl_at.j0]
      rw [if_pos trivial]
      have h1' : ¬ x < 2305843009213693951 := by omega
      exact ⟨(0, 0, true), by simp [h1'], by simp [h1']⟩
    · rw [if_neg h1]
      simp only [impl_at.j0]
      by_cases h2 : y ≥ 2305843009213693951
      · rw [decide_eq_true h2, if_pos rfl]
        have h2' : ¬ y < 2305843009213693951 := by omega
        exact ⟨(0, 0, true), by simp [h2'], by simp [h2']⟩
      · rw [decide_eq_false h2, if_neg (by decide), prod_P y y hy0 hy hy0 hy (by omega)]; simp only [Option.bind_some]
        rw [curveAt_P x hx0 (by omega) (by omega)]; simp only [Option.bind_some]
        refine ⟨(x, y, false), ?_, fun _ => rfl⟩
        have h1' : x < 2305843009213693951 := by omega
        have h2' : y < 2305843009213693951 := by omega
        rw [beq_dec]; simp [h1', h2']
  · rw [if_pos rfl, oc_t]
    refine ⟨(x, y, true), ?_, fun _ => rfl⟩
    rw [beq_dec, beq_dec]
    simp

theorem onCurve_impl (x y : Int) (inf : Bool) (hx0 : 0 ≤ x) (hx : x < 18446744073709551616) (hy0 : 0 ≤ y) (hy : y < 18446744073709551616) {k : Nat} (hk : 11 ≤ k) : impl_OnCurve.f k x y inf = some (oc x y inf) := by
  unfold impl_OnCurve.f
  obtain ⟨p, hp, _⟩ := at_impl x y inf hx0 hx hy0 hy hk
  rw [hp]; rfl

end Go.Proofs.YtgdcafbdkidamaaGreatDoor.Pure
end
section
namespace Go.Proofs.YtgdcafbdkidamaaGreatDoor.C2
open Go Go.RowKit Go.Proofs.YtgdcafbdkidamaaGreatDoorW.PrintWords Go.Proofs.YtgdcafbdkidamaaGreatDoorW.PrintLast Go.Proofs.YtgdcafbdkidamaaGreatDoorW.PrintMore Go.Proofs.YtgdcafbdkidamaaGreatDoor.H0 Go.Proofs.YtgdcafbdkidamaaGreatDoor.H1 Go.Proofs.YtgdcafbdkidamaaGreatDoor.H2 Go.Proofs.YtgdcafbdkidamaaGreatDoor.H3 Go.Proofs.YtgdcafbdkidamaaGreatDoor.B
set_option linter.unusedVariables false
set_option linter.unusedSimpArgs false
def tm (x y : Int) : Int := x * y % 2305843009213693951
def ad (x y : Int) : Int := (x + y) % 2305843009213693951
def mi (x y : Int) : Int := (x - y) % 2305843009213693951
def In (x : Int) : Prop := 0 ≤ x ∧ x < 2305843009213693951
theorem in_tm (x y : Int) : In (tm x y) := by unfold In tm; omega
theorem in_ad (x y : Int) : In (ad x y) := by unfold In ad; omega
theorem in_mi (x y : Int) : In (mi x y) := by unfold In mi; omega

theorem times_c {x y : Int} (hx : In x) (hy : In y) (w : World) :
    Calls Tryz.prog 116 #[.agg #[.int .u64 x], .agg #[.int .u64 y]] w fun e w' => e = .returned (.agg #[.int .u64 (tm x y)]) ∧ Below w.heap.size w w' :=
  impl_num_impl_fieldP_times.calls 10 x y _ w (Pure.prod_P x y hx.1 (by have := hx.2; omega) hy.1 (by have := hy.2; omega) (by omega))
theorem plus_c {x y : Int} (hx : In x) (hy : In y) (w : World) :
    Calls Tryz.prog 144 #[.agg #[.int .u64 x], .agg #[.int .u64 y]] w fun e w' => e = .returned (.agg #[.int .u64 (ad x y)]) ∧ Below w.heap.size w w' :=
  impl_num_impl_fieldP_plus.calls x y _ w (Pure.plus_P x y hx.1 hx.2 hy.1 hy.2)
theorem minus_c {x y : Int} (hx : In x) (hy : In y) (w : World) :
    Calls Tryz.prog 139 #[.agg #[.int .u64 x], .agg #[.int .u64 y]] w fun e w' => e = .returned (.agg #[.int .u64 (mi x y)]) ∧ Below w.heap.size w w' :=
  impl_num_impl_fieldP_minus.calls x y _ w (Pure.minus_P x y hx.1 hx.2 hy.1 hy.2)

theorem lt_of_heap {w : World} {g : Nat} {o : Obj} (h : w.heap[g]? = some o) : g < w.heap.size := (Array.getElem?_eq_some_iff.1 h).1
theorem store_sp.grown_trans {W W1 W2 : World} {row : Option Nat} (h : W.grownBy W1 row) (k : W1.grownBy W2 row) : W.grownBy W2 row :=
  ⟨k.os.trans h.os, k.tape.trans h.tape, k.output.trans h.output, Nat.le_trans h.size k.size, fun j hj hn => (k.block j (Nat.lt_of_lt_of_le hj h.size) hn).trans (h.block j hj hn)⟩
end Go.Proofs.YtgdcafbdkidamaaGreatDoor.C2
end
section
namespace Go.Proofs.YtgdcafbdkidamaaGreatDoor.CD
open Go Go.RowKit Go.Proofs.YtgdcafbdkidamaaGreatDoor.C2 Go.Proofs.YtgdcafbdkidamaaGreatDoor.Ve Go.Proofs.YtgdcafbdkidamaaGreatDoor.VeT Go.Proofs.YtgdcafbdkidamaaGreatDoor.VeE
set_option linter.unusedVariables false
set_option linter.unusedSimpArgs false
def dblN (X Y Z : Int) : Int × Int × Int :=
  let yy := tm Y Y
  let zz := tm Z Z
  let v := tm (tm 4 X) yy
  let m := tm 3 (mi (tm X X) (tm zz zz))
  let x3 := mi (mi (tm m m) v) v
  (x3, mi (tm m (mi v x3)) (tm (tm 8 yy) yy), ad (tm Y Z) (tm Y Z))
def impl_spatial_double.f (X Y Z : Int) : Option (Int × Int × Int) := if 0 ≤ X ∧ X < 2305843009213693951 ∧ 0 ≤ Y ∧ Y < 2305843009213693951 ∧ 0 ≤ Z ∧ Z < 2305843009213693951 then some (if Y = 0 ∨ Z = 0 then (1, 1, 0) else dblN X Y Z) else none
set_option maxRecDepth 100000 in
set_option maxHeartbeats 4000000 in
theorem impl_spatial_double.calls (X Y Z q1 q2 q3 : Int) (w : World) (h : impl_spatial_double.f X Y Z = some (q1, q2, q3)) : Calls Tryz.prog 119 #[.agg #[.int .u64 X, .int .u64 Y, .int .u64 Z]] w fun e w' => e = .returned (.agg #[.int .u64 (q1), .int .u64 (q2), .int .u64 (q3)]) ∧ Below w.heap.size w w' := by
  unfold impl_spatial_double.f at h
  split at h
  case isFalse => cases h
  rename_i hh
  obtain ⟨a1, a2, b1, b2, c1, c2⟩ := hh
  have hX : In X := ⟨a1, a2⟩
  have hY : In Y := ⟨b1, b2⟩
  have hZ : In Z := ⟨c1, c2⟩
  clear a1 a2 b1 b2 c1 c2
  replace h := Option.some.inj h
  refine ve_fn (args := [.agg #[.int .u64 X, .int .u64 Y, .int .u64 Z]]) Tryz.func119 rfl Tryz.ntmps119 rfl (good (Γ := fun _ => True) (fun _ _ => trivial)) ?_
  by_cases hy : Y = 0
  · rw [if_pos (.inl hy)] at h
    obtain ⟨rfl, rfl, rfl⟩ : 1 = q1 ∧ 1 = q2 ∧ 0 = q3 := by simpa using h
    clear h
    repeat' (first | refine rbt ?_ | refine rbf ?_ | refine wn ?_ | refine wq ?_ | refine wc_plain ?_ | refine wc_draw ?_ | refine rZ ?_ | refine rD ?_ | refine ve8 ?_ | refine ve4 ?_ | refine ve3 ?_ | refine ve1 ?_ | refine ve2 ?_ | refine ve5 ?_ | refine ve6 ?_ | refine ve7 ?_ | refine ve9 ?_ | refine rA ?_ | refine rE ?_ | refine rC ?_ | refine rB ?_ | refine rG ?_ | refine rH ?_ | refine rI ?_ | refine rJ ?_ | refine rcb ?_ | refine wb ?_ | refine wk ?_ | refine we ?_ | exact wt | refine wr ?_ | refine rr1 ?_ | refine rr2 ?_ | exact fr | exact fe | refine wTs ?_ | refine wFs ?_ | refine rof ?_ | refine rof0 ?_)
  · by_cases hz : Z = 0
    · rw [if_pos (.inr hz)] at h
      obtain ⟨rfl, rfl, rfl⟩ : 1 = q1 ∧ 1 = q2 ∧ 0 = q3 := by simpa using h
      clear h
      repeat' (first | refine rbt ?_ | refine rbf ?_ | refine wn ?_ | refine wq ?_ | refine wc_plain ?_ | refine wc_draw ?_ | refine rZ ?_ | refine rD ?_ | refine ve8 ?_ | refine ve4 ?_ | refine ve3 ?_ | refine ve1 ?_ | refine ve2 ?_ | refine ve5 ?_ | refine ve6 ?_ | refine ve7 ?_ | refine ve9 ?_ | refine rA ?_ | refine rE ?_ | refine rC ?_ | refine rB ?_ | refine rG ?_ | refine rH ?_ | refine rI ?_ | refine rJ ?_ | refine rcb ?_ | refine wb ?_ | refine wk ?_ | refine we ?_ | exact wt | refine wr ?_ | refine rr1 ?_ | refine rr2 ?_ | exact fr | exact fe | refine wTs ?_ | refine wFs ?_ | refine rof ?_ | refine rof0 ?_)
    · rw [if_neg (by simp [hy, hz])] at h
      obtain ⟨h1_, h2_, h3_⟩ : (dblN X Y Z).1 = q1 ∧ (dblN X Y Z).2.1 = q2 ∧ (dblN X Y Z).2.2 = q3 := by rw [h]; exact ⟨rfl, rfl, rfl⟩
      clear h
      subst h1_ h2_ h3_
      unfold dblN
      dsimp only
      repeat' (first | refine rbt ?_ | refine rbf ?_ | refine wn ?_ | refine wq ?_ | refine wc_plain ?_ | refine wc_draw ?_ | refine rZ ?_ | refine rD ?_ | refine ve8 ?_ | refine ve4 ?_ | refine ve3 ?_ | refine ve1 ?_ | refine ve2 ?_ | refine ve5 ?_ | refine ve6 ?_ | refine ve7 ?_ | refine ve9 ?_ | refine rA ?_ | refine rE ?_ | refine rC ?_ | refine rB ?_ | refine rG ?_ | refine rH ?_ | refine rI ?_ | refine rJ ?_ | refine rcb ?_ | refine rcp (Pre := In _ ∧ In _) (fun hp_ w_ _ => times_c hp_.1 hp_.2 w_) ?_ (hpre := by refine ⟨?_, ?_⟩ <;> (first | assumption | exact in_tm _ _ | exact in_mi _ _ | exact in_ad _ _ | exact ⟨by decide, by decide⟩)) | refine rcp (Pre := In _ ∧ In _) (fun hp_ w_ _ => minus_c hp_.1 hp_.2 w_) ?_ (hpre := by refine ⟨?_, ?_⟩ <;> (first | assumption | exact in_tm _ _ | exact in_mi _ _ | exact in_ad _ _ | exact ⟨by decide, by decide⟩)) | refine rcp (Pre := In _ ∧ In _) (fun hp_ w_ _ => plus_c hp_.1 hp_.2 w_) ?_ (hpre := by refine ⟨?_, ?_⟩ <;> (first | assumption | exact in_tm _ _ | exact in_mi _ _ | exact in_ad _ _ | exact ⟨by decide, by decide⟩)) | refine wb ?_ | refine wk ?_ | refine we ?_ | exact wt | refine wr ?_ | refine rr1 ?_ | refine rr2 ?_ | exact fr | exact fe | refine wTs ?_ | refine wFs ?_ | refine rof ?_ | refine rof0 ?_)
def hN (X1 Z1 X2 Z2 : Int) : Int := mi (tm X2 (tm Z1 Z1)) (tm X1 (tm Z2 Z2))
def rN (Y1 Z1 Y2 Z2 : Int) : Int := mi (tm (tm Y2 (tm Z1 Z1)) Z1) (tm (tm Y1 (tm Z2 Z2)) Z2)
/-- The sum of two with unlike x, number by number. -/
def plsN (X1 Y1 Z1 X2 Y2 Z2 : Int) : Int × Int × Int :=
  let z1 := tm Z1 Z1
  let z2 := tm Z2 Z2
  let u1 := tm X1 z2
  let u2 := tm X2 z1
  let s1 := tm (tm Y1 z2) Z2
  let s2 := tm (tm Y2 z1) Z1
  let h := mi u2 u1
  let r := mi s2 s1
  let hh := tm h h
  let hhh := tm hh h
  let v := tm u1 hh
  let x3 := mi (mi (mi (tm r r) hhh) v) v
  (x3, mi (tm r (mi v x3)) (tm s1 hhh), tm (tm h Z1) Z2)
def impl_spatial_plus.f (X1 Y1 Z1 X2 Y2 Z2 : Int) : Option (Int × Int × Int) :=
  if 0 ≤ X1 ∧ X1 < 2305843009213693951 ∧ 0 ≤ Y1 ∧ Y1 < 2305843009213693951 ∧ 0 ≤ Z1 ∧ Z1 < 2305843009213693951 ∧ 0 ≤ X2 ∧ X2 < 2305843009213693951 ∧ 0 ≤ Y2 ∧ Y2 < 2305843009213693951 ∧ 0 ≤ Z2 ∧ Z2 < 2305843009213693951 then
    if Z1 = 0 then some (X2, Y2, Z2) else if Z2 = 0 then some (X1, Y1, Z1) else if hN X1 Z1 X2 Z2 = 0 then if rN Y1 Z1 Y2 Z2 = 0 then impl_spatial_double.f X1 Y1 Z1 else some (1, 1, 0) else some (plsN X1 Y1 Z1 X2 Y2 Z2)
  else none
set_option maxRecDepth 100000 in
set_option maxHeartbeats 4000000 in
theorem impl_spatial_plus.calls (X1 Y1 Z1 X2 Y2 Z2 q1 q2 q3 : Int) (w : World) (h : impl_spatial_plus.f X1 Y1 Z1 X2 Y2 Z2 = some (q1, q2, q3)) : Calls Tryz.prog 106 #[.agg #[.int .u64 X1, .int .u64 Y1, .int .u64 Z1], .agg #[.int .u64 X2, .int .u64 Y2, .int .u64 Z2]] w fun e w' => e = .returned (.agg #[.int .u64 (q1), .int .u64 (q2), .int .u64 (q3)]) ∧ Below w.heap.size w w' := by
  unfold impl_spatial_plus.f at h
  split at h
  case isFalse => cases h
  rename_i hh
  obtain ⟨a1, a2, b1, b2, c1, c2, d1, d2, e1, e2, f1, f2⟩ := hh
  have hX1 : In X1 := ⟨a1, a2⟩
  have hY1 : In Y1 := ⟨b1, b2⟩
  have hZ1 : In Z1 := ⟨c1, c2⟩
  have hX2 : In X2 := ⟨d1, d2⟩
  have hY2 : In Y2 := ⟨e1, e2⟩
  have hZ2 : In Z2 := ⟨f1, f2⟩
  clear a1 a2 b1 b2 c1 c2 d1 d2 e1 e2 f1 f2
  refine ve_fn (args := [.agg #[.int .u64 X1, .int .u64 Y1, .int .u64 Z1], .agg #[.int .u64 X2, .int .u64 Y2, .int .u64 Z2]]) Tryz.func106 rfl Tryz.ntmps106 rfl (good (Γ := fun _ => True) (fun _ _ => trivial)) ?_
  by_cases hz1 : Z1 = 0
  · rw [if_pos hz1] at h
    obtain ⟨rfl, rfl, rfl⟩ : X2 = q1 ∧ Y2 = q2 ∧ Z2 = q3 := by simpa using h
    repeat' (first | refine rbt ?_ | refine rbf ?_ | refine wn ?_ | refine wq ?_ | refine wc_plain ?_ | refine wc_draw ?_ | refine rZ ?_ | refine rD ?_ | refine ve8 ?_ | refine ve4 ?_ | refine ve3 ?_ | refine ve1 ?_ | refine ve2 ?_ | refine ve5 ?_ | refine ve6 ?_ | refine ve7 ?_ | refine ve9 ?_ | refine rA ?_ | refine rE ?_ | refine rC ?_ | refine rB ?_ | refine rG ?_ | refine rH ?_ | refine rI ?_ | refine rJ ?_ | refine rcb ?_ | refine wb ?_ | refine wk ?_ | refine we ?_ | exact wt | refine wr ?_ | refine rr1 ?_ | refine rr2 ?_ | exact fr | exact fe | refine wTs ?_ | refine wFs ?_ | refine rof ?_ | refine rof0 ?_)
  · rw [if_neg hz1] at h
    by_cases hz2 : Z2 = 0
    · rw [if_pos hz2] at h
      obtain ⟨rfl, rfl, rfl⟩ : X1 = q1 ∧ Y1 = q2 ∧ Z1 = q3 := by simpa using h
      repeat' (first | refine rbt ?_ | refine rbf ?_ | refine wn ?_ | refine wq ?_ | refine wc_plain ?_ | refine wc_draw ?_ | refine rZ ?_ | refine rD ?_ | refine ve8 ?_ | refine ve4 ?_ | refine ve3 ?_ | refine ve1 ?_ | refine ve2 ?_ | refine ve5 ?_ | refine ve6 ?_ | refine ve7 ?_ | refine ve9 ?_ | refine rA ?_ | refine rE ?_ | refine rC ?_ | refine rB ?_ | refine rG ?_ | refine rH ?_ | refine rI ?_ | refine rJ ?_ | refine rcb ?_ | refine wb ?_ | refine wk ?_ | refine we ?_ | exact wt | refine wr ?_ | refine rr1 ?_ | refine rr2 ?_ | exact fr | exact fe | refine wTs ?_ | refine wFs ?_ | refine rof ?_ | refine rof0 ?_)
    · rw [if_neg hz2] at h
      by_cases hh : hN X1 Z1 X2 Z2 = 0
      · rw [if_pos hh] at h
        unfold hN at hh
        by_cases hr : rN Y1 Z1 Y2 Z2 = 0
        · rw [if_pos hr] at h
          unfold rN at hr
          repeat' (first | refine rbt ?_ | refine rbf ?_ | refine wn ?_ | refine wq ?_ | refine wc_plain ?_ | refine wc_draw ?_ | refine rZ ?_ | refine rD ?_ | refine ve8 ?_ | refine ve4 ?_ | refine ve3 ?_ | refine ve1 ?_ | refine ve2 ?_ | refine ve5 ?_ | refine ve6 ?_ | refine ve7 ?_ | refine ve9 ?_ | refine rA ?_ | refine rE ?_ | refine rC ?_ | refine rB ?_ | refine rG ?_ | refine rH ?_ | refine rI ?_ | refine rJ ?_ | refine rcb ?_ | refine rcp (Pre := In _ ∧ In _) (fun hp_ w_ _ => times_c hp_.1 hp_.2 w_) ?_ (hpre := by refine ⟨?_, ?_⟩ <;> (first | assumption | exact in_tm _ _ | exact in_mi _ _ | exact in_ad _ _ | exact ⟨by decide, by decide⟩)) | refine rcp (Pre := In _ ∧ In _) (fun hp_ w_ _ => minus_c hp_.1 hp_.2 w_) ?_ (hpre := by refine ⟨?_, ?_⟩ <;> (first | assumption | exact in_tm _ _ | exact in_mi _ _ | exact in_ad _ _ | exact ⟨by decide, by decide⟩)) | refine rcp (Pre := In _ ∧ In _) (fun hp_ w_ _ => plus_c hp_.1 hp_.2 w_) ?_ (hpre := by refine ⟨?_, ?_⟩ <;> (first | assumption | exact in_tm _ _ | exact in_mi _ _ | exact in_ad _ _ | exact ⟨by decide, by decide⟩)) | refine rcp (Pre := impl_spatial_double.f _ _ _ = some (_, _, _)) (fun hp_ w_ _ => impl_spatial_double.calls _ _ _ _ _ _ w_ hp_) ?_ | refine wb ?_ | refine wk ?_ | refine we ?_ | exact wt | refine wr ?_ | refine rr1 ?_ | refine rr2 ?_ | exact fr | exact fe | refine wTs ?_ | refine wFs ?_ | refine rof ?_ | refine rof0 ?_)
        · rw [if_neg hr] at h
          unfold rN at hr
          obtain ⟨rfl, rfl, rfl⟩ : 1 = q1 ∧ 1 = q2 ∧ 0 = q3 := by simpa using h
          repeat' (first | refine rbt ?_ | refine rbf ?_ | refine wn ?_ | refine wq ?_ | refine wc_plain ?_ | refine wc_draw ?_ | refine rZ ?_ | refine rD ?_ | refine ve8 ?_ | refine ve4 ?_ | refine ve3 ?_ | refine ve1 ?_ | refine ve2 ?_ | refine ve5 ?_ | refine ve6 ?_ | refine ve7 ?_ | refine ve9 ?_ | refine rA ?_ | refine rE ?_ | refine rC ?_ | refine rB ?_ | refine rG ?_ | refine rH ?_ | refine rI ?_ | refine rJ ?_ | refine rcb ?_ | refine rcp (Pre := In _ ∧ In _) (fun hp_ w_ _ => times_c hp_.1 hp_.2 w_) ?_ (hpre := by refine ⟨?_, ?_⟩ <;> (first | assumption | exact in_tm _ _ | exact in_mi _ _ | exact in_ad _ _ | exact ⟨by decide, by decide⟩)) | refine rcp (Pre := In _ ∧ In _) (fun hp_ w_ _ => minus_c hp_.1 hp_.2 w_) ?_ (hpre := by refine ⟨?_, ?_⟩ <;> (first | assumption | exact in_tm _ _ | exact in_mi _ _ | exact in_ad _ _ | exact ⟨by decide, by decide⟩)) | refine rcp (Pre := In _ ∧ In _) (fun hp_ w_ _ => plus_c hp_.1 hp_.2 w_) ?_ (hpre := by refine ⟨?_, ?_⟩ <;> (first | assumption | exact in_tm _ _ | exact in_mi _ _ | exact in_ad _ _ | exact ⟨by decide, by decide⟩)) | refine wb ?_ | refine wk ?_ | refine we ?_ | exact wt | refine wr ?_ | refine rr1 ?_ | refine rr2 ?_ | exact fr | exact fe | refine wTs ?_ | refine wFs ?_ | refine rof ?_ | refine rof0 ?_)
      · rw [if_neg hh] at h
        unfold hN at hh
        replace h := Option.some.inj h
        obtain ⟨h1_, h2_, h3_⟩ : (plsN X1 Y1 Z1 X2 Y2 Z2).1 = q1 ∧ (plsN X1 Y1 Z1 X2 Y2 Z2).2.1 = q2 ∧ (plsN X1 Y1 Z1 X2 Y2 Z2).2.2 = q3 := by rw [h]; exact ⟨rfl, rfl, rfl⟩
        clear h
        subst h1_ h2_ h3_
        unfold plsN
        dsimp only
        repeat' (first | refine rbt ?_ | refine rbf ?_ | refine wn ?_ | refine wq ?_ | refine wc_plain ?_ | refine wc_draw ?_ | refine rZ ?_ | refine rD ?_ | refine ve8 ?_ | refine ve4 ?_ | refine ve3 ?_ | refine ve1 ?_ | refine ve2 ?_ | refine ve5 ?_ | refine ve6 ?_ | refine ve7 ?_ | refine ve9 ?_ | refine rA ?_ | refine rE ?_ | refine rC ?_ | refine rB ?_ | refine rG ?_ | refine rH ?_ | refine rI ?_ | refine rJ ?_ | refine rcb ?_ | refine rcp (Pre := In _ ∧ In _) (fun hp_ w_ _ => times_c hp_.1 hp_.2 w_) ?_ (hpre := by refine ⟨?_, ?_⟩ <;> (first | assumption | exact in_tm _ _ | exact in_mi _ _ | exact in_ad _ _ | exact ⟨by decide, by decide⟩)) | refine rcp (Pre := In _ ∧ In _) (fun hp_ w_ _ => minus_c hp_.1 hp_.2 w_) ?_ (hpre := by refine ⟨?_, ?_⟩ <;> (first | assumption | exact in_tm _ _ | exact in_mi _ _ | exact in_ad _ _ | exact ⟨by decide, by decide⟩)) | refine rcp (Pre := In _ ∧ In _) (fun hp_ w_ _ => plus_c hp_.1 hp_.2 w_) ?_ (hpre := by refine ⟨?_, ?_⟩ <;> (first | assumption | exact in_tm _ _ | exact in_mi _ _ | exact in_ad _ _ | exact ⟨by decide, by decide⟩)) | refine wb ?_ | refine wk ?_ | refine we ?_ | exact wt | refine wr ?_ | refine rr1 ?_ | refine rr2 ?_ | exact fr | exact fe | refine wTs ?_ | refine wFs ?_ | refine rof ?_ | refine rof0 ?_)
end Go.Proofs.YtgdcafbdkidamaaGreatDoor.CD
end
section
namespace Go.Proofs.YtgdcafbdkidamaaGreatDoor.V2
open Go Go.Proofs.YtgdcafbdkidamaaGreatDoor.C2 Go.Proofs.YtgdcafbdkidamaaGreatDoor.CD Vi
set_option linter.unusedSimpArgs false
theorem tm_vi (a b : Fp) : tm (vi a) (vi b) = vi (a * b) := vi_mul a b
theorem ad_vi (a b : Fp) : ad (vi a) (vi b) = vi (a + b) := vi_add a b
theorem mi_vi (a b : Fp) : mi (vi a) (vi b) = vi (a - b) := vi_sub a b
theorem in_vi (a : Fp) : 0 ≤ vi a ∧ vi a < 2305843009213693951 := vi_range a
theorem n1 : (1 : Int) = vi 1 := rfl
theorem n0 : (0 : Int) = vi 0 := rfl
theorem n3 : (3 : Int) = vi 3 := rfl
theorem n4 : (4 : Int) = vi 4 := rfl
theorem n8 : (8 : Int) = vi 8 := rfl

def v3 (s : Sp) : Int × Int × Int := (vi s.1, vi s.2.1, vi s.2.2)

theorem dbl_vi (s : Sp) : impl_spatial_double.f (vi s.1) (vi s.2.1) (vi s.2.2) = some (v3 (dbl s)) := by
  unfold impl_spatial_double.f
  rw [if_pos ⟨(in_vi _).1, (in_vi _).2, (in_vi _).1, (in_vi _).2, (in_vi _).1, (in_vi _).2⟩]
  congr 1
  unfold dbl
  simp only [vi_zero]
  split
  · rfl
  · unfold dblN v3
    rw [n3, n4, n8]
    simp only [tm_vi, ad_vi, mi_vi]

theorem pls_vi (s t : Sp) : impl_spatial_plus.f (vi s.1) (vi s.2.1) (vi s.2.2) (vi t.1) (vi t.2.1) (vi t.2.2) = some (v3 (pls s t)) := by
  unfold impl_spatial_plus.f
  rw [if_pos ⟨(in_vi _).1, (in_vi _).2, (in_vi _).1, (in_vi _).2, (in_vi _).1, (in_vi _).2, (in_vi _).1, (in_vi _).2, (in_vi _).1, (in_vi _).2, (in_vi _).1, (in_vi _).2⟩]
  unfold pls hN rN
  simp only [tm_vi, ad_vi, mi_vi, vi_zero]
  split
  · rfl
  · split
    · rfl
    · split
      · split
        · exact dbl_vi s
        · rfl
      · congr 1
        unfold plsN v3
        simp only [tm_vi, ad_vi, mi_vi]

end Go.Proofs.YtgdcafbdkidamaaGreatDoor.V2
end
section
namespace Go.Proofs.YtgdcafbdkidamaaGreatDoor.C
open Go.Proofs.YtgdcafbdkidamaaGreatDoor.Sq Go.RowKit Go.Proofs.YtgdcafbdkidamaaGreatDoor.B Go.Proofs.YtgdcafbdkidamaaGreatDoor.H0 Go.Proofs.YtgdcafbdkidamaaGreatDoor.G1 Go.Proofs.YtgdcafbdkidamaaGreatDoor.F0 Go.Proofs.YtgdcafbdkidamaaGreatDoor.H1 Go.Proofs.YtgdcafbdkidamaaGreatDoor.H2 Go.Proofs.YtgdcafbdkidamaaGreatDoor.H3 Go.Proofs.YtgdcafbdkidamaaGreatDoorW.PrintWords Go.Proofs.YtgdcafbdkidamaaGreatDoorW.PrintLast Go.Proofs.YtgdcafbdkidamaaGreatDoorW.PrintMore Go.Proofs.YtgdcafbdkidamaaGreatDoor.Ve Go.Proofs.YtgdcafbdkidamaaGreatDoor.VeT Go.Proofs.YtgdcafbdkidamaaGreatDoor.VeE
attribute [local go_sem high] field_num_fieldP   -- for this text's walks alone
attribute [local go_sem] max2_int min2_int max_two min_two max_three min_three max_four min_four   -- for this text's walks alone
set_option linter.unusedVariables false
set_option linter.unusedSimpArgs false
def impl_spatial_point.f (k : Nat) (a0_0 : Int) (a0_1 : Int) (a0_2 : Int) : Option (Int × Int × Bool) := if a0_2 = 0 then (some (0, 0, true)) else ((impl_num_impl_fieldP_inverse.f a0_2).bind fun t257 => ((impl_num_impl_fieldP_times.f k t257 t257).bind fun t259 => ((impl_num_impl_fieldP_times.f k a0_0 t259).bind fun t261 => ((impl_num_impl_fieldP_times.f k a0_1 t259).bind fun t262 => ((impl_num_impl_fieldP_times.f k t262 t257).bind fun t263 => (some (t261, t263, false)))))))
set_option maxRecDepth 100000 in
set_option maxHeartbeats 4000000 in
theorem impl_spatial_point.calls (k : Nat) (a0_0 : Int) (a0_1 : Int) (a0_2 : Int) (r1 : Int) (r2 : Int) (r3 : Bool) (w : World) (hG : G w) (h : impl_spatial_point.f k a0_0 a0_1 a0_2 = some (r1, r2, r3)) :
    Calls Tryz.prog 70 #[.agg #[.int .u64 a0_0, .int .u64 a0_1, .int .u64 a0_2]] w fun e w' => e = .returned (.agg #[.int .u64 r1, .int .u64 r2, .bool r3]) ∧ Below w.heap.size w w' := by
  unfold impl_spatial_point.f at h
  repeat' (first | (rw [Option.bind_eq_some_iff] at h; obtain ⟨_, _, h⟩ := h) | (split at h) | (cases h <;> fail) | (replace h := Option.some.inj h) | (have h3_ := (Prod.mk.inj h).1; replace h := (Prod.mk.inj h).2; subst h3_) | (subst h))
  all_goals try contradiction
  all_goals refine ve_fn (args := [.agg #[.int .u64 a0_0, .int .u64 a0_1, .int .u64 a0_2]]) Tryz.func70 rfl Tryz.ntmps70 rfl (good (Γ := fun W => G W) (fun W hb => G_below hb hG)) ?_
  all_goals repeat' (first | refine rbt ?_ | refine rbf ?_ | refine wn ?_ | refine wq ?_ | refine wc_plain ?_ | refine wc_draw ?_ | refine rZ ?_ | refine rD ?_ | refine ve8 ?_ | refine ve4 ?_ | refine ve3 ?_ | refine ve1 ?_ | refine ve2 ?_ | refine ve5 ?_ | refine ve6 ?_ | refine ve7 ?_ | refine ve9 ?_ | refine rA ?_ | refine rE ?_ | refine rC ?_ | refine rB ?_ | refine rG ?_ | refine rH ?_ | refine rI ?_ | refine rJ ?_ | refine rcb ?_ | refine rcp (Pre := impl_num_impl_fieldP_inverse.f _ = some _) (fun hp_ w_ hΓ => impl_num_impl_fieldP_inverse.calls _ _ w_ hp_) ?_ | refine rcp (Pre := impl_num_impl_fieldP_times.f _ _ _ = some _) (fun hp_ w_ hΓ => impl_num_impl_fieldP_times.calls _ _ _ _ w_ hp_) ?_ | refine rel (fun w_ hΓ => ld_zero (by first  |  exact hΓ.z  |  exact hΓ.1.z  |  exact hΓ.1  |  exact hΓ)) ?_  |  refine req (fun w_ => eq_pt w_) ?_  |  refine req (fun w_ => ne_pt w_) ?_  |  refine req (fun w_ => eq_num w_) ?_  |  refine rsh ?_  |  refine rsl_ ?_  |  refine rslh ?_ | refine wb ?_ | refine wk ?_ | refine we ?_ | exact wt | refine wr ?_ | refine rr1 ?_ | refine rr2 ?_ | exact fr | exact fe | refine wTs ?_ | refine wFs ?_ | refine rof ?_ | refine rof0 ?_)

end Go.Proofs.YtgdcafbdkidamaaGreatDoor.C
end
section
namespace Go.Proofs.YtgdcafbdkidamaaGreatDoor.H4
open Go.RowKit Go.Shelf Go.Proofs.YtgdcafbdkidamaaGreatDoorW.PrintWords Go.Proofs.YtgdcafbdkidamaaGreatDoorW.PrintLast Go.Proofs.YtgdcafbdkidamaaGreatDoorW.PrintMore Go.Proofs.YtgdcafbdkidamaaGreatDoor.H0 Go.Proofs.YtgdcafbdkidamaaGreatDoor.H1 Go.Proofs.YtgdcafbdkidamaaGreatDoor.H2 Go.Proofs.YtgdcafbdkidamaaGreatDoor.H3 Go.Proofs.YtgdcafbdkidamaaGreatDoor.C2 Go.Proofs.YtgdcafbdkidamaaGreatDoor.CD Go.Proofs.YtgdcafbdkidamaaGreatDoor.V2 Go.Proofs.YtgdcafbdkidamaaGreatDoor.G1 Go.Proofs.YtgdcafbdkidamaaGreatDoor.B Vi
attribute [local go_sem] Oper.semAt_some
set_option linter.unusedVariables false
set_option linter.unusedSimpArgs false
theorem new2_0 (w : World) (o1 o2 : Obj) : ((w.alloc o1).alloc o2).heap[w.heap.size]? = some o1 := by rw [heap_alloc_old _ _ (by simp), heap_alloc_new]
theorem new2_1 (w : World) (o1 o2 : Obj) : ((w.alloc o1).alloc o2).heap[w.heap.size + 1]? = some o2 := by
  have := heap_alloc_new (w.alloc o1) o2; rwa [World.size_alloc] at this
theorem newB2 (w : World) (o1 o2 : Obj) : Below w.heap.size w ((w.alloc o1).alloc o2) := ((Below.refl _ w).alloc (Nat.le_refl _) _).alloc (by simp) _

/-- A box of three numbers. -/
def B3 (W : World) (B : Nat) (t : TypeId) (s : Int × Int × Int) : Prop := W.heap[B]? = some (.cells #[.int .u64 s.1, .int .u64 s.2.1, .int .u64 s.2.2] t (0, 0))
theorem B3.lt {W : World} {B : Nat} {t : TypeId} {s : Int × Int × Int} (h : B3 W B t s) : B < W.heap.size := lt_of_heap h
theorem B3.c0 {W : World} {B : Nat} {t : TypeId} {s : Int × Int × Int} (h : B3 W B t s) : W.cell? ⟨B, 0, none⟩ = some (.int .u64 s.1) := (cell_of_row W B 0 _ _ _ h).trans rfl
theorem B3.c1 {W : World} {B : Nat} {t : TypeId} {s : Int × Int × Int} (h : B3 W B t s) : W.cell? ⟨B, 1, none⟩ = some (.int .u64 s.2.1) := (cell_of_row W B 1 _ _ _ h).trans rfl
theorem B3.c2 {W : World} {B : Nat} {t : TypeId} {s : Int × Int × Int} (h : B3 W B t s) : W.cell? ⟨B, 2, none⟩ = some (.int .u64 s.2.2) := (cell_of_row W B 2 _ _ _ h).trans rfl
theorem B3.fr {W : World} {B : Nat} {t : TypeId} {s : Int × Int × Int} (h : B3 W B t s) (i : Nat) : W.frozen? ⟨B, i, none⟩ = false := frozen_of_row W B i _ _ h
theorem B3.kept {W W' : World} {row : Option Nat} {B : Nat} {t : TypeId} {s : Int × Int × Int} (h : B3 W B t s) (hg : W.grownBy W' row) (hne : some B ≠ row) : B3 W' B t s := (hg.block B h.lt hne).trans h
theorem B3.below {W W' : World} {B : Nat} {t : TypeId} {s : Int × Int × Int} (h : B3 W B t s) (hb : Below W.heap.size W W') : B3 W' B t s := (hb.block B h.lt).trans h
theorem B3.own {β : Type} (B : Nat) (t : TypeId) (f : β → Int × Int × Int) : Own (fun s W => B3 W B t (f s)) := fun s X Y row hs hg hrow =>
  hs.kept hg (fun e' => by obtain ⟨o, ho, hc⟩ := hrow B e'.symm; rw [show X.heap[B]? = _ from hs] at ho; cases ho; cases hc)
theorem B3.set {W : World} {B : Nat} {t : TypeId} {s : Int × Int × Int} (h : B3 W B t s) (r : Int × Int × Int) :
    B3 (((W.setCell ⟨B, 0, none⟩ (.int .u64 r.1)).setCell ⟨B, 1, none⟩ (.int .u64 r.2.1)).setCell ⟨B, 2, none⟩ (.int .u64 r.2.2)) B t r := by
  have h0 := heap_setCell_same W B 0 _ t (.int .u64 r.1) h
  have h1 := heap_setCell_same _ B 1 _ t (.int .u64 r.2.1) h0
  have h2 := heap_setCell_same _ B 2 _ t (.int .u64 r.2.2) h1
  simpa [B3] using h2
theorem gb_set1 {W W' : World} {B : Nat} (h : W.grownBy W' (some B)) (i : Nat) (v : Value) : W.grownBy (W'.setCell ⟨B, i, none⟩ v) (some B) :=
  store_sp.grown_trans h ⟨rfl, rfl, rfl, by simp [World.setCell], fun k _ hk => Below.heap_setCell _ _ _ _ (fun e => hk (by simp [e]))⟩
theorem gb_set3 {W W' : World} {B : Nat} (h : W.grownBy W' (some B)) (a b c : Value) :
    W.grownBy (((W'.setCell ⟨B, 0, none⟩ a).setCell ⟨B, 1, none⟩ b).setCell ⟨B, 2, none⟩ c) (some B) := gb_set1 (gb_set1 (gb_set1 h 0 a) 1 b) 2 c
theorem keeps_of_gb3 {W W' : World} {B : Nat} {t : TypeId} {s : Int × Int × Int} (h : B3 W B t s) (hg : W.grownBy W' (some B)) : KeepsOthers W W' :=
  KeepsOthers.of_grownBy hg (fun j o e ho => by cases e; rw [show W.heap[B]? = _ from h] at ho; cases ho; rfl)

/-- one bit's step -/
def sst (s r : Sp) (b : Bool) : Sp := if b then pls (dbl r) s else dbl r
def sfold (s : Sp) (bs : List Bool) : Sp := bs.foldl (sst s) sp0
theorem sfold_snoc (s : Sp) (bs : List Bool) (b : Bool) : sfold s (bs ++ [b]) = sst s (sfold s bs) b := by simp [sfold]

/-- the element of a number -/
def el (x : Int) : Fp := Fin.ofNat _ x.toNat
theorem vi_el {x : Int} (h0 : 0 ≤ x) (h : x < 2305843009213693951) : vi (el x) = x := by
  unfold vi el; rw [Fin.val_ofNat]; omega

def impl_spatial_times.f (X Y Z k : Int) : Option (Int × Int × Int) :=
  if 0 ≤ X ∧ X < 2305843009213693951 ∧ 0 ≤ Y ∧ Y < 2305843009213693951 ∧ 0 ≤ Z ∧ Z < 2305843009213693951 ∧ 0 ≤ k ∧ k < 18446744073709551616 then some (v3 (sfold (el X, el Y, el Z) (bitsOf k))) else none

theorem dbl_calls (s : Sp) (w : World) : Calls Tryz.prog 119 #[.agg #[.int .u64 (v3 s).1, .int .u64 (v3 s).2.1, .int .u64 (v3 s).2.2]] w fun e w' =>
    e = .returned (.agg #[.int .u64 (v3 (dbl s)).1, .int .u64 (v3 (dbl s)).2.1, .int .u64 (v3 (dbl s)).2.2]) ∧ Below w.heap.size w w' :=
  impl_spatial_double.calls _ _ _ _ _ _ w (dbl_vi s)
theorem pls_calls (s t : Sp) (w : World) : Calls Tryz.prog 106 #[.agg #[.int .u64 (v3 s).1, .int .u64 (v3 s).2.1, .int .u64 (v3 s).2.2], .agg #[.int .u64 (v3 t).1, .int .u64 (v3 t).2.1, .int .u64 (v3 t).2.2]] w fun e w' =>
    e = .returned (.agg #[.int .u64 (v3 (pls s t)).1, .int .u64 (v3 (pls s t)).2.1, .int .u64 (v3 (pls s t)).2.2]) ∧ Below w.heap.size w w' :=
  impl_spatial_plus.calls _ _ _ _ _ _ _ _ _ w (pls_vi s t)
theorem zero_calls (w : World) : Calls Tryz.prog 68 #[.agg #[.int .u64 0, .int .u64 0, .bool true]] w fun e w' =>
    e = .returned (.agg #[.int .u64 1, .int .u64 1, .int .u64 0]) ∧ Below w.heap.size w w' :=
  impl_onCurve_spatial.calls 0 0 true 1 1 0 w rfl

set_option maxRecDepth 100000 in
set_option maxHeartbeats 8000000 in
theorem times_at (s : Sp) (e : Int) (he0 : 0 ≤ e) (he1 : e < 18446744073709551616) (w : World) (hG : G w) :
    Calls Tryz.prog 69 #[.agg #[.int .u64 (v3 s).1, .int .u64 (v3 s).2.1, .int .u64 (v3 s).2.2], .int .u64 e] w fun en w' =>
      en = .returned (.agg #[.int .u64 (v3 (sfold s (bitsOf e))).1, .int .u64 (v3 (sfold s (bitsOf e))).2.1, .int .u64 (v3 (sfold s (bitsOf e))).2.2]) ∧ Below w.heap.size w w' := by
  obtain ⟨tG, frG, hz⟩ := hG
  have hzl := lt_of_heap hz
  refine (callsIn_wide (n := 5)).1 ?_
  refine callsIn_of_wp_marks Tryz.func69 rfl trivial ?_ rfl
  simp only [Tryz.ntmps69, List.size_toArray, List.length_cons, List.length_nil, Nat.reduceAdd, Nat.reduceSub, Array.replicate_succ, Array.replicate_zero, List.push_toArray, List.append_toArray, List.nil_append, List.cons_append]
  have hA0 : B3 ((w.alloc (.cells #[.int .u64 (v3 s).1, .int .u64 (v3 s).2.1, .int .u64 (v3 s).2.2] 103)).alloc (.cells #[.int .u64 0, .int .u64 0, .int .u64 0] 103)) w.heap.size 103 (v3 s) := new2_0 _ _ _
  have hR0 : B3 ((w.alloc (.cells #[.int .u64 (v3 s).1, .int .u64 (v3 s).2.1, .int .u64 (v3 s).2.2] 103)).alloc (.cells #[.int .u64 0, .int .u64 0, .int .u64 0] 103)) (w.heap.size + 1) 103 (0, 0, 0) := new2_1 _ _ _
  have hB0 := newB2 w (.cells #[.int .u64 (v3 s).1, .int .u64 (v3 s).2.1, .int .u64 (v3 s).2.2] 103) (.cells #[.int .u64 0, .int .u64 0, .int .u64 0] 103)
  have hz0 := (hB0.block _ hzl).trans hz
  have z0 := (cell_of_row _ 0 0 _ _ _ hz0).trans (show _ = some (Value.int .u64 0) from rfl)
  have z1 := (cell_of_row _ 0 1 _ _ _ hz0).trans (show _ = some (Value.int .u64 0) from rfl)
  have z2 := (cell_of_row _ 0 2 _ _ _ hz0).trans (show _ = some (Value.bool true) from rfl)
  replace hA0 := Aside0.mk hA0
  replace hR0 := Aside0.mk hR0
  replace hB0 := Aside0.mk hB0
  clear hz0 hz hzl
  generalize hv : v3 s = vs at *
  obtain ⟨v1, v2, v4⟩ := vs
  replace hv := Aside0.mk hv
  gi_wp2_with (first | (refine ⟨trivial, ?_⟩; gi_at_call 68; refine (callsIn_wide.2 (zero_calls _)).mono ?_; rintro en w1 ⟨rfl, hb1⟩; replace hb1 := Aside0.mk hb1) | (refine ⟨trivial, ?_⟩; gi_at_call 118; refine (callsIn_wide.2 (highBits_any e _)).mono ?_; rintro en w' ⟨rfl, rfl⟩))
  replace hb1 := hb1.out
  replace hA0 := hA0.out.below hb1
  replace hR0 := hR0.out.below hb1
  have hs1 : w.heap.size + 2 ≤ w1.heap.size := by have := hb1.size; simp only [World.size_alloc] at this; omega
  have hB1 : Below w.heap.size w w1 := hB0.out.trans (hb1.mono (by simp only [World.size_alloc]; omega))
  have hb2 : B3 (w1.alloc (.cells #[.int .u64 1, .int .u64 1, .int .u64 0] 103)) w1.heap.size 103 (1, 1, 0) := heap_alloc_new _ _
  have hbe : Boxed ((w1.alloc (.cells #[.int .u64 1, .int .u64 1, .int .u64 0] 103)).alloc (.cells #[.int .u64 e] 22)) (w1.heap.size + 1) 22 (.int .u64 e) := by
    have := Boxed.new (w1.alloc (.cells #[.int .u64 1, .int .u64 1, .int .u64 0] 103)) 22 (.int .u64 e)
    rwa [World.size_alloc] at this
  have ka : ∀ (W : World) (o : Obj), W.grownBy (W.alloc o) none := fun W o => World.grownBy_alloc W o none
  have hA1 := (hA0.kept (ka _ (.cells #[.int .u64 1, .int .u64 1, .int .u64 0] 103)) (by simp)).kept (ka _ (.cells #[.int .u64 e] 22)) (by simp)
  have hR1 := (hR0.kept (ka _ (.cells #[.int .u64 1, .int .u64 1, .int .u64 0] 103)) (by simp)).kept (ka _ (.cells #[.int .u64 e] 22)) (by simp)
  have hO1 := hb2.kept (ka _ (.cells #[.int .u64 e] 22)) (by simp)
  have hBB : Below w.heap.size w ((w1.alloc (.cells #[.int .u64 1, .int .u64 1, .int .u64 0] 103)).alloc (.cells #[.int .u64 e] 22)) :=
    (hB1.alloc (by omega) _).alloc (by simp; omega) _
  have hsz : ((w1.alloc (.cells #[.int .u64 1, .int .u64 1, .int .u64 0] 103)).alloc (.cells #[.int .u64 e] 22)).heap.size = w1.heap.size + 1 + 1 := by simp only [World.size_alloc]
  clear ka hb2 hA0 hR0 hB0 hb1 z0 z1 z2
  generalize ((w1.alloc (.cells #[.int .u64 1, .int .u64 1, .int .u64 0] 103)).alloc (.cells #[.int .u64 e] 22)) = W1 at *
  generalize w1.heap.size = s1 at *
  refine wpIn_rangeFunc_ownF rfl (by omega) (gf := 145) (lb := #[.pointer (some ⟨s1 + 1, 0, none⟩)]) rfl trivial (enters_of Tryz.func145 (by kernel_rfl) rfl)
    (bits_stops (s1 + 1) 22 e he0 (by omega) _ hbe) keepBox_t (keepBox_b (by simp [hsz])) (Below.refl _ _) (fun _ => rfl)
    (fun pre W => (B3 W w.heap.size 103 (v1, v2, v4) ∧ B3 W (w.heap.size + 1) 103 (0, 0, 0) ∧ B3 W s1 103 (v3 (sfold s pre)) ∧ Boxed W (s1 + 1) 22 (.int .u64 e)) ∧ Below w.heap.size w W)
    (fun _ _ _ => False)
    (OwnFrom.and (Own.from (fun p A B row hs hg hr => ⟨B3.own _ _ (fun _ : List Bool => (v1, v2, v4)) p A B row hs.1 hg hr, B3.own _ _ (fun _ : List Bool => ((0 : Int), (0 : Int), (0 : Int))) p A B row hs.2.1 hg hr, B3.own _ _ (fun p => v3 (sfold s p)) p A B row hs.2.2.1 hg hr, boxed_own _ _ (fun _ : List Bool => Value.int .u64 e) p A B row hs.2.2.2 hg hr⟩) _) (ownFrom_below (Nat.le_refl _) (by simp [hsz]; omega)))
    (fun _ _ _ _ _ hs _ _ => hs)
    ⟨⟨hA1, hR1, hO1, hbe⟩, hBB⟩
    (fun x => { tmps := #[.agg #[.int .u64 v1, .int .u64 v2, .int .u64 v4], .int .u64 e, .pointer (some ⟨w.heap.size, 0, none⟩), undef, .pointer (some ⟨w.heap.size + 1, 0, none⟩), .pointer (some ⟨s1, 0, none⟩), .bool x, .agg #[.int .u64 0, .int .u64 0, .bool true], .agg #[.int .u64 0, .int .u64 0, .bool true], .agg #[.int .u64 1, .int .u64 1, .int .u64 0], .int .u64 e, .func (.func 145) #[] #[.pointer (some ⟨s1 + 1, 0, none⟩)], .bool x, undef, undef, undef, undef, undef, undef, undef], defers := [] }) ?assign ?body ?done ?stop
  case assign =>
    intro l x W K hK
    gi_wp2
    exact hK
  case body =>
    rintro l pre x W ⟨⟨hA, hR, hO, hE⟩, hB⟩ _
    have hWs := hE.lt
    have hs := sfold_snoc s pre x
    have dc := fun W => dbl_calls (sfold s pre) W
    have pc := fun W => pls_calls (dbl (sfold s pre)) s W
    have kO := Aside0.mk hO
    have hv' := hv.out
    rw [hv'] at pc
    generalize hr : v3 (sfold s pre) = r at *
    generalize hd : v3 (dbl (sfold s pre)) = d at *
    obtain ⟨r1, r2, r4⟩ := r
    obtain ⟨d1, d2, d4⟩ := d
    have a0 := hA.c0
    have a1 := hA.c1
    have a2 := hA.c2
    have o0 := hO.c0
    have o1 := hO.c1
    have o2 := hO.c2
    have f0 := hO.fr 0
    have f1 := hO.fr 1
    have f2 := hO.fr 2
    replace hA := Aside0.mk hA
    replace hR := Aside0.mk hR
    replace hO := Aside0.mk hO
    replace hE := Aside0.mk hE
    replace hB := Aside0.mk hB
    replace hr := Aside0.mk hr
    replace hd := Aside0.mk hd
    replace hs := Aside0.mk hs
    clear hv'
    cases x with
    | false =>
      gi_wp2_with (refine ⟨trivial, ?_⟩; gi_at_call 119; refine (CallsIn.inRound l (callsIn_wide.2 (dc _))).mono ?_; rintro en w' ⟨rfl, hn1⟩; have hO' := hO.out.below hn1; have p0 := hO'.c0; have p1 := hO'.c1; have p2 := hO'.c2; have q0 := hO'.fr 0; have q1 := hO'.fr 1; have q2 := hO'.fr 2; replace hO' := Aside0.mk hO'; replace hn1 := Aside0.mk hn1)
      have hg := gb_set3 (gb_below (gb_refl W (some s1)) hn1.out) (.int .u64 d1) (.int .u64 d2) (.int .u64 d4)
      refine ⟨keeps_of_gb3 hO.out hg, keepBox_of_gb hg hWs (by omega), ⟨hA.out.kept hg (by simp; omega), hR.out.kept hg (by simp; omega), ?_, hE.out.kept hg (by simp)⟩, below_of_gb hB.out hg hB.out.size (by omega)⟩
      rw [hs.out]
      show B3 _ s1 _ (v3 (dbl (sfold s pre)))
      rw [hd.out]
      exact hO'.out.set (d1, d2, d4)
    | true =>
      gi_wp2_with (refine ⟨trivial, ?_⟩; first | (gi_at_call 119; refine (CallsIn.inRound l (callsIn_wide.2 (dc _))).mono ?_; rintro en w' ⟨rfl, hn1⟩; have hO' := hO.out.below hn1; have p0 := hO'.c0; have p1 := hO'.c1; have p2 := hO'.c2; have q0 := hO'.fr 0; have q1 := hO'.fr 1; have q2 := hO'.fr 2; have hg1 := gb_set3 (gb_refl w' (some s1)) (.int .u64 d1) (.int .u64 d2) (.int .u64 d4); have hA' := (hA.out.below hn1).kept hg1 (by simp; omega); have a0' := hA'.c0; have a1' := hA'.c1; have a2' := hA'.c2; have hO2 := hO'.set (d1, d2, d4); replace hO' := Aside0.mk hO'; replace hn1 := Aside0.mk hn1; replace hg1 := Aside0.mk hg1; replace hA' := Aside0.mk hA'; replace hO2 := Aside0.mk hO2) | (gi_at_call 106; refine (CallsIn.inRound l (callsIn_wide.2 (pc _))).mono ?_; rintro en w'' ⟨rfl, hn2⟩; have hO'' := hO2.out.below hn2; have p0'' := hO''.c0; have p1'' := hO''.c1; have p2'' := hO''.c2; have q0'' := hO''.fr 0; have q1'' := hO''.fr 1; have q2'' := hO''.fr 2; replace hO'' := Aside0.mk hO''; replace hn2 := Aside0.mk hn2))
      have hg := gb_set3 (gb_below (gb_set3 (gb_below (gb_refl W (some s1)) hn1.out) (.int .u64 d1) (.int .u64 d2) (.int .u64 d4)) hn2.out) (.int .u64 (v3 (pls (dbl (sfold s pre)) s)).1) (.int .u64 (v3 (pls (dbl (sfold s pre)) s)).2.1) (.int .u64 (v3 (pls (dbl (sfold s pre)) s)).2.2)
      refine ⟨keeps_of_gb3 hO.out hg, keepBox_of_gb hg hWs (by omega), ⟨hA.out.kept hg (by simp; omega), hR.out.kept hg (by simp; omega), ?_, hE.out.kept hg (by simp)⟩, below_of_gb hB.out hg hB.out.size (by omega)⟩
      rw [hs.out]
      exact hO''.out.set (v3 (pls (dbl (sfold s pre)) s))
  case done =>
    rintro D ys W hD rfl ⟨⟨hA, hR, hO, _⟩, hB⟩ hK
    have o0 := hO.c0
    have o1 := hO.c1
    have o2 := hO.c2
    have r0 := hR.c0
    have r1 := hR.c1
    have r2 := hR.c2
    have f0 := hR.fr 0
    have f1 := hR.fr 1
    have f2 := hR.fr 2
    generalize hy : v3 (sfold s (bitsOf e)) = r at *
    obtain ⟨y1, y2, y4⟩ := r
    replace hy := Aside0.mk hy
    replace hA := Aside0.mk hA
    replace hR := Aside0.mk hR
    replace hO := Aside0.mk hO
    replace hB := Aside0.mk hB
    gi_wp2
    have hR2 := hR.out.set (y1, y2, y4)
    have hB2 : Below w.heap.size w (((W.setCell ⟨w.heap.size + 1, 0, none⟩ (.int .u64 y1)).setCell ⟨w.heap.size + 1, 1, none⟩ (.int .u64 y2)).setCell ⟨w.heap.size + 1, 2, none⟩ (.int .u64 y4)) := ((hB.out.setCell (by simp) _).setCell (by simp) _).setCell (by simp) _
    have hK2 : (((W.setCell ⟨w.heap.size + 1, 0, none⟩ (.int .u64 y1)).setCell ⟨w.heap.size + 1, 1, none⟩ (.int .u64 y2)).setCell ⟨w.heap.size + 1, 2, none⟩ (.int .u64 y4)).heap[D]? = some (.deferred (some [])) := by
      rw [Below.heap_setCell _ _ _ _ (by simp; omega), Below.heap_setCell _ _ _ _ (by simp; omega), Below.heap_setCell _ _ _ _ (by simp; omega)]; exact hK
    dsimp only at hR2
    generalize (((W.setCell ⟨w.heap.size + 1, 0, none⟩ (.int .u64 y1)).setCell ⟨w.heap.size + 1, 1, none⟩ (.int .u64 y2)).setCell ⟨w.heap.size + 1, 2, none⟩ (.int .u64 y4)) = W2 at *
    refine ⟨by simp, .inl ⟨_, _, rfl, run_takeDeferred hK2, ?_⟩⟩
    refine ⟨_, results_cell_row rfl _ _ (w.heap.size + 1) 103 #[.int .u64 y1, .int .u64 y2, .int .u64 y4] (0, 0) _ rfl ?_ Tryz.underlying103 rfl (by kernel_rfl), by rw [hy.out], hB2.trans (belowK_b (w := w) (Nat.le_refl _) W2 D _ _ (by omega) hK2 rfl rfl)⟩
    exact hR2.kept (grownBy_putObj' W2 D (.deferred none)) (by simp; omega)
  case stop =>
    rintro D c pre W _ _ h _
    exact h.elim

theorem impl_spatial_times.calls (X Y Z k r1 r2 r3 : Int) (w : World) (hG : G w) (h : impl_spatial_times.f X Y Z k = some (r1, r2, r3)) :
    Calls Tryz.prog 69 #[.agg #[.int .u64 X, .int .u64 Y, .int .u64 Z], .int .u64 k] w fun en w' => en = .returned (.agg #[.int .u64 r1, .int .u64 r2, .int .u64 r3]) ∧ Below w.heap.size w w' := by
  unfold impl_spatial_times.f at h
  split at h
  case isFalse => cases h
  rename_i hh
  obtain ⟨h1, h2, h3, h4, h5, h6, h7, h8⟩ := hh
  have e := Option.some.inj h
  have := times_at (el X, el Y, el Z) k h7 h8 w hG
  rw [e] at this
  have ex : v3 (el X, el Y, el Z) = (X, Y, Z) := by unfold v3; simp only [vi_el h1 h2, vi_el h3 h4, vi_el h5 h6]
  rw [ex] at this
  exact this
end Go.Proofs.YtgdcafbdkidamaaGreatDoor.H4
end
section
namespace Go.Proofs.YtgdcafbdkidamaaGreatDoor.D
open Go.Proofs.YtgdcafbdkidamaaGreatDoor.Sq Go.RowKit Go.Proofs.YtgdcafbdkidamaaGreatDoor.B Go.Proofs.YtgdcafbdkidamaaGreatDoor.C Go.Proofs.YtgdcafbdkidamaaGreatDoor.H0 Go.Proofs.YtgdcafbdkidamaaGreatDoor.G1 Go.Proofs.YtgdcafbdkidamaaGreatDoor.F0 Go.Proofs.YtgdcafbdkidamaaGreatDoor.H1 Go.Proofs.YtgdcafbdkidamaaGreatDoor.H2 Go.Proofs.YtgdcafbdkidamaaGreatDoor.H3 Go.Proofs.YtgdcafbdkidamaaGreatDoor.CD Go.Proofs.YtgdcafbdkidamaaGreatDoor.H4 Go.Proofs.YtgdcafbdkidamaaGreatDoorW.PrintWords Go.Proofs.YtgdcafbdkidamaaGreatDoorW.PrintLast Go.Proofs.YtgdcafbdkidamaaGreatDoorW.PrintMore Go.Proofs.YtgdcafbdkidamaaGreatDoor.Ve Go.Proofs.YtgdcafbdkidamaaGreatDoor.VeT Go.Proofs.YtgdcafbdkidamaaGreatDoor.VeE
attribute [local go_sem high] field_num_fieldP   -- for this text's walks alone
attribute [local go_sem] max2_int min2_int max_two min_two max_three min_three max_four min_four   -- for this text's walks alone
set_option linter.unusedVariables false
set_option linter.unusedSimpArgs false
def impl_Times.f (k : Nat) (a0 : Int) (a1_0 : Int) (a1_1 : Int) (a1_2 : Bool) : Option (Int × Int × Bool) := (impl_at.f k a1_0 a1_1 a1_2).bind fun bt128 => (if bt128.2.2.2 = true then ((impl_onCurve_spatial.f bt128.1 bt128.2.1 bt128.2.2.1).bind fun bt133 => ((impl_spatial_times.f bt133.1 bt133.2.1 bt133.2.2 a0).bind fun bt136 => ((impl_spatial_point.f k bt136.1 bt136.2.1 bt136.2.2).bind fun bt139 => (some (bt139.1, bt139.2.1, bt139.2.2))))) else (some (0, 0, true)))
set_option maxRecDepth 100000 in
set_option maxHeartbeats 4000000 in
theorem impl_Times.calls (k : Nat) (a0 : Int) (a1_0 : Int) (a1_1 : Int) (a1_2 : Bool) (r1 : Int) (r2 : Int) (r3 : Bool) (w : World) (hG : G w) (h : impl_Times.f k a0 a1_0 a1_1 a1_2 = some (r1, r2, r3)) :
    Calls Tryz.prog 30 #[.int .u64 a0, .agg #[.int .u64 a1_0, .int .u64 a1_1, .bool a1_2]] w fun e w' => e = .returned (.agg #[.int .u64 r1, .int .u64 r2, .bool r3]) ∧ Below w.heap.size w w' := by
  unfold impl_Times.f at h
  repeat' (first | (rw [Option.bind_eq_some_iff] at h; obtain ⟨_, _, h⟩ := h) | (split at h) | (cases h <;> fail) | (replace h := Option.some.inj h) | (have h3_ := (Prod.mk.inj h).1; replace h := (Prod.mk.inj h).2; subst h3_) | (subst h))
  all_goals try contradiction
  all_goals refine ve_fn (args := [.int .u64 a0, .agg #[.int .u64 a1_0, .int .u64 a1_1, .bool a1_2]]) Tryz.func30 rfl Tryz.ntmps30 rfl (good (Γ := fun W => G W) (fun W hb => G_below hb hG)) ?_
  all_goals repeat' (first | refine rbt ?_ | refine rbf ?_ | refine wn ?_ | refine wq ?_ | refine wc_plain ?_ | refine wc_draw ?_ | refine rZ ?_ | refine rD ?_ | refine ve8 ?_ | refine ve4 ?_ | refine ve3 ?_ | refine ve1 ?_ | refine ve2 ?_ | refine ve5 ?_ | refine ve6 ?_ | refine ve7 ?_ | refine ve9 ?_ | refine rA ?_ | refine rE ?_ | refine rC ?_ | refine rB ?_ | refine rG ?_ | refine rH ?_ | refine rI ?_ | refine rJ ?_ | refine rcb ?_ | refine rcp (Pre := impl_at.f _ _ _ _ = some (_, _, _, _)) (fun hp_ w_ hΓ => impl_at.calls _ _ _ _ _ _ _ _ w_ hΓ hp_) ?_ | refine rcp (Pre := impl_onCurve_spatial.f _ _ _ = some (_, _, _)) (fun hp_ w_ hΓ => impl_onCurve_spatial.calls _ _ _ _ _ _ w_ hp_) ?_ | refine rcp (Pre := impl_spatial_times.f _ _ _ _ = some (_, _, _)) (fun hp_ w_ hΓ => impl_spatial_times.calls _ _ _ _ _ _ _ w_ hΓ hp_) ?_ | refine rcp (Pre := impl_spatial_point.f _ _ _ _ = some (_, _, _)) (fun hp_ w_ hΓ => impl_spatial_point.calls _ _ _ _ _ _ _ w_ hΓ hp_) ?_ | refine rel (fun w_ hΓ => ld_zero (by first  |  exact hΓ.z  |  exact hΓ.1.z  |  exact hΓ.1  |  exact hΓ)) ?_  |  refine req (fun w_ => eq_pt w_) ?_  |  refine req (fun w_ => ne_pt w_) ?_  |  refine req (fun w_ => eq_num w_) ?_  |  refine rsh ?_  |  refine rsl_ ?_  |  refine rslh ?_ | refine wb ?_ | refine wk ?_ | refine we ?_ | exact wt | refine wr ?_ | refine rr1 ?_ | refine rr2 ?_ | exact fr | exact fe | refine wTs ?_ | refine wFs ?_ | refine rof ?_ | refine rof0 ?_)

end Go.Proofs.YtgdcafbdkidamaaGreatDoor.D
end
