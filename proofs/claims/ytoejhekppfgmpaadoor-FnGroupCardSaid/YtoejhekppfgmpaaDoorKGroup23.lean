/- What the proof of FnGroup leans on, part 23: cut out of the texts of this claim's making by a program (wip/tools/pack.py). -/
import Derived.Test.YtoejhekppfgmpaaDoorKGroup6
import Derived.Test.YtoejhekppfgmpaaDoorKGroup10
import Derived.Test.YtoejhekppfgmpaaDoorKGroup11
import Derived.Test.YtoejhekppfgmpaaDoorKGroup12
import Derived.Test.YtoejhekppfgmpaaDoorKGroup13
import Derived.Test.YtoejhekppfgmpaaDoorKGroup14
import Derived.Test.YtoejhekppfgmpaaDoorKGroup22
section
namespace Go.Proofs.YtoejhekppfgmpaaDoor.H2
open Go.RowKit Go.Shelf Go.Proofs.YtoejhekppfgmpaaDoorW.PrintWords Go.Proofs.YtoejhekppfgmpaaDoorW.PrintLast Go.Proofs.YtoejhekppfgmpaaDoorW.PrintMore Go.Proofs.YtoejhekppfgmpaaDoor.H0 Go.Proofs.YtoejhekppfgmpaaDoor.H1 Go.Proofs.YtoejhekppfgmpaaDoor.B
attribute [local go_sem] Oper.semAt_some
/-- the product modulo m; 0 for m 0 -/
def mm (x y m : Int) : Int := if m = 0 then 0 else x * y % m
theorem mm_range {x y m : Int} (h : 0 ≤ m) (hm : m < 18446744073709551616) : 0 ≤ mm x y m ∧ mm x y m < 18446744073709551616 := by
  unfold mm
  by_cases h0 : m = 0
  · rw [if_pos h0]; omega
  · rw [if_neg h0]
    have := Int.emod_nonneg (x * y) h0
    have := Int.emod_lt_of_pos (x * y) (show 0 < m by omega)
    omega
/-- one bit's step -/
def pst (a m r : Int) (b : Bool) : Int := if b then mm (mm r r m) a m else mm r r m
def pfold (a m : Int) (bs : List Bool) : Int := bs.foldl (pst a m) (1 % m)
theorem pfold_snoc (a m : Int) (bs : List Bool) (b : Bool) : pfold a m (bs ++ [b]) = pst a m (pfold a m bs) b := by simp [pfold]
theorem pfold_range {a m : Int} (h : 0 ≤ m) (hm : m < 18446744073709551616) (h0 : m ≠ 0) : ∀ (bs : List Bool) (r : Int), 0 ≤ r → r < 18446744073709551616 → 0 ≤ bs.foldl (pst a m) r ∧ bs.foldl (pst a m) r < 18446744073709551616
  | [], r, h1, h2 => ⟨h1, h2⟩
  | b :: bs, r, h1, h2 => by
    have := mm_range (x := r) (y := r) h hm
    have := mm_range (x := mm r r m) (y := a) h hm
    apply pfold_range h hm h0 bs
    · unfold pst; split <;> omega
    · unfold pst; split <;> omega

end Go.Proofs.YtoejhekppfgmpaaDoor.H2
end
section
namespace Go.Proofs.YtoejhekppfgmpaaDoor.H3
open Go.RowKit Go.Shelf Go.Proofs.YtoejhekppfgmpaaDoorW.PrintWords Go.Proofs.YtoejhekppfgmpaaDoorW.PrintLast Go.Proofs.YtoejhekppfgmpaaDoorW.PrintMore Go.Proofs.YtoejhekppfgmpaaDoor.H0 Go.Proofs.YtoejhekppfgmpaaDoor.H1 Go.Proofs.YtoejhekppfgmpaaDoor.H2 Go.Proofs.YtoejhekppfgmpaaDoor.B
attribute [local go_sem] Oper.semAt_some
theorem times_fieldP (x y : Int) (w : World) (hx0 : 0 ≤ x) (hx : x < 18446744073709551616) (hy0 : 0 ≤ y) (hy : y < 18446744073709551616) :
    Calls Tryd.prog 92 #[.agg #[.int .u64 x], .agg #[.int .u64 y]] w fun e w' => e = .returned (.agg #[.int .u64 (mm x y primefieldP)]) ∧ Below w.heap.size w w' :=
  impl_num_impl_fieldP_times.calls 10 x y _ w (by
    simp only [impl_num_impl_fieldP_times.f, impl_prime_impl_fieldP.f, Option.bind_some]
    rw [Pure.mulmod x y primefieldP hx0 hx hy0 hy (by decide) (by decide) (by omega)]; rfl)
theorem numOf_fieldP (x : Int) (hx : 0 ≤ x) (w : World) :
    Calls Tryd.prog 91 #[.int .u64 x] w fun e w' => e = .returned (.agg #[.int .u64 (x % primefieldP)]) ∧ Below w.heap.size w w' :=
  impl_numOf_impl_fieldP.calls x _ w (by
    simp only [impl_numOf_impl_fieldP.f, impl_prime_impl_fieldP.f, Option.bind_some]
    rw [if_neg (by decide), Int.tmod_eq_emod_of_nonneg hx])

def impl_num_impl_fieldP_power.f (a e : Int) : Option Int :=
  if 0 ≤ a ∧ a < 18446744073709551616 ∧ 0 ≤ e ∧ e < 18446744073709551616 then some (pfold a primefieldP (bitsOf e)) else none

set_option maxRecDepth 100000 in
set_option maxHeartbeats 4000000 in
theorem impl_num_impl_fieldP_power.calls (a e r : Int) (w : World) (h : impl_num_impl_fieldP_power.f a e = some r) :
    Calls Tryd.prog 139 #[.agg #[.int .u64 a], .int .u64 e] w fun en w' => en = .returned (.agg #[.int .u64 r]) ∧ Below w.heap.size w w' := by
  unfold impl_num_impl_fieldP_power.f at h
  split at h
  case isFalse => cases h
  rename_i hh
  obtain ⟨ha0, ha1, he0, he1⟩ := hh
  obtain rfl := Option.some.inj h
  clear h
  refine (callsIn_wide (n := 5)).1 ?_
  refine callsIn_of_wp_marks Tryd.func139 rfl trivial ?_ rfl
  simp only [Tryd.ntmps139, List.size_toArray, List.length_cons, List.length_nil, Nat.reduceAdd, Nat.reduceSub, Array.replicate_succ, Array.replicate_zero, List.push_toArray, List.append_toArray, List.nil_append, List.cons_append]
  gi_wp2_with (first | (refine ⟨trivial, ?_⟩; gi_at_call 91; refine (callsIn_wide.2 (numOf_fieldP 1 (by omega) _)).mono ?_; rintro en w1 ⟨rfl, hb1⟩) | (refine ⟨trivial, ?_⟩; gi_at_call 109; refine (callsIn_wide.2 (highBits_any e _)).mono ?_; rintro en w' ⟨rfl, rfl⟩))
  have hA0 : Boxed w1 w.heap.size 94 (.int .u64 a) := boxed_below ((Boxed.new w _ _).alloc _) hb1
  have hR0 : Boxed w1 (w.heap.size + 1) 94 (.int .u64 0) := by
    have := Boxed.new (w.alloc (.cells #[.int .u64 a] 94)) 94 (.int .u64 0)
    rw [World.size_alloc] at this
    exact boxed_below this hb1
  have hs1 : w.heap.size + 2 ≤ w1.heap.size := by have := hb1.size; simp only [World.size_alloc] at this; omega
  have hB1 : Below w.heap.size w w1 := (((Below.refl _ w).alloc (Nat.le_refl _) _).alloc (by simp) _).trans (hb1.mono (by simp only [World.size_alloc]; omega))
  have hb2 : Boxed (w1.alloc (.cells #[.int .u64 (1 % primefieldP)] 94)) w1.heap.size 94 (.int .u64 (1 % primefieldP)) := Boxed.new w1 _ _
  have hbe : Boxed ((w1.alloc (.cells #[.int .u64 (1 % primefieldP)] 94)).alloc (.cells #[.int .u64 e] 23)) (w1.heap.size + 1) 23 (.int .u64 e) := by
    have := Boxed.new (w1.alloc (.cells #[.int .u64 (1 % primefieldP)] 94)) 23 (.int .u64 e)
    rwa [World.size_alloc] at this
  have hA1 := (hA0.alloc (.cells #[.int .u64 (1 % primefieldP)] 94)).alloc (.cells #[.int .u64 e] 23)
  have hR1 := (hR0.alloc (.cells #[.int .u64 (1 % primefieldP)] 94)).alloc (.cells #[.int .u64 e] 23)
  have hO1 := hb2.alloc (.cells #[.int .u64 e] 23)
  have hBB : Below w.heap.size w ((w1.alloc (.cells #[.int .u64 (1 % primefieldP)] 94)).alloc (.cells #[.int .u64 e] 23)) :=
    (hB1.alloc (by omega) _).alloc (by simp; omega) _
  have hsz : ((w1.alloc (.cells #[.int .u64 (1 % primefieldP)] 94)).alloc (.cells #[.int .u64 e] 23)).heap.size = w1.heap.size + 1 + 1 := by simp only [World.size_alloc]
  generalize ((w1.alloc (.cells #[.int .u64 (1 % primefieldP)] 94)).alloc (.cells #[.int .u64 e] 23)) = W1 at *
  generalize w1.heap.size = s1 at *
  refine wpIn_rangeFunc_ownF rfl (by omega) (gf := 146) (lb := #[.pointer (some ⟨s1 + 1, 0, none⟩)]) rfl trivial (enters_of Tryd.func146 (by kernel_rfl) rfl)
    (bits_stops (s1 + 1) 23 e he0 (by omega) _ hbe) keepBox_t (keepBox_b (by simp [hsz])) (Below.refl _ _) (fun _ => rfl)
    (fun pre W => (Boxed W w.heap.size 94 (.int .u64 a) ∧ Boxed W (w.heap.size + 1) 94 (.int .u64 0) ∧ Boxed W s1 94 (.int .u64 (pfold a primefieldP pre)) ∧ Boxed W (s1 + 1) 23 (.int .u64 e)) ∧ Below w.heap.size w W)
    (fun _ _ _ => False)
    (OwnFrom.and (Own.from (fun s A B row hs hg hr => ⟨boxed_own _ _ (fun _ : List Bool => Value.int .u64 a) s A B row hs.1 hg hr, boxed_own _ _ (fun _ : List Bool => Value.int .u64 0) s A B row hs.2.1 hg hr, boxed_own _ _ (fun s => Value.int .u64 (pfold a primefieldP s)) s A B row hs.2.2.1 hg hr, boxed_own _ _ (fun _ : List Bool => Value.int .u64 e) s A B row hs.2.2.2 hg hr⟩) _) (ownFrom_below (Nat.le_refl _) (by simp [hsz]; omega)))
    (fun _ _ _ _ _ hs _ _ => hs)
    ⟨⟨hA1, hR1, hO1, hbe⟩, hBB⟩
    (fun x => { tmps := #[.agg #[.int .u64 a], .int .u64 e, .pointer (some ⟨w.heap.size, 0, none⟩), undef, .pointer (some ⟨w.heap.size + 1, 0, none⟩), .pointer (some ⟨s1, 0, none⟩), .bool x, .agg #[.int .u64 (1 % primefieldP)], .int .u64 e, .func (.func 146) #[] #[.pointer (some ⟨s1 + 1, 0, none⟩)], .bool x, undef, undef, undef, undef, undef, undef, undef, undef], defers := [] }) ?assign ?body ?done ?stop
  case assign =>
    intro l x W K hK
    gi_wp2
    exact hK
  case body =>
    rintro l pre x W ⟨⟨hA, hR, hO, hE⟩, hB⟩ _
    have hWs := hE.lt
    have hr0 := pfold_range (a := a) (m := primefieldP) (by decide) (by decide) (by decide) pre (1 % primefieldP) (by decide) (by decide)
    change 0 ≤ pfold a primefieldP pre ∧ pfold a primefieldP pre < 18446744073709551616 at hr0
    have hr1 := mm_range (x := pfold a primefieldP pre) (y := pfold a primefieldP pre) (m := primefieldP) (by decide) (by decide)
    have hs := pfold_snoc a primefieldP pre x
    have hAc := hA.cell
    have hOc := hO.cell
    have hOf := hO.frozen
    cases x with
    | false =>
      gi_wp2_with (refine ⟨trivial, ?_⟩; gi_at_call 92; refine (CallsIn.inRound l (callsIn_wide.2 (times_fieldP (pfold a primefieldP pre) (pfold a primefieldP pre) _ hr0.1 hr0.2 hr0.1 hr0.2))).mono ?_; rintro en w' ⟨rfl, hn1⟩; have hO' := boxed_below hO hn1; have hOc' := hO'.cell; have hOf' := hO'.frozen)
      have hg := gb_set (gb_below (gb_refl W (some s1)) hn1) (.int .u64 (mm (pfold a primefieldP pre) (pfold a primefieldP pre) primefieldP))
      refine ⟨keeps_of_gb hO hg, keepBox_of_gb hg hWs (by omega), ⟨hA.kept hg (by simp; omega), hR.kept hg (by simp; omega), ?_, hE.kept hg (by simp)⟩, below_of_gb hB hg hB.size (by omega)⟩
      rw [hs]
      exact hO'.set _
    | true =>
      gi_wp2_with (refine ⟨trivial, ?_⟩; gi_at_call 92; first | ((with_reducible refine (CallsIn.inRound l (callsIn_wide.2 (times_fieldP (pfold a primefieldP pre) (pfold a primefieldP pre) _ hr0.1 hr0.2 hr0.1 hr0.2))).mono ?_); rintro en w' ⟨rfl, hn1⟩; have hO' := boxed_below hO hn1; have hOc' := hO'.cell; have hOf' := hO'.frozen; have hA' := (boxed_below hA hn1).kept (gb_set (gb_refl w' (some s1)) (.int .u64 (mm (pfold a primefieldP pre) (pfold a primefieldP pre) primefieldP))) (by simp; omega); have hA'c := hA'.cell) | ((with_reducible refine (CallsIn.inRound l (callsIn_wide.2 (times_fieldP (mm (pfold a primefieldP pre) (pfold a primefieldP pre) primefieldP) a _ hr1.1 hr1.2 ha0 ha1))).mono ?_); rintro en w'' ⟨rfl, hn2⟩; have hO'' := boxed_below (hO'.set _) hn2; have hOc'' := hO''.cell; have hOf'' := hO''.frozen))
      have hg := gb_set (gb_below (gb_set (gb_below (gb_refl W (some s1)) hn1) (.int .u64 (mm (pfold a primefieldP pre) (pfold a primefieldP pre) primefieldP))) hn2) (.int .u64 (mm (mm (pfold a primefieldP pre) (pfold a primefieldP pre) primefieldP) a primefieldP))
      refine ⟨keeps_of_gb hO hg, keepBox_of_gb hg hWs (by omega), ⟨hA.kept hg (by simp; omega), hR.kept hg (by simp; omega), ?_, hE.kept hg (by simp)⟩, below_of_gb hB hg hB.size (by omega)⟩
      rw [hs]
      exact hO''.set _
  case done =>
    rintro D ys W hD rfl ⟨⟨hA, hR, hO, _⟩, hB⟩ hK
    have hOc := hO.cell
    have hRc := hR.cell
    have hRf := hR.frozen
    gi_wp2
    have hR2 := hR.set (.int .u64 (pfold a primefieldP (bitsOf e)))
    have hB2 : Below w.heap.size w (W.setCell ⟨w.heap.size + 1, 0, none⟩ (.int .u64 (pfold a primefieldP (bitsOf e)))) := hB.setCell (by simp) _
    have hK2 : (W.setCell ⟨w.heap.size + 1, 0, none⟩ (.int .u64 (pfold a primefieldP (bitsOf e)))).heap[D]? = some (.deferred (some [])) := by
      rw [Below.heap_setCell _ _ _ _ (by simp; omega)]; exact hK
    generalize W.setCell ⟨w.heap.size + 1, 0, none⟩ (.int .u64 (pfold a primefieldP (bitsOf e))) = W2 at *
    refine ⟨by simp, .inl ⟨_, _, rfl, run_takeDeferred hK2, ?_⟩⟩
    refine ⟨_, results_cell_row rfl _ _ (w.heap.size + 1) 94 #[.int .u64 (pfold a primefieldP (bitsOf e))] (0, 0) _ rfl ?_ Tryd.underlying94 rfl (by kernel_rfl), rfl, hB2.trans (belowK_b (w := w) (Nat.le_refl _) W2 D _ _ (by omega) hK2 rfl rfl)⟩
    exact hR2.kept (grownBy_putObj' W2 D (.deferred none)) (by simp; omega)
  case stop =>
    rintro D c pre W _ _ h _
    exact h.elim
end Go.Proofs.YtoejhekppfgmpaaDoor.H3
end
section
namespace Go.Proofs.YtoejhekppfgmpaaDoor.C
open Go.RowKit Go.Proofs.YtoejhekppfgmpaaDoor.B Go.Proofs.YtoejhekppfgmpaaDoor.H0 Go.Proofs.YtoejhekppfgmpaaDoor.G1 Go.Proofs.YtoejhekppfgmpaaDoor.F0 Go.Proofs.YtoejhekppfgmpaaDoor.H1 Go.Proofs.YtoejhekppfgmpaaDoor.H2 Go.Proofs.YtoejhekppfgmpaaDoor.H3 Go.Proofs.YtoejhekppfgmpaaDoorW.PrintWords Go.Proofs.YtoejhekppfgmpaaDoorW.PrintLast Go.Proofs.YtoejhekppfgmpaaDoorW.PrintMore Go.Proofs.YtoejhekppfgmpaaDoor.Ve Go.Proofs.YtoejhekppfgmpaaDoor.VeT Go.Proofs.YtoejhekppfgmpaaDoor.VeE
attribute [local go_sem high] field_num_fieldP   -- for this text's walks alone
attribute [local go_sem] max2_int min2_int max_two min_two max_three min_three max_four min_four   -- for this text's walks alone
set_option linter.unusedVariables false
set_option linter.unusedSimpArgs false
def impl_num_impl_fieldP_inverse.f (a0_0 : Int) : Option (Int) := (impl_prime_impl_fieldP.f).bind fun t162 => ((impl_num_impl_fieldP_power.f a0_0 (IntKind.u64.wrap (t162 - 2))).bind fun t163 => (some t163))
set_option maxRecDepth 100000 in
set_option maxHeartbeats 4000000 in
theorem impl_num_impl_fieldP_inverse.calls (a0_0 : Int) (r : Int) (w : World) (h : impl_num_impl_fieldP_inverse.f a0_0 = some r) :
    Calls Tryd.prog 94 #[.agg #[.int .u64 a0_0]] w fun e w' => e = .returned (.agg #[.int .u64 r]) ∧ Below w.heap.size w w' := by
  unfold impl_num_impl_fieldP_inverse.f at h
  repeat' (first | (rw [Option.bind_eq_some_iff] at h; obtain ⟨_, _, h⟩ := h) | (split at h) | (cases h <;> fail) | (replace h := Option.some.inj h) | (have h3_ := (Prod.mk.inj h).1; replace h := (Prod.mk.inj h).2; subst h3_) | (subst h))
  all_goals try contradiction
  all_goals refine ve_fn (args := [.agg #[.int .u64 a0_0]]) Tryd.func94 rfl Tryd.ntmps94 rfl (good (Γ := fun _ => True) (fun _ _ => trivial)) ?_
  all_goals repeat' (first | refine rbt ?_ | refine rbf ?_ | refine wn ?_ | refine wq ?_ | refine wc_plain ?_ | refine wc_draw ?_ | refine rZ ?_ | refine rD ?_ | refine ve8 ?_ | refine ve4 ?_ | refine ve3 ?_ | refine ve1 ?_ | refine ve2 ?_ | refine ve5 ?_ | refine ve6 ?_ | refine ve7 ?_ | refine ve9 ?_ | refine rA ?_ | refine rE ?_ | refine rC ?_ | refine rB ?_ | refine rG ?_ | refine rH ?_ | refine rI ?_ | refine rJ ?_ | refine rcb ?_ | refine rcp (Pre := impl_prime_impl_fieldP.f = some _) (fun hp_ w_ hΓ => impl_prime_impl_fieldP.calls _ w_ hp_) ?_ | refine rcp (Pre := impl_num_impl_fieldP_power.f _ _ = some _) (fun hp_ w_ hΓ => impl_num_impl_fieldP_power.calls _ _ _ w_ hp_) ?_ | refine wb ?_ | refine wk ?_ | refine we ?_ | exact wt | refine wr ?_ | refine rr1 ?_ | refine rr2 ?_ | exact fr | exact fe | refine wTs ?_ | refine wFs ?_ | refine rof ?_ | refine rof0 ?_)

def impl_spatial_point.f (k : Nat) (a0_0 : Int) (a0_1 : Int) (a0_2 : Int) : Option (Int × Int × Bool) := if a0_2 = 0 then (some (0, 0, true)) else ((impl_num_impl_fieldP_inverse.f a0_2).bind fun t166 => ((impl_num_impl_fieldP_times.f k t166 t166).bind fun t168 => ((impl_num_impl_fieldP_times.f k a0_0 t168).bind fun t170 => ((impl_num_impl_fieldP_times.f k a0_1 t168).bind fun t171 => ((impl_num_impl_fieldP_times.f k t171 t166).bind fun t172 => (some (t170, t172, false)))))))
set_option maxRecDepth 100000 in
set_option maxHeartbeats 4000000 in
theorem impl_spatial_point.calls (k : Nat) (a0_0 : Int) (a0_1 : Int) (a0_2 : Int) (r1 : Int) (r2 : Int) (r3 : Bool) (w : World) (hG : G w) (h : impl_spatial_point.f k a0_0 a0_1 a0_2 = some (r1, r2, r3)) :
    Calls Tryd.prog 60 #[.agg #[.int .u64 a0_0, .int .u64 a0_1, .int .u64 a0_2]] w fun e w' => e = .returned (.agg #[.int .u64 r1, .int .u64 r2, .bool r3]) ∧ Below w.heap.size w w' := by
  unfold impl_spatial_point.f at h
  repeat' (first | (rw [Option.bind_eq_some_iff] at h; obtain ⟨_, _, h⟩ := h) | (split at h) | (cases h <;> fail) | (replace h := Option.some.inj h) | (have h3_ := (Prod.mk.inj h).1; replace h := (Prod.mk.inj h).2; subst h3_) | (subst h))
  all_goals try contradiction
  all_goals refine ve_fn (args := [.agg #[.int .u64 a0_0, .int .u64 a0_1, .int .u64 a0_2]]) Tryd.func60 rfl Tryd.ntmps60 rfl (good (Γ := fun W => G W) (fun W hb => G_below hb hG)) ?_
  all_goals repeat' (first | refine rbt ?_ | refine rbf ?_ | refine wn ?_ | refine wq ?_ | refine wc_plain ?_ | refine wc_draw ?_ | refine rZ ?_ | refine rD ?_ | refine ve8 ?_ | refine ve4 ?_ | refine ve3 ?_ | refine ve1 ?_ | refine ve2 ?_ | refine ve5 ?_ | refine ve6 ?_ | refine ve7 ?_ | refine ve9 ?_ | refine rA ?_ | refine rE ?_ | refine rC ?_ | refine rB ?_ | refine rG ?_ | refine rH ?_ | refine rI ?_ | refine rJ ?_ | refine rcb ?_ | refine rcp (Pre := impl_num_impl_fieldP_inverse.f _ = some _) (fun hp_ w_ hΓ => impl_num_impl_fieldP_inverse.calls _ _ w_ hp_) ?_ | refine rcp (Pre := impl_num_impl_fieldP_times.f _ _ _ = some _) (fun hp_ w_ hΓ => impl_num_impl_fieldP_times.calls _ _ _ _ w_ hp_) ?_ | refine rel (fun w_ hΓ => ld_zero (by first  |  exact hΓ.z  |  exact hΓ.1.z  |  exact hΓ.1  |  exact hΓ)) ?_  |  refine req (fun w_ => eq_pt w_) ?_  |  refine req (fun w_ => ne_pt w_) ?_  |  refine req (fun w_ => eq_num w_) ?_ | refine wb ?_ | refine wk ?_ | refine we ?_ | exact wt | refine wr ?_ | refine rr1 ?_ | refine rr2 ?_ | exact fr | exact fe | refine wTs ?_ | refine wFs ?_ | refine rof ?_ | refine rof0 ?_)

end Go.Proofs.YtoejhekppfgmpaaDoor.C
end
