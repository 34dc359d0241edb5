/- What the proof of FnExactMapToCurve leans on, part 11: cut out of the texts of this claim's making by a program (wip/tools/pack.py). -/
import Derived.Test.YtkefcokmghbmhaaKMapToCurve5
import Derived.Test.YtkefcokmghbmhaaKMapToCurve6
import Derived.Test.YtkefcokmghbmhaaKMapToCurve9
import Derived.Test.YtkefcokmghbmhaaKMapToCurve10
import Derived.KernelRfl
section
namespace Go.Proofs.Ytkefcokmghbmhaa.H2
open Go.RowKit Go.Shelf Go.Proofs.YtkefcokmghbmhaaW.PrintWords Go.Proofs.YtkefcokmghbmhaaW.PrintLast Go.Proofs.YtkefcokmghbmhaaW.PrintMore Go.Proofs.Ytkefcokmghbmhaa.H0 Go.Proofs.Ytkefcokmghbmhaa.H1 Go.Proofs.Ytkefcokmghbmhaa.B
attribute [local go_sem] Oper.semAt_some
/-- the product modulo m; 0 for m 0 -/
def mm (x y m : Int) : Int := if m = 0 then 0 else x * y % m
theorem mm_range {x y m : Int} (h : 0 ≤ m) (hm : m < 18446744073709551616) : 0 ≤ mm x y m ∧ mm x y m < 18446744073709551616 := by
  unfold mm
  by_cases h0 : m = 0
  · rw [if_pos h0]; omega
  · rw [if_neg h0]
    have := Int.emod_nonneg (x * y) h0
    have := Int.emod_lt_of_pos (x * y) (show 0 < m by omega)
    omega
/-- one bit's step -/
def pst (a m r : Int) (b : Bool) : Int := if b then mm (mm r r m) a m else mm r r m
def pfold (a m : Int) (bs : List Bool) : Int := bs.foldl (pst a m) (1 % m)
theorem pfold_snoc (a m : Int) (bs : List Bool) (b : Bool) : pfold a m (bs ++ [b]) = pst a m (pfold a m bs) b := by simp [pfold]
theorem pfold_range {a m : Int} (h : 0 ≤ m) (hm : m < 18446744073709551616) (h0 : m ≠ 0) : ∀ (bs : List Bool) (r : Int), 0 ≤ r → r < 18446744073709551616 → 0 ≤ bs.foldl (pst a m) r ∧ bs.foldl (pst a m) r < 18446744073709551616
  | [], r, h1, h2 => ⟨h1, h2⟩
  | b :: bs, r, h1, h2 => by
    have := mm_range (x := r) (y := r) h hm
    have := mm_range (x := mm r r m) (y := a) h hm
    apply pfold_range h hm h0 bs
    · unfold pst; split <;> omega
    · unfold pst; split <;> omega

end Go.Proofs.Ytkefcokmghbmhaa.H2
end
section
namespace Go.Proofs.Ytkefcokmghbmhaa.H3
open Go.RowKit Go.Shelf Go.Proofs.YtkefcokmghbmhaaW.PrintWords Go.Proofs.YtkefcokmghbmhaaW.PrintLast Go.Proofs.YtkefcokmghbmhaaW.PrintMore Go.Proofs.Ytkefcokmghbmhaa.H0 Go.Proofs.Ytkefcokmghbmhaa.H1 Go.Proofs.Ytkefcokmghbmhaa.H2 Go.Proofs.Ytkefcokmghbmhaa.B
attribute [local go_sem] Oper.semAt_some
theorem times_fieldP (x y : Int) (w : World) (hx0 : 0 ≤ x) (hx : x < 18446744073709551616) (hy0 : 0 ≤ y) (hy : y < 18446744073709551616) :
    Calls Try.prog 13 #[.agg #[.int .u64 x], .agg #[.int .u64 y]] w fun e w' => e = .returned (.agg #[.int .u64 (mm x y primefieldP)]) ∧ Below w.heap.size w w' :=
  impl_num_impl_fieldP_times.calls 10 x y _ w (by
    simp only [impl_num_impl_fieldP_times.f, impl_prime_impl_fieldP.f, Option.bind_some]
    rw [Pure.mulmod x y primefieldP hx0 hx hy0 hy (by decide) (by decide) (by omega)]; rfl)
theorem numOf_fieldP (x : Int) (hx : 0 ≤ x) (w : World) :
    Calls Try.prog 12 #[.int .u64 x] w fun e w' => e = .returned (.agg #[.int .u64 (x % primefieldP)]) ∧ Below w.heap.size w w' :=
  impl_numOf_impl_fieldP.calls x _ w (by
    simp only [impl_numOf_impl_fieldP.f, impl_prime_impl_fieldP.f, Option.bind_some]
    rw [if_neg (by decide), Int.tmod_eq_emod_of_nonneg hx])

def impl_num_impl_fieldP_power.f (a e : Int) : Option Int :=
  if 0 ≤ a ∧ a < 18446744073709551616 ∧ 0 ≤ e ∧ e < 18446744073709551616 then some (pfold a primefieldP (bitsOf e)) else none

set_option maxRecDepth 100000 in
set_option maxHeartbeats 4000000 in
theorem impl_num_impl_fieldP_power.calls (a e r : Int) (w : World) (h : impl_num_impl_fieldP_power.f a e = some r) :
    Calls Try.prog 23 #[.agg #[.int .u64 a], .int .u64 e] w fun en w' => en = .returned (.agg #[.int .u64 r]) ∧ Below w.heap.size w w' := by
  unfold impl_num_impl_fieldP_power.f at h
  split at h
  case isFalse => cases h
  rename_i hh
  obtain ⟨ha0, ha1, he0, he1⟩ := hh
  obtain rfl := Option.some.inj h
  clear h
  refine (callsIn_wide (n := 5)).1 ?_
  refine callsIn_of_wp_marks Try.func23 rfl trivial ?_ rfl
  simp only [Try.ntmps23, List.size_toArray, List.length_cons, List.length_nil, Nat.reduceAdd, Nat.reduceSub, Array.replicate_succ, Array.replicate_zero, List.push_toArray, List.append_toArray, List.nil_append, List.cons_append]
  gi_wp2_with (first | (refine ⟨trivial, ?_⟩; gi_at_call 12; refine (callsIn_wide.2 (numOf_fieldP 1 (by omega) _)).mono ?_; rintro en w1 ⟨rfl, hb1⟩) | (refine ⟨trivial, ?_⟩; gi_at_call 28; refine (callsIn_wide.2 (highBits_any e _)).mono ?_; rintro en w' ⟨rfl, rfl⟩))
  have hA0 : Boxed w1 w.heap.size 34 (.int .u64 a) := boxed_below ((Boxed.new w _ _).alloc _) hb1
  have hR0 : Boxed w1 (w.heap.size + 1) 34 (.int .u64 0) := by
    have := Boxed.new (w.alloc (.cells #[.int .u64 a] 34)) 34 (.int .u64 0)
    rw [World.size_alloc] at this
    exact boxed_below this hb1
  have hs1 : w.heap.size + 2 ≤ w1.heap.size := by have := hb1.size; simp only [World.size_alloc] at this; omega
  have hB1 : Below w.heap.size w w1 := (((Below.refl _ w).alloc (Nat.le_refl _) _).alloc (by simp) _).trans (hb1.mono (by simp only [World.size_alloc]; omega))
  have hb2 : Boxed (w1.alloc (.cells #[.int .u64 (1 % primefieldP)] 34)) w1.heap.size 34 (.int .u64 (1 % primefieldP)) := Boxed.new w1 _ _
  have hbe : Boxed ((w1.alloc (.cells #[.int .u64 (1 % primefieldP)] 34)).alloc (.cells #[.int .u64 e] 22)) (w1.heap.size + 1) 22 (.int .u64 e) := by
    have := Boxed.new (w1.alloc (.cells #[.int .u64 (1 % primefieldP)] 34)) 22 (.int .u64 e)
    rwa [World.size_alloc] at this
  have hA1 := (hA0.alloc (.cells #[.int .u64 (1 % primefieldP)] 34)).alloc (.cells #[.int .u64 e] 22)
  have hR1 := (hR0.alloc (.cells #[.int .u64 (1 % primefieldP)] 34)).alloc (.cells #[.int .u64 e] 22)
  have hO1 := hb2.alloc (.cells #[.int .u64 e] 22)
  have hBB : Below w.heap.size w ((w1.alloc (.cells #[.int .u64 (1 % primefieldP)] 34)).alloc (.cells #[.int .u64 e] 22)) :=
    (hB1.alloc (by omega) _).alloc (by simp; omega) _
  have hsz : ((w1.alloc (.cells #[.int .u64 (1 % primefieldP)] 34)).alloc (.cells #[.int .u64 e] 22)).heap.size = w1.heap.size + 1 + 1 := by simp only [World.size_alloc]
  generalize ((w1.alloc (.cells #[.int .u64 (1 % primefieldP)] 34)).alloc (.cells #[.int .u64 e] 22)) = W1 at *
  generalize w1.heap.size = s1 at *
  refine wpIn_rangeFunc_ownF rfl (by omega) (gf := 30) (lb := #[.pointer (some ⟨s1 + 1, 0, none⟩)]) rfl trivial (enters_of Try.func30 (by kernel_rfl) rfl)
    (bits_stops (s1 + 1) 22 e he0 (by omega) _ hbe) keepBox_t (keepBox_b (by simp [hsz])) (Below.refl _ _) (fun _ => rfl)
    (fun pre W => (Boxed W w.heap.size 34 (.int .u64 a) ∧ Boxed W (w.heap.size + 1) 34 (.int .u64 0) ∧ Boxed W s1 34 (.int .u64 (pfold a primefieldP pre)) ∧ Boxed W (s1 + 1) 22 (.int .u64 e)) ∧ Below w.heap.size w W)
    (fun _ _ _ => False)
    (OwnFrom.and (Own.from (fun s A B row hs hg hr => ⟨boxed_own _ _ (fun _ : List Bool => Value.int .u64 a) s A B row hs.1 hg hr, boxed_own _ _ (fun _ : List Bool => Value.int .u64 0) s A B row hs.2.1 hg hr, boxed_own _ _ (fun s => Value.int .u64 (pfold a primefieldP s)) s A B row hs.2.2.1 hg hr, boxed_own _ _ (fun _ : List Bool => Value.int .u64 e) s A B row hs.2.2.2 hg hr⟩) _) (ownFrom_below (Nat.le_refl _) (by simp [hsz]; omega)))
    (fun _ _ _ _ _ hs _ _ => hs)
    ⟨⟨hA1, hR1, hO1, hbe⟩, hBB⟩
    (fun x => { tmps := #[.agg #[.int .u64 a], .int .u64 e, .pointer (some ⟨w.heap.size, 0, none⟩), undef, .pointer (some ⟨w.heap.size + 1, 0, none⟩), .pointer (some ⟨s1, 0, none⟩), .bool x, .agg #[.int .u64 (1 % primefieldP)], .int .u64 e, .func (.func 30) #[] #[.pointer (some ⟨s1 + 1, 0, none⟩)], .bool x, undef, undef, undef, undef, undef, undef, undef, undef], defers := [] }) ?assign ?body ?done ?stop
  case assign =>
    intro l x W K hK
    gi_wp2
    exact hK
  case body =>
    rintro l pre x W ⟨⟨hA, hR, hO, hE⟩, hB⟩ _
    have hWs := hE.lt
    have hr0 := pfold_range (a := a) (m := primefieldP) (by decide) (by decide) (by decide) pre (1 % primefieldP) (by decide) (by decide)
    change 0 ≤ pfold a primefieldP pre ∧ pfold a primefieldP pre < 18446744073709551616 at hr0
    have hr1 := mm_range (x := pfold a primefieldP pre) (y := pfold a primefieldP pre) (m := primefieldP) (by decide) (by decide)
    have hs := pfold_snoc a primefieldP pre x
    have hAc := hA.cell
    have hOc := hO.cell
    have hOf := hO.frozen
    cases x with
    | false =>
      gi_wp2_with (refine ⟨trivial, ?_⟩; gi_at_call 13; refine (CallsIn.inRound l (callsIn_wide.2 (times_fieldP (pfold a primefieldP pre) (pfold a primefieldP pre) _ hr0.1 hr0.2 hr0.1 hr0.2))).mono ?_; rintro en w' ⟨rfl, hn1⟩; have hO' := boxed_below hO hn1; have hOc' := hO'.cell; have hOf' := hO'.frozen)
      have hg := gb_set (gb_below (gb_refl W (some s1)) hn1) (.int .u64 (mm (pfold a primefieldP pre) (pfold a primefieldP pre) primefieldP))
      refine ⟨keeps_of_gb hO hg, keepBox_of_gb hg hWs (by omega), ⟨hA.kept hg (by simp; omega), hR.kept hg (by simp; omega), ?_, hE.kept hg (by simp)⟩, below_of_gb hB hg hB.size (by omega)⟩
      rw [hs]
      exact hO'.set _
    | true =>
      gi_wp2_with (refine ⟨trivial, ?_⟩; gi_at_call 13; first | ((with_reducible refine (CallsIn.inRound l (callsIn_wide.2 (times_fieldP (pfold a primefieldP pre) (pfold a primefieldP pre) _ hr0.1 hr0.2 hr0.1 hr0.2))).mono ?_); rintro en w' ⟨rfl, hn1⟩; have hO' := boxed_below hO hn1; have hOc' := hO'.cell; have hOf' := hO'.frozen; have hA' := (boxed_below hA hn1).kept (gb_set (gb_refl w' (some s1)) (.int .u64 (mm (pfold a primefieldP pre) (pfold a primefieldP pre) primefieldP))) (by simp; omega); have hA'c := hA'.cell) | ((with_reducible refine (CallsIn.inRound l (callsIn_wide.2 (times_fieldP (mm (pfold a primefieldP pre) (pfold a primefieldP pre) primefieldP) a _ hr1.1 hr1.2 ha0 ha1))).mono ?_); rintro en w'' ⟨rfl, hn2⟩; have hO'' := boxed_below (hO'.set _) hn2; have hOc'' := hO''.cell; have hOf'' := hO''.frozen))
      have hg := gb_set (gb_below (gb_set (gb_below (gb_refl W (some s1)) hn1) (.int .u64 (mm (pfold a primefieldP pre) (pfold a primefieldP pre) primefieldP))) hn2) (.int .u64 (mm (mm (pfold a primefieldP pre) (pfold a primefieldP pre) primefieldP) a primefieldP))
      refine ⟨keeps_of_gb hO hg, keepBox_of_gb hg hWs (by omega), ⟨hA.kept hg (by simp; omega), hR.kept hg (by simp; omega), ?_, hE.kept hg (by simp)⟩, below_of_gb hB hg hB.size (by omega)⟩
      rw [hs]
      exact hO''.set _
  case done =>
    rintro D ys W hD rfl ⟨⟨hA, hR, hO, _⟩, hB⟩ hK
    have hOc := hO.cell
    have hRc := hR.cell
    have hRf := hR.frozen
    gi_wp2
    have hR2 := hR.set (.int .u64 (pfold a primefieldP (bitsOf e)))
    have hB2 : Below w.heap.size w (W.setCell ⟨w.heap.size + 1, 0, none⟩ (.int .u64 (pfold a primefieldP (bitsOf e)))) := hB.setCell (by simp) _
    have hK2 : (W.setCell ⟨w.heap.size + 1, 0, none⟩ (.int .u64 (pfold a primefieldP (bitsOf e)))).heap[D]? = some (.deferred (some [])) := by
      rw [Below.heap_setCell _ _ _ _ (by simp; omega)]; exact hK
    generalize W.setCell ⟨w.heap.size + 1, 0, none⟩ (.int .u64 (pfold a primefieldP (bitsOf e))) = W2 at *
    refine ⟨by simp, .inl ⟨_, _, rfl, run_takeDeferred hK2, ?_⟩⟩
    refine ⟨_, results_cell_row rfl _ _ (w.heap.size + 1) 34 #[.int .u64 (pfold a primefieldP (bitsOf e))] (0, 0) _ rfl ?_ Try.underlying34 rfl (by kernel_rfl), rfl, hB2.trans (belowK_b (w := w) (Nat.le_refl _) W2 D _ _ (by omega) hK2 rfl rfl)⟩
    exact hR2.kept (grownBy_putObj' W2 D (.deferred none)) (by simp; omega)
  case stop =>
    rintro D c pre W _ _ h _
    exact h.elim
end Go.Proofs.Ytkefcokmghbmhaa.H3
end
section
namespace Go.Proofs.Ytkefcokmghbmhaa.C2
open Go Go.RowKit Go.Proofs.YtkefcokmghbmhaaW.PrintWords Go.Proofs.YtkefcokmghbmhaaW.PrintLast Go.Proofs.YtkefcokmghbmhaaW.PrintMore Go.Proofs.Ytkefcokmghbmhaa.H0 Go.Proofs.Ytkefcokmghbmhaa.H1 Go.Proofs.Ytkefcokmghbmhaa.H2 Go.Proofs.Ytkefcokmghbmhaa.H3 Go.Proofs.Ytkefcokmghbmhaa.CR Go.Proofs.Ytkefcokmghbmhaa.B
set_option linter.unusedVariables false
set_option linter.unusedSimpArgs false
def tm (x y : Int) : Int := x * y % 2305843009213693951
def ad (x y : Int) : Int := (x + y) % 2305843009213693951
def In (x : Int) : Prop := 0 ≤ x ∧ x < 2305843009213693951
theorem in_tm (x y : Int) : In (tm x y) := by unfold In tm; omega
theorem in_ad (x y : Int) : In (ad x y) := by unfold In ad; omega
theorem times_c {x y : Int} (hx : In x) (hy : In y) (w : World) :
    Calls Try.prog 13 #[.agg #[.int .u64 x], .agg #[.int .u64 y]] w fun e w' => e = .returned (.agg #[.int .u64 (tm x y)]) ∧ Below w.heap.size w w' :=
  impl_num_impl_fieldP_times.calls 10 x y _ w (Pure.prod_P x y hx.1 (by have := hx.2; omega) hy.1 (by have := hy.2; omega) (by omega))
theorem plus_c {x y : Int} (hx : In x) (hy : In y) (w : World) :
    Calls Try.prog 14 #[.agg #[.int .u64 x], .agg #[.int .u64 y]] w fun e w' => e = .returned (.agg #[.int .u64 (ad x y)]) ∧ Below w.heap.size w w' :=
  impl_num_impl_fieldP_plus.calls x y _ w (Pure.plus_P x y hx.1 hx.2 hy.1 hy.2)
theorem old_cell {W w : World} {row : Option Nat} {g : Nat} {cs : Array Value} {t : TypeId} {fr : Nat × Nat} (hg : W.grownBy w row) (hb : W.heap[g]? = some (.cells cs t fr)) (hne : some g ≠ row) (i : Nat) : w.cell? ⟨g, i, none⟩ = cs[i]? :=
  blk_cellG_ ((hg.block g (lt_of_heap hb) hne).trans hb) i
where blk_cellG_ {w : World} {g : Nat} {t : TypeId} {cs : Array Value} {fr : Nat × Nat} (h : w.heap[g]? = some (.cells cs t fr)) (i : Nat) : w.cell? ⟨g, i, none⟩ = cs[i]? := cell_of_row w g i cs t fr h

theorem below_none {w W W' : World} (hB : Below w.heap.size w W) (hg : W.grownBy W' none) : Below w.heap.size w W' :=
  hB.trans ⟨hg.os, hg.tape, hg.output, hg.size, fun k hk => hg.block k (by have := hB.size; omega) (by simp)⟩
theorem below_drew' {w W : World} {n : Nat} (hB : Below n w W) : Below n w W.drew := below_drew1 hB

theorem load_num {oi : Oper} {ρ : Operand → Value} {w : World} (x : Operand) (hop : oi.op = .load 34 x) (g o : Nat) (hx : ρ x = .pointer (some ⟨g, o, none⟩)) {v : Value} (hc : w.cell? ⟨g, o, none⟩ = some v) :
    (execOp ρ oi).run Try.prog w = .ok (.value (.agg #[v])) w := by
  have hu := Try.underlying34
  unfold execOp
  rw [hop]
  dsimp only
  rw [hx]
  go_simp

theorem build_num {oi : Oper} {ρ : Operand → Value} {w : World} (x : Operand) (hop : oi.op = .build 34 #[(0, x)]) {n : Int} (hx : ρ x = .int .u64 n) :
    (execOp ρ oi).run Try.prog w = .ok (.value (.agg #[.int .u64 n])) w := by
  unfold execOp
  rw [hop]
  dsimp only
  simp only [List.map_toArray, List.map_cons, List.map_nil, hx]
  kernel_rfl

theorem alloc_num {oi : Oper} (hop : oi.op = .alloc 34) (ρ : Operand → Value) (w : World) :
    (execOp ρ oi).run Try.prog w = .ok (.value (.pointer (some ⟨w.heap.size, 0, none⟩))) (w.alloc (.cells #[.int .u64 0] 34 (0, 0))) := by
  have hu := Try.underlying34
  unfold execOp
  rw [hop]
  dsimp only
  go_simp

theorem store_num {oi : Oper} {ρ : Operand → Value} {w : World} (x y : Operand) (hop : oi.op = .store 34 x y) (g : Nat) {a : Int} (hx : ρ x = .pointer (some ⟨g, 0, none⟩)) (hy : ρ y = .agg #[.int .u64 a]) {u : Value} (hb : w.heap[g]? = some (.cells #[u] 34 (0, 0))) :
    (execOp ρ oi).run Try.prog w = .ok .skip (w.setCell ⟨g, 0, none⟩ (.int .u64 a)) := by
  have hu := Try.underlying34
  have hc : w.cell? ⟨g, 0, none⟩ = some u := by rw [cell_of_row w g 0 _ _ _ hb]; rfl
  have hf : w.frozen? ⟨g, 0, none⟩ = false := frozen_of_row w g 0 _ _ hb
  unfold execOp
  rw [hop]
  dsimp only
  rw [hx, hy]
  go_simp

end Go.Proofs.Ytkefcokmghbmhaa.C2
end
section
namespace Go.Proofs.Ytkefcokmghbmhaa.C
open Go.RowKit Go.Proofs.Ytkefcokmghbmhaa.B Go.Proofs.Ytkefcokmghbmhaa.H0 Go.Proofs.Ytkefcokmghbmhaa.H1 Go.Proofs.Ytkefcokmghbmhaa.H2 Go.Proofs.Ytkefcokmghbmhaa.H3 Go.Proofs.YtkefcokmghbmhaaW.PrintWords Go.Proofs.YtkefcokmghbmhaaW.PrintLast Go.Proofs.YtkefcokmghbmhaaW.PrintMore
attribute [local go_sem] max2_int min2_int max_two min_two max_three min_three max_four min_four   -- for this text's walks alone
set_option linter.unusedVariables false
set_option linter.unusedSimpArgs false
attribute [local go_sem high] eqA34
def impl_num_impl_fieldP_root.f (k : Nat) (a0_0 : Int) : Option (Int × Bool) := (impl_prime_impl_fieldP.f).bind fun t107 => ((impl_num_impl_fieldP_power.f a0_0 (IntKind.u64.wrap (Int.tdiv (IntKind.u64.wrap (t107 + 1)) 4))).bind fun t108 => (if (Int.tmod t108 2) = 1 then ((impl_num_impl_fieldP_negative.f t108).bind fun t110 => ((impl_num_impl_fieldP_times.f k t110 t110).bind fun t111 => (some (t110, (t111 == a0_0))))) else ((impl_num_impl_fieldP_times.f k t108 t108).bind fun t112 => (some (t108, (t112 == a0_0))))))
def impl_num_impl_fieldP_root.T1 : Bool × List (List Nat × List Nat) := (true, [([], []), ([], []), ([1], [1]), ([2], [2]), ([0, 3, 1], [0, 3]), ([], []), ([5, 4, 4, 0, 1, 2, 3, 4, 5], [4, 5])])
def impl_num_impl_fieldP_root.B1 : List Nat := [0, 0, 2, 6, 15, 0, 63]
theorem impl_num_impl_fieldP_root.tab1 : rtab .any (opsOf Try.f18 1) = impl_num_impl_fieldP_root.T1 := by kernel_rfl
theorem impl_num_impl_fieldP_root.bits1 : waitsOk impl_num_impl_fieldP_root.T1.2 impl_num_impl_fieldP_root.B1 = true := by kernel_rfl
def impl_num_impl_fieldP_root.T4 : Bool × List (List Nat × List Nat) := (true, [([], []), ([], []), ([], []), ([1, 2], [1, 2]), ([], []), ([3, 4], [3, 4]), ([0, 3, 0], [0]), ([5, 6, 0, 1, 2, 3, 4, 5, 6], [5])])
def impl_num_impl_fieldP_root.B4 : List Nat := [0, 0, 0, 6, 0, 30, 15, 127]
theorem impl_num_impl_fieldP_root.tab4 : rtab .any (opsOf Try.f18 4) = impl_num_impl_fieldP_root.T4 := by kernel_rfl
theorem impl_num_impl_fieldP_root.bits4 : waitsOk impl_num_impl_fieldP_root.T4.2 impl_num_impl_fieldP_root.B4 = true := by kernel_rfl
set_option maxHeartbeats 8000000 in
set_option maxRecDepth 100000 in
theorem impl_num_impl_fieldP_root.calls (k : Nat) (a0_0 : Int) (r1 : Int) (r2 : Bool) (w : World) (h : impl_num_impl_fieldP_root.f k a0_0 = some (r1, r2)) :
    Calls Try.prog 18 #[.agg #[.int .u64 a0_0]] w fun e w' => e = .returned (.tuple #[.agg #[.int .u64 r1], .bool r2]) ∧ Below w.heap.size w w' := by
  have hu34 := Try.underlying34
  have HB := Aside0.mk (Below.refl w.heap.size w)
  have H : ((impl_prime_impl_fieldP.f).bind fun t107 => ((impl_num_impl_fieldP_power.f a0_0 (IntKind.u64.wrap (Int.tdiv (IntKind.u64.wrap (t107 + 1)) 4))).bind fun t108 => (if (Int.tmod t108 2) = 1 then ((impl_num_impl_fieldP_negative.f t108).bind fun t110 => ((impl_num_impl_fieldP_times.f k t110 t110).bind fun t111 => (some (t110, (t111 == a0_0))))) else ((impl_num_impl_fieldP_times.f k t108 t108).bind fun t112 => (some (t108, (t112 == a0_0))))))) = some (r1, r2) := h
  clear h
  replace H := Option.bind_eq_some_iff.mp H
  obtain ⟨t107, A20, H⟩ := H
  replace H : ((impl_num_impl_fieldP_power.f a0_0 (IntKind.u64.wrap (Int.tdiv (IntKind.u64.wrap (t107 + 1)) 4))).bind fun t108 => (if (Int.tmod t108 2) = 1 then ((impl_num_impl_fieldP_negative.f t108).bind fun t110 => ((impl_num_impl_fieldP_times.f k t110 t110).bind fun t111 => (some (t110, (t111 == a0_0))))) else ((impl_num_impl_fieldP_times.f k t108 t108).bind fun t112 => (some (t108, (t112 == a0_0)))))) = some (r1, r2) := H
  have A2 := Aside0.mk A20
  clear A20
  replace H := Option.bind_eq_some_iff.mp H
  obtain ⟨t108, A30, H⟩ := H
  replace H : (if (Int.tmod t108 2) = 1 then ((impl_num_impl_fieldP_negative.f t108).bind fun t110 => ((impl_num_impl_fieldP_times.f k t110 t110).bind fun t111 => (some (t110, (t111 == a0_0))))) else ((impl_num_impl_fieldP_times.f k t108 t108).bind fun t112 => (some (t108, (t112 == a0_0))))) = some (r1, r2) := H
  have A3 := Aside0.mk A30
  clear A30
  by_cases c4 : (Int.tmod t108 2) = 1
  · rw [if_pos c4] at H
    have c4b0 : ((Int.tmod t108 2) == 1) = true := beq_iff_eq.mpr c4
    have c4b1 : ((Int.tmod t108 2) != 1) = false := bne_eq_false_iff_eq.mpr c4
    clear c4
    replace H := Option.bind_eq_some_iff.mp H
    obtain ⟨t110, A50, H⟩ := H
    replace H : ((impl_num_impl_fieldP_times.f k t110 t110).bind fun t111 => (some (t110, (t111 == a0_0)))) = some (r1, r2) := H
    have A5 := Aside0.mk A50
    clear A50
    replace H := Option.bind_eq_some_iff.mp H
    obtain ⟨t111, A60, H⟩ := H
    replace H : (some (t110, (t111 == a0_0))) = some (r1, r2) := H
    have A6 := Aside0.mk A60
    clear A60
    simp only [Option.some.injEq, Prod.mk.injEq] at H
    obtain ⟨rfl, rfl⟩ := H
    go_enter Try.func18, Try.ntmps18
    try go_wp2_with (first | ((with_reducible refine gate_dst (N := 1) rfl ?_); refine box_event ?hg (N := 1) ?hd (cs := #[.int .u64 a0_0]) (t := 34) ?hr ?_; (case hd => rfl); (case hg => rfl); (case hr => first | (go_simp; done) | (go_simp; rfl)); intro gb105 hg w7 hbox hb; have n0_ := Aside0.mk (below_step (by repeat (first | (with_reducible first | exact HB.out | apply below_alloc | apply pw_below_drewN | apply below_drew1) | exact HB.out)) hb); have n1_ := Aside0.mk (hbox); have n2_ := Aside0.mk ((by rw [hg]; exact (below_size (by repeat (first | (with_reducible first | exact HB.out | apply below_alloc | apply pw_below_drewN | apply below_drew1) | exact HB.out))) : w.heap.size ≤ gb105)); have n3_ := Aside0.mk ((by rw [hg]; exact (below_size (by repeat (first | (with_reducible first | exact HB.out | apply below_alloc | apply pw_below_drewN | apply below_drew1) | exact HB.out))) : w.heap.size ≤ gb105)); clear HB; have HB := n0_; have BK105 := n1_; have GW105 := n2_; have GE105 := n3_; clear n0_ n1_ n2_ n3_; clear hb hbox hg) | ((with_reducible refine gate_dst (N := 2) rfl ?_); refine box_event ?hg (N := 2) ?hd (cs := #[.int .u64 0]) (t := 34) ?hr ?_; (case hd => rfl); (case hg => rfl); (case hr => first | (go_simp; done) | (go_simp; rfl)); intro gb106 hg w8 hbox hb; have n0_ := Aside0.mk (blk_below (g := gb105) (o := .cells #[.int .u64 a0_0] 34 (0, 0)) (by (with_reducible repeat (first | refine blk_drewN ?_ _ | refine blk_drew ?_ | refine blk_alloc ?_ _)); exact BK105.out) hb); have n1_ := Aside0.mk (below_step (by repeat (first | (with_reducible first | exact HB.out | apply below_alloc | apply pw_below_drewN | apply below_drew1 | refine below_set ?_ GE105.out) | exact HB.out)) hb); have n2_ := Aside0.mk (hbox); have n3_ := Aside0.mk ((by rw [hg]; exact (below_size (by repeat (first | (with_reducible first | exact HB.out | apply below_alloc | apply pw_below_drewN | apply below_drew1 | refine below_set ?_ GE105.out) | exact HB.out))) : w.heap.size ≤ gb106)); have n4_ := Aside0.mk ((by rw [hg]; exact (below_size (by repeat (first | (with_reducible first | exact HB.out | apply below_alloc | apply pw_below_drewN | apply below_drew1 | refine below_set ?_ GE105.out) | exact HB.out))) : w.heap.size ≤ gb106)); have n5_ := Aside0.mk ((by rw [hg]; exact Nat.ne_of_lt (blk_lt (g := gb105) (o := .cells #[.int .u64 a0_0] 34 (0, 0)) (by (with_reducible repeat (first | refine blk_drewN ?_ _ | refine blk_drew ?_ | refine blk_alloc ?_ _)); exact BK105.out)) : gb105 ≠ gb106)); have n6_ := Aside0.mk ((by rw [hg]; exact Nat.ne_of_gt (blk_lt (g := gb105) (o := .cells #[.int .u64 a0_0] 34 (0, 0)) (by (with_reducible repeat (first | refine blk_drewN ?_ _ | refine blk_drew ?_ | refine blk_alloc ?_ _)); exact BK105.out)) : gb106 ≠ gb105)); clear BK105; clear HB; have BK105 := n0_; have HB := n1_; have BK106 := n2_; have GW106 := n3_; have GE106 := n4_; have NB105_106 := n5_; have NB106_105 := n6_; clear n0_ n1_ n2_ n3_ n4_ n5_ n6_; clear hb hbox hg))
    have n0_ := Aside0.mk (blk_drew BK105.out)
    have n1_ := Aside0.mk (blk_drew BK106.out)
    have n2_ := Aside0.mk (below_drew1 HB.out)
    clear BK105
    clear BK106
    clear HB
    have BK105 := n0_
    have BK106 := n1_
    have HB := n2_
    clear n0_ n1_ n2_
    refine start_ (n := 7) (S := fun w' => True) (ds := []) #[false, false, false, false, false, false, false] (by kernel_rfl) rfl rfl trivial (fun hHeld => ?_); refine with_tabW impl_num_impl_fieldP_root.tab1 impl_num_impl_fieldP_root.bits1 (fun HT_ HW_ => ?_)
    generalize w8.drew = w9 at BK105 BK106 HB hHeld ⊢
    refine inv_at [0, 1, 2, 3, 4, 5, 6] (fun a0_ b a w' => ∃ (gb109 : Nat) (m5_ : Value), a = putSel a0_ b [(0, 5, .agg #[.int .u64 a0_0]), (1, 6, .int .u64 t107), (2, 7, .int .u64 (IntKind.u64.wrap (t107 + 1))), (3, 8, .int .u64 (IntKind.u64.wrap (Int.tdiv (IntKind.u64.wrap (t107 + 1)) 4))), (4, 9, .agg #[.int .u64 t108]), (5, 4, m5_)] ∧ (w'.heap[gb105]? = some (.cells #[.int .u64 a0_0] 34 (0, 0))) ∧ (w'.heap[gb106]? = some (.cells #[.int .u64 0] 34 (0, 0))) ∧ (Below w.heap.size w w') ∧ (b 5 = true → b 6 = false → w'.heap[gb109]? = some (.cells #[.int .u64 0] 34 (0, 0))) ∧ (b 5 = true → w.heap.size ≤ gb109) ∧ (b 5 = true → w.heap.size ≤ gb109) ∧ (b 5 = true → gb105 ≠ gb109) ∧ (b 5 = true → gb109 ≠ gb105) ∧ (b 5 = true → gb106 ≠ gb109) ∧ (b 5 = true → gb109 ≠ gb106) ∧ (b 6 = true → w'.heap[gb109]? = some (.cells #[.int .u64 t108] 34 (0, 0))) ∧ (b 5 = true → (m5_ : Value) = .pointer (some ⟨gb109, 0, none⟩))) HT_.out HW_.out (by kernel_rfl) (by kernel_rfl) ?_ ?_ ?_
    · exact ⟨0, .bool false, by simp only [putSel, Bool.false_eq_true, if_false], BK105.out, BK106.out, HB.out, fun h_ => absurd h_ (by decide), fun h_ => absurd h_ (by decide), fun h_ => absurd h_ (by decide), fun h_ => absurd h_ (by decide), fun h_ => absurd h_ (by decide), fun h_ => absurd h_ (by decide), fun h_ => absurd h_ (by decide), fun h_ => absurd h_ (by decide), fun h_ => absurd h_ (by decide)⟩
    · skip
      clear BK105 BK106 HB
      refine steps_cons ?_ ?_
      · rintro b a w' ⟨gb109, m5_, ha, Q_BK105, Q_BK106, Q_HB, Q_BK109, Q_GW109, Q_GE109, Q_NB105_109, Q_NB109_105, Q_NB106_109, Q_NB109_106, Q_BK109_e6, Q_X5_⟩ hb_ hon hoff
        refine ⟨_, rfl, fun K hK => ?_⟩
        have e1 : a.tmps[1]? = some (.pointer (some ⟨gb105, 0, none⟩)) := by rw [ha]; exact (putSel_off rfl).trans rfl
        replace ha := Aside0.mk ha
        have BK105 := Aside0.mk Q_BK105
        have BK106 := Aside0.mk Q_BK106
        have HB := Aside0.mk Q_HB
        have hc0_ : w'.cell? ⟨gb105, 0, none⟩ = some (.int .u64 a0_0) := (blk_cell BK105.out 0).trans rfl
        refine value_ (w1 := w') (v := .agg #[.int .u64 a0_0]) (by rfl) rfl ?_ ?_
        · go_simp
          (try simp only [i64_w])
          try rfl
        refine hK.out _ _ ⟨gb109, m5_, (by rw [ha.out]; exact putSel_upk 0 hb_ rfl rfl rfl), Q_BK105, Q_BK106, Q_HB, Q_BK109, Q_GW109, Q_GE109, Q_NB105_109, Q_NB109_105, Q_NB106_109, Q_NB109_106, fun h0_ => absurd ((hoff 6 (by kernel_rfl)).symm.trans h0_) (by decide), Q_X5_⟩
      refine steps_cons ?_ ?_
      · rintro b a w' ⟨gb109, m5_, ha, Q_BK105, Q_BK106, Q_HB, Q_BK109, Q_GW109, Q_GE109, Q_NB105_109, Q_NB109_105, Q_NB106_109, Q_NB109_106, Q_BK109_e6, Q_X5_⟩ hb_ hon hoff
        refine ⟨_, rfl, fun K hK => ?_⟩
        replace ha := Aside0.mk ha
        have BK105 := Aside0.mk Q_BK105
        have BK106 := Aside0.mk Q_BK106
        have HB := Aside0.mk Q_HB
        refine goes_ Try.func21 (by kernel_rfl) rfl #[] (by rfl) rfl rfl (by first | (simp only [List.map_toArray, List.map_cons, List.map_nil, Act.eval, Array.getD_eq_getD_getElem?, Option.getD_some]; done) | (simp only [List.map_toArray, List.map_cons, List.map_nil, Act.eval, Array.getD_eq_getD_getElem?, Option.getD_some]; rfl)) ?_
        with_reducible refine (impl_prime_impl_fieldP.calls  t107 _ A2.out).mono ?_
        rintro e w10 ⟨rfl, hb⟩
        refine ⟨_, rfl, ?_⟩
        have n0_ := Aside0.mk (blk_below (g := gb105) (o := .cells #[.int .u64 a0_0] 34 (0, 0)) (by (with_reducible repeat (first | refine blk_drewN ?_ _ | refine blk_drew ?_ | refine blk_alloc ?_ _)); exact BK105.out) hb)
        have n1_ := Aside0.mk (blk_below (g := gb106) (o := .cells #[.int .u64 0] 34 (0, 0)) (by (with_reducible repeat (first | refine blk_drewN ?_ _ | refine blk_drew ?_ | refine blk_alloc ?_ _)); exact BK106.out) hb)
        have n2_ := Aside0.mk (below_step (by repeat (first | (with_reducible first | exact HB.out | apply below_alloc | apply pw_below_drewN | apply below_drew1 | refine below_set ?_ GE105.out | refine below_set ?_ GE106.out) | exact HB.out)) hb)
        have z_BK109 := fun (h0_ : b 5 = true) (h1_ : b 6 = false) => (show w10.heap[gb109]? = some (.cells #[.int .u64 0] 34 (0, 0)) from by first | exact (blk_below (g := gb109) (o := .cells #[.int .u64 0] 34 (0, 0)) (by (with_reducible repeat (first | refine blk_drewN ?_ _ | refine blk_drew ?_ | refine blk_alloc ?_ _)); exact (Q_BK109 h0_ h1_)) hb))
        clear BK105
        clear BK106
        clear HB
        have BK105 := n0_
        have BK106 := n1_
        have HB := n2_
        clear n0_ n1_ n2_
        (try clear hb)
        (try clear hb2)
        (try clear hk)
        (try clear hi)
        refine hK.out _ _ ⟨gb109, m5_, (by rw [ha.out]; exact putSel_upk 1 hb_ rfl rfl rfl), (by (with_reducible repeat (first | refine blk_drewN ?_ _ | refine blk_drew ?_ | refine blk_alloc ?_ _)); exact BK105.out), (by (with_reducible repeat (first | refine blk_drewN ?_ _ | refine blk_drew ?_ | refine blk_alloc ?_ _)); exact BK106.out), (by repeat (first | (with_reducible first | exact HB.out | apply below_alloc | apply pw_below_drewN | apply below_drew1 | refine below_set ?_ GE105.out | refine below_set ?_ GE106.out) | exact HB.out)), z_BK109, Q_GW109, Q_GE109, Q_NB105_109, Q_NB109_105, Q_NB106_109, Q_NB109_106, fun h0_ => absurd ((hoff 6 (by kernel_rfl)).symm.trans h0_) (by decide), Q_X5_⟩
      refine steps_cons ?_ ?_
      · rintro b a w' ⟨gb109, m5_, ha, Q_BK105, Q_BK106, Q_HB, Q_BK109, Q_GW109, Q_GE109, Q_NB105_109, Q_NB109_105, Q_NB106_109, Q_NB109_106, Q_BK109_e6, Q_X5_⟩ hb_ hon hoff
        refine ⟨_, rfl, fun K hK => ?_⟩
        have e6 : a.tmps[6]? = some (.int .u64 t107) := by rw [ha]; exact putSel_on (e := (1, 6, .int .u64 t107)) 1 rfl rfl (hon 1 (by kernel_rfl)) rfl
        replace ha := Aside0.mk ha
        have BK105 := Aside0.mk Q_BK105
        have BK106 := Aside0.mk Q_BK106
        have HB := Aside0.mk Q_HB
        refine value_ (w1 := w') (v := .int .u64 (IntKind.u64.wrap (t107 + 1))) (by rfl) rfl ?_ ?_
        · go_simp
          (try simp only [i64_w])
          try rfl
        refine hK.out _ _ ⟨gb109, m5_, (by rw [ha.out]; exact putSel_upk 2 hb_ rfl rfl rfl), Q_BK105, Q_BK106, Q_HB, Q_BK109, Q_GW109, Q_GE109, Q_NB105_109, Q_NB109_105, Q_NB106_109, Q_NB109_106, fun h0_ => absurd ((hoff 6 (by kernel_rfl)).symm.trans h0_) (by decide), Q_X5_⟩
      refine steps_cons ?_ ?_
      · rintro b a w' ⟨gb109, m5_, ha, Q_BK105, Q_BK106, Q_HB, Q_BK109, Q_GW109, Q_GE109, Q_NB105_109, Q_NB109_105, Q_NB106_109, Q_NB109_106, Q_BK109_e6, Q_X5_⟩ hb_ hon hoff
        refine ⟨_, rfl, fun K hK => ?_⟩
        have e7 : a.tmps[7]? = some (.int .u64 (IntKind.u64.wrap (t107 + 1))) := by rw [ha]; exact putSel_on (e := (2, 7, .int .u64 (IntKind.u64.wrap (t107 + 1)))) 2 rfl rfl (hon 2 (by kernel_rfl)) rfl
        replace ha := Aside0.mk ha
        have BK105 := Aside0.mk Q_BK105
        have BK106 := Aside0.mk Q_BK106
        have HB := Aside0.mk Q_HB
        refine value_ (w1 := w') (v := .int .u64 (IntKind.u64.wrap (Int.tdiv (IntKind.u64.wrap (t107 + 1)) 4))) (by rfl) rfl ?_ ?_
        · go_simp
          (try simp only [i64_w])
          try rfl
        refine hK.out _ _ ⟨gb109, m5_, (by rw [ha.out]; exact putSel_upk 3 hb_ rfl rfl rfl), Q_BK105, Q_BK106, Q_HB, Q_BK109, Q_GW109, Q_GE109, Q_NB105_109, Q_NB109_105, Q_NB106_109, Q_NB109_106, fun h0_ => absurd ((hoff 6 (by kernel_rfl)).symm.trans h0_) (by decide), Q_X5_⟩
      refine steps_cons ?_ ?_
      · rintro b a w' ⟨gb109, m5_, ha, Q_BK105, Q_BK106, Q_HB, Q_BK109, Q_GW109, Q_GE109, Q_NB105_109, Q_NB109_105, Q_NB106_109, Q_NB109_106, Q_BK109_e6, Q_X5_⟩ hb_ hon hoff
        refine ⟨_, rfl, fun K hK => ?_⟩
        have e5 : a.tmps[5]? = some (.agg #[.int .u64 a0_0]) := by rw [ha]; exact putSel_on (e := (0, 5, .agg #[.int .u64 a0_0])) 0 rfl rfl (hon 0 (by kernel_rfl)) rfl
        have e8 : a.tmps[8]? = some (.int .u64 (IntKind.u64.wrap (Int.tdiv (IntKind.u64.wrap (t107 + 1)) 4))) := by rw [ha]; exact putSel_on (e := (3, 8, .int .u64 (IntKind.u64.wrap (Int.tdiv (IntKind.u64.wrap (t107 + 1)) 4)))) 3 rfl rfl (hon 3 (by kernel_rfl)) rfl
        replace ha := Aside0.mk ha
        have BK105 := Aside0.mk Q_BK105
        have BK106 := Aside0.mk Q_BK106
        have HB := Aside0.mk Q_HB
        refine goes_ Try.func23 (by kernel_rfl) rfl #[.agg #[.int .u64 a0_0], .int .u64 (IntKind.u64.wrap (Int.tdiv (IntKind.u64.wrap (t107 + 1)) 4))] (by rfl) rfl rfl (by first | (simp only [List.map_toArray, List.map_cons, List.map_nil, Act.eval, Array.getD_eq_getD_getElem?, Option.getD_some, e5, e8]; done) | (simp only [List.map_toArray, List.map_cons, List.map_nil, Act.eval, Array.getD_eq_getD_getElem?, Option.getD_some, e5, e8]; rfl)) ?_
        with_reducible refine (impl_num_impl_fieldP_power.calls a0_0 (IntKind.u64.wrap (Int.tdiv (IntKind.u64.wrap (t107 + 1)) 4)) t108 _ A3.out).mono ?_
        rintro e w12 ⟨rfl, hb⟩
        refine ⟨_, rfl, ?_⟩
        have n0_ := Aside0.mk (blk_below (g := gb105) (o := .cells #[.int .u64 a0_0] 34 (0, 0)) (by (with_reducible repeat (first | refine blk_drewN ?_ _ | refine blk_drew ?_ | refine blk_alloc ?_ _)); exact BK105.out) hb)
        have n1_ := Aside0.mk (blk_below (g := gb106) (o := .cells #[.int .u64 0] 34 (0, 0)) (by (with_reducible repeat (first | refine blk_drewN ?_ _ | refine blk_drew ?_ | refine blk_alloc ?_ _)); exact BK106.out) hb)
        have n2_ := Aside0.mk (below_step (by repeat (first | (with_reducible first | exact HB.out | apply below_alloc | apply pw_below_drewN | apply below_drew1 | refine below_set ?_ GE105.out | refine below_set ?_ GE106.out) | exact HB.out)) hb)
        have z_BK109 := fun (h0_ : b 5 = true) (h1_ : b 6 = false) => (show w12.heap[gb109]? = some (.cells #[.int .u64 0] 34 (0, 0)) from by first | exact (blk_below (g := gb109) (o := .cells #[.int .u64 0] 34 (0, 0)) (by (with_reducible repeat (first | refine blk_drewN ?_ _ | refine blk_drew ?_ | refine blk_alloc ?_ _)); exact (Q_BK109 h0_ h1_)) hb))
        clear BK105
        clear BK106
        clear HB
        have BK105 := n0_
        have BK106 := n1_
        have HB := n2_
        clear n0_ n1_ n2_
        (try clear hb)
        (try clear hb2)
        (try clear hk)
        (try clear hi)
        refine hK.out _ _ ⟨gb109, m5_, (by rw [ha.out]; exact putSel_upk 4 hb_ rfl rfl rfl), (by (with_reducible repeat (first | refine blk_drewN ?_ _ | refine blk_drew ?_ | refine blk_alloc ?_ _)); exact BK105.out), (by (with_reducible repeat (first | refine blk_drewN ?_ _ | refine blk_drew ?_ | refine blk_alloc ?_ _)); exact BK106.out), (by repeat (first | (with_reducible first | exact HB.out | apply below_alloc | apply pw_below_drewN | apply below_drew1 | refine below_set ?_ GE105.out | refine below_set ?_ GE106.out) | exact HB.out)), z_BK109, Q_GW109, Q_GE109, Q_NB105_109, Q_NB109_105, Q_NB106_109, Q_NB109_106, fun h0_ => absurd ((hoff 6 (by kernel_rfl)).symm.trans h0_) (by decide), Q_X5_⟩
      refine steps_cons ?_ ?_
      · rintro b a w' ⟨gb109, m5_, ha, Q_BK105, Q_BK106, Q_HB, Q_BK109, Q_GW109, Q_GE109, Q_NB105_109, Q_NB109_105, Q_NB106_109, Q_NB109_106, Q_BK109_e6, Q_X5_⟩ hb_ hon hoff
        refine ⟨_, rfl, fun K hK => ?_⟩
        replace ha := Aside0.mk ha
        have BK105 := Aside0.mk Q_BK105
        have BK106 := Aside0.mk Q_BK106
        have HB := Aside0.mk Q_HB
        refine box_step ?hg (N := 4) ?hd (cs := #[.int .u64 0]) (t := 34) ?hr ?_; (case hd => rfl); (case hg => rfl); (case hr => first | (go_simp; done) | (go_simp; rfl))
        intro gb109 hg w10 hbox hb
        have n0_ := Aside0.mk (blk_below (g := gb105) (o := .cells #[.int .u64 a0_0] 34 (0, 0)) (by (with_reducible repeat (first | refine blk_drewN ?_ _ | refine blk_drew ?_ | refine blk_alloc ?_ _)); exact BK105.out) hb)
        have n1_ := Aside0.mk (blk_below (g := gb106) (o := .cells #[.int .u64 0] 34 (0, 0)) (by (with_reducible repeat (first | refine blk_drewN ?_ _ | refine blk_drew ?_ | refine blk_alloc ?_ _)); exact BK106.out) hb)
        have n2_ := Aside0.mk (below_step (by repeat (first | (with_reducible first | exact HB.out | apply below_alloc | apply pw_below_drewN | apply below_drew1 | refine below_set ?_ GE105.out | refine below_set ?_ GE106.out) | exact HB.out)) hb)
        have n3_ := Aside0.mk (hbox)
        have n4_ := Aside0.mk ((by rw [hg]; exact (below_size (by repeat (first | (with_reducible first | exact HB.out | apply below_alloc | apply pw_below_drewN | apply below_drew1 | refine below_set ?_ GE105.out | refine below_set ?_ GE106.out) | exact HB.out))) : w.heap.size ≤ gb109))
        have n5_ := Aside0.mk ((by rw [hg]; exact (below_size (by repeat (first | (with_reducible first | exact HB.out | apply below_alloc | apply pw_below_drewN | apply below_drew1 | refine below_set ?_ GE105.out | refine below_set ?_ GE106.out) | exact HB.out))) : w.heap.size ≤ gb109))
        have n6_ := Aside0.mk ((by rw [hg]; exact Nat.ne_of_lt (blk_lt (g := gb105) (o := .cells #[.int .u64 a0_0] 34 (0, 0)) (by (with_reducible repeat (first | refine blk_drewN ?_ _ | refine blk_drew ?_ | refine blk_alloc ?_ _)); exact BK105.out)) : gb105 ≠ gb109))
        have n7_ := Aside0.mk ((by rw [hg]; exact Nat.ne_of_gt (blk_lt (g := gb105) (o := .cells #[.int .u64 a0_0] 34 (0, 0)) (by (with_reducible repeat (first | refine blk_drewN ?_ _ | refine blk_drew ?_ | refine blk_alloc ?_ _)); exact BK105.out)) : gb109 ≠ gb105))
        have n8_ := Aside0.mk ((by rw [hg]; exact Nat.ne_of_lt (blk_lt (g := gb106) (o := .cells #[.int .u64 0] 34 (0, 0)) (by (with_reducible repeat (first | refine blk_drewN ?_ _ | refine blk_drew ?_ | refine blk_alloc ?_ _)); exact BK106.out)) : gb106 ≠ gb109))
        have n9_ := Aside0.mk ((by rw [hg]; exact Nat.ne_of_gt (blk_lt (g := gb106) (o := .cells #[.int .u64 0] 34 (0, 0)) (by (with_reducible repeat (first | refine blk_drewN ?_ _ | refine blk_drew ?_ | refine blk_alloc ?_ _)); exact BK106.out)) : gb109 ≠ gb106))
        clear BK105
        clear BK106
        clear HB
        have BK105 := n0_
        have BK106 := n1_
        have HB := n2_
        have BK109 := n3_
        have GW109 := n4_
        have GE109 := n5_
        have NB105_109 := n6_
        have NB109_105 := n7_
        have NB106_109 := n8_
        have NB109_106 := n9_
        clear n0_ n1_ n2_ n3_ n4_ n5_ n6_ n7_ n8_ n9_
        clear hb hbox hg
        refine hK.out _ _ ⟨gb109, (.pointer (some ⟨gb109, 0, none⟩)), (by rw [ha.out]; exact putSel_upk 5 hb_ rfl rfl rfl), (by (with_reducible repeat (first | refine blk_drewN ?_ _ | refine blk_drew ?_ | refine blk_alloc ?_ _)); exact BK105.out), (by (with_reducible repeat (first | refine blk_drewN ?_ _ | refine blk_drew ?_ | refine blk_alloc ?_ _)); exact BK106.out), (by repeat (first | (with_reducible first | exact HB.out | apply below_alloc | apply pw_below_drewN | apply below_drew1 | refine below_set ?_ GE105.out | refine below_set ?_ GE106.out | refine below_set ?_ GE109.out) | exact HB.out)), fun _ _ => (by (with_reducible repeat (first | refine blk_drewN ?_ _ | refine blk_drew ?_ | refine blk_alloc ?_ _)); exact BK109.out), fun _ => GW109.out, fun _ => GE109.out, fun _ => NB105_109.out, fun _ => NB109_105.out, fun _ => NB106_109.out, fun _ => NB109_106.out, fun h0_ => absurd ((hoff 6 (by kernel_rfl)).symm.trans h0_) (by decide), fun _ => rfl⟩
      refine steps_cons ?_ ?_
      · rintro b a w' ⟨gb109, m5_, ha, Q_BK105, Q_BK106, Q_HB, Q_BK109, Q_GW109, Q_GE109, Q_NB105_109, Q_NB109_105, Q_NB106_109, Q_NB109_106, Q_BK109_e6, Q_X5_⟩ hb_ hon hoff
        refine ⟨_, rfl, fun K hK => ?_⟩
        have e4 : a.tmps[4]? = some (m5_) := by rw [ha]; exact putSel_on (e := (5, 4, m5_)) 5 rfl rfl (hon 5 (by kernel_rfl)) rfl
        rw [Q_X5_ (hon 5 (by kernel_rfl))] at e4
        have e9 : a.tmps[9]? = some (.agg #[.int .u64 t108]) := by rw [ha]; exact putSel_on (e := (4, 9, .agg #[.int .u64 t108])) 4 rfl rfl (hon 4 (by kernel_rfl)) rfl
        replace ha := Aside0.mk ha
        have BK105 := Aside0.mk Q_BK105
        have BK106 := Aside0.mk Q_BK106
        have HB := Aside0.mk Q_HB
        have BK109 := Aside0.mk (Q_BK109 (hon 5 (by kernel_rfl)) hb_)
        have GW109 := Aside0.mk (Q_GW109 (hon 5 (by kernel_rfl)))
        have GE109 := Aside0.mk (Q_GE109 (hon 5 (by kernel_rfl)))
        have NB105_109 := Aside0.mk (Q_NB105_109 (hon 5 (by kernel_rfl)))
        have NB109_105 := Aside0.mk (Q_NB109_105 (hon 5 (by kernel_rfl)))
        have NB106_109 := Aside0.mk (Q_NB106_109 (hon 5 (by kernel_rfl)))
        have NB109_106 := Aside0.mk (Q_NB109_106 (hon 5 (by kernel_rfl)))
        have hs14 : w'.cell? ⟨gb109, 0, none⟩ = some (.int .u64 0) := (blk_cell BK109.out 0).trans rfl
        have hfs14 := blk_frozen BK109.out 0
        have hns14_0 := NB105_109.out
        have hns14_1 := NB106_109.out
        have hms14_0 := NB109_105.out
        have hms14_1 := NB109_106.out
        refine skip_ (w1 := ?_) (by rfl) rfl ?_ ?_
        rotate_left
        · go_simp
          rfl
        refine hK.out _ _ ⟨gb109, m5_, (by rw [ha.out]; exact putSel_none (v := undef) rfl), (by (with_reducible repeat (first | refine blk_drewN ?_ _ | refine blk_drew ?_ | refine blk_alloc ?_ _)); refine blk_far ?_ NB105_109.out _; (with_reducible repeat (first | refine blk_drewN ?_ _ | refine blk_drew ?_ | refine blk_alloc ?_ _)); exact BK105.out), (by (with_reducible repeat (first | refine blk_drewN ?_ _ | refine blk_drew ?_ | refine blk_alloc ?_ _)); refine blk_far ?_ NB106_109.out _; (with_reducible repeat (first | refine blk_drewN ?_ _ | refine blk_drew ?_ | refine blk_alloc ?_ _)); exact BK106.out), (by repeat (first | (with_reducible first | exact HB.out | apply below_alloc | apply pw_below_drewN | apply below_drew1 | refine below_set ?_ GE105.out | refine below_set ?_ GE106.out | refine below_set ?_ GE109.out) | exact HB.out)), fun _ h1_ => absurd ((up_self b 6).symm.trans h1_) (by decide), fun _ => GW109.out, fun _ => GE109.out, fun _ => NB105_109.out, fun _ => NB109_105.out, fun _ => NB106_109.out, fun _ => NB109_106.out, fun _ => (by (with_reducible repeat (first | refine blk_drewN ?_ _ | refine blk_drew ?_ | refine blk_alloc ?_ _)); refine blk_put (cs := #[.int .u64 0]) ?_ 0 _ rfl; (with_reducible repeat (first | refine blk_drewN ?_ _ | refine blk_drew ?_ | refine blk_alloc ?_ _)); exact BK109.out), Q_X5_⟩
      exact steps_nil
    rintro b a w14 hall ⟨gb109, m5_, ha, Q_BK105, Q_BK106, Q_HB, Q_BK109, Q_GW109, Q_GE109, Q_NB105_109, Q_NB109_105, Q_NB106_109, Q_NB109_106, Q_BK109_e6, Q_X5_⟩
    clear BK105 BK106 HB
    have hb0_ := hall 0 (by kernel_rfl)
    have hb1_ := hall 1 (by kernel_rfl)
    have hb2_ := hall 2 (by kernel_rfl)
    have hb3_ := hall 3 (by kernel_rfl)
    have hb4_ := hall 4 (by kernel_rfl)
    have hb5_ := hall 5 (by kernel_rfl)
    have hb6_ := hall 6 (by kernel_rfl)
    subst ha
    obtain rfl := Q_X5_ hb5_
    simp only [putSel, hb0_, hb1_, hb2_, hb3_, hb4_, hb5_, hb6_, if_true, Act.put, List.setIfInBounds_toArray, List.set_cons_zero, List.set_cons_succ]
    have BK105 := Aside0.mk Q_BK105
    clear Q_BK105
    have BK106 := Aside0.mk Q_BK106
    clear Q_BK106
    have HB := Aside0.mk Q_HB
    clear Q_HB
    clear Q_BK109
    have GW109 := Aside0.mk (Q_GW109 hb5_)
    clear Q_GW109
    have GE109 := Aside0.mk (Q_GE109 hb5_)
    clear Q_GE109
    have NB105_109 := Aside0.mk (Q_NB105_109 hb5_)
    clear Q_NB105_109
    have NB109_105 := Aside0.mk (Q_NB109_105 hb5_)
    clear Q_NB109_105
    have NB106_109 := Aside0.mk (Q_NB106_109 hb5_)
    clear Q_NB106_109
    have NB109_106 := Aside0.mk (Q_NB109_106 hb5_)
    clear Q_NB109_106
    have BK109 := Aside0.mk (Q_BK109_e6 hb6_)
    clear Q_BK109_e6
    clear hall hb0_ hb1_ hb2_ hb3_ hb4_ hb5_ hb6_
    have hnb15 := NB109_105.out
    have hnc15 := NB105_109.out
    have hnb16 := NB109_106.out
    have hnc16 := NB106_109.out
    have hcz17_0 : w14.cell? ⟨gb109, 0, none⟩ = some (.int .u64 t108) := (blk_cell BK109.out 0).trans rfl
    have hfz17_0 := blk_frozen BK109.out 0
    try go_wp2_with (first | ((with_reducible refine gate_callee (f := 15) rfl ?_); refine goesL_ (some 15) rfl rfl Try.func15 (by kernel_rfl) rfl #[.agg #[.int .u64 t108]] rfl (by (try simp only [List.map_toArray, List.map_cons, List.map_nil]); first | done | rfl | (simp only [List.length_drop, List.length_take]; rfl)) ?_; (with_reducible refine (impl_num_impl_fieldP_negative.calls t108 t110 _ A5.out).mono ?_); rintro e w18 ⟨rfl, hb⟩; refine ⟨_, rfl, ?_⟩; have n0_ := Aside0.mk (blk_below (g := gb105) (o := .cells #[.int .u64 a0_0] 34 (0, 0)) (by (with_reducible repeat (first | refine blk_drewN ?_ _ | refine blk_drew ?_ | refine blk_alloc ?_ _)); exact BK105.out) hb); have n1_ := Aside0.mk (blk_below (g := gb106) (o := .cells #[.int .u64 0] 34 (0, 0)) (by (with_reducible repeat (first | refine blk_drewN ?_ _ | refine blk_drew ?_ | refine blk_alloc ?_ _)); exact BK106.out) hb); have n2_ := Aside0.mk (blk_below (g := gb109) (o := .cells #[.int .u64 t108] 34 (0, 0)) (by (with_reducible repeat (first | refine blk_drewN ?_ _ | refine blk_drew ?_ | refine blk_alloc ?_ _)); exact BK109.out) hb); have n3_ := Aside0.mk (below_step (by repeat (first | (with_reducible first | exact HB.out | apply below_alloc | apply pw_below_drewN | apply below_drew1 | refine below_set ?_ GE105.out | refine below_set ?_ GE106.out | refine below_set ?_ GE109.out) | exact HB.out)) hb); clear BK105; clear BK106; clear BK109; clear HB; have BK105 := n0_; have BK106 := n1_; have BK109 := n2_; have HB := n3_; clear n0_ n1_ n2_ n3_; (try clear hb); (try clear hb2); (try clear hk); (try clear hi); have hcz19_0 : w18.cell? ⟨gb109, 0, none⟩ = some (.int .u64 t108) := (blk_cell BK109.out 0).trans rfl; have hfz19_0 := blk_frozen BK109.out 0))
    have n0_ : Aside0 ((w18.setCell ⟨gb109, 0, none⟩ (.int .u64 t110)).heap[gb105]? = some (.cells #[.int .u64 a0_0] 34 (0, 0))) := ⟨by (with_reducible repeat (first | refine blk_drewN ?_ _ | refine blk_drew ?_ | refine blk_alloc ?_ _)); refine blk_far ?_ NB105_109.out _; (with_reducible repeat (first | refine blk_drewN ?_ _ | refine blk_drew ?_ | refine blk_alloc ?_ _)); exact BK105.out⟩
    have n1_ : Aside0 ((w18.setCell ⟨gb109, 0, none⟩ (.int .u64 t110)).heap[gb106]? = some (.cells #[.int .u64 0] 34 (0, 0))) := ⟨by (with_reducible repeat (first | refine blk_drewN ?_ _ | refine blk_drew ?_ | refine blk_alloc ?_ _)); refine blk_far ?_ NB106_109.out _; (with_reducible repeat (first | refine blk_drewN ?_ _ | refine blk_drew ?_ | refine blk_alloc ?_ _)); exact BK106.out⟩
    have n2_ : Aside0 ((w18.setCell ⟨gb109, 0, none⟩ (.int .u64 t110)).heap[gb109]? = some (.cells #[.int .u64 t110] 34 (0, 0))) := ⟨by (with_reducible repeat (first | refine blk_drewN ?_ _ | refine blk_drew ?_ | refine blk_alloc ?_ _)); refine blk_put (cs := #[.int .u64 t108]) ?_ 0 _ rfl; (with_reducible repeat (first | refine blk_drewN ?_ _ | refine blk_drew ?_ | refine blk_alloc ?_ _)); exact BK109.out⟩
    have n3_ : Aside0 (Below w.heap.size w (w18.setCell ⟨gb109, 0, none⟩ (.int .u64 t110))) := ⟨by repeat (first | (with_reducible first | exact HB.out | apply below_alloc | apply pw_below_drewN | apply below_drew1 | refine below_set ?_ GE105.out | refine below_set ?_ GE106.out | refine below_set ?_ GE109.out) | exact HB.out)⟩
    (try clear BK105)
    (try clear BK106)
    (try clear BK109)
    (try clear HB)
    generalize (w18.setCell ⟨gb109, 0, none⟩ (.int .u64 t110)) = w20 at n0_ n1_ n2_ n3_ ⊢
    have BK105 := n0_
    have BK106 := n1_
    have BK109 := n2_
    have HB := n3_
    clear n0_ n1_ n2_ n3_
    have n0_ := Aside0.mk (blk_drew BK105.out)
    have n1_ := Aside0.mk (blk_drew BK106.out)
    have n2_ := Aside0.mk (blk_drew BK109.out)
    have n3_ := Aside0.mk (below_drew1 HB.out)
    clear BK105
    clear BK106
    clear BK109
    clear HB
    have BK105 := n0_
    have BK106 := n1_
    have BK109 := n2_
    have HB := n3_
    clear n0_ n1_ n2_ n3_
    refine start_ (n := 8) (S := fun w' => w'.cell? ⟨gb109, 0, none⟩ = some (.int .u64 t110) ∧ w'.cell? ⟨gb105, 0, none⟩ = some (.int .u64 a0_0)) (ds := []) #[false, false, false, false, false, false, false, false] (by kernel_rfl) rfl rfl ⟨(blk_cell BK109.out 0).trans rfl, (blk_cell BK105.out 0).trans rfl⟩ (fun hHeld => ?_); refine with_tabW impl_num_impl_fieldP_root.tab4 impl_num_impl_fieldP_root.bits4 (fun HT_ HW_ => ?_)
    generalize w20.drew = w21 at BK105 BK106 BK109 HB hHeld ⊢
    refine take_ (i := 0) (N := some 16) (v := ?_) (a' := ?_) #[true, false, false, false, false, false, false, false] rfl rfl (take_ofW HT_.out HW_.out (by kernel_rfl)) (fun _ _ _ h => h) (Or.inl ⟨by rfl, ?_⟩) hHeld ?_ ?_
    rotate_left
    · rintro w' ⟨s0, s1⟩
      go_simp
      with_reducible rfl
    rotate_left
    · simp only [Act.put, List.setIfInBounds_toArray, List.set_cons_zero, List.set_cons_succ, i64_w, i32_w]
      rfl
    refine take_ (i := 1) (N := some 17) (v := ?_) (a' := ?_) #[true, true, false, false, false, false, false, false] rfl rfl (take_ofW HT_.out HW_.out (by kernel_rfl)) (fun _ _ _ h => h) (Or.inl ⟨by rfl, ?_⟩) hHeld ?_ ?_
    rotate_left
    · rintro w' ⟨s0, s1⟩
      go_simp
      with_reducible rfl
    rotate_left
    · simp only [Act.put, List.setIfInBounds_toArray, List.set_cons_zero, List.set_cons_succ, i64_w, i32_w]
      rfl
    refine take_ (i := 2) (N := some 18) (v := ?_) (a' := ?_) #[true, true, true, false, false, false, false, false] rfl rfl (take_ofW HT_.out HW_.out (by kernel_rfl)) (fun _ _ _ h => h) (Or.inl ⟨by rfl, ?_⟩) hHeld ?_ ?_
    rotate_left
    · rintro w' ⟨s0, s1⟩
      go_simp
      with_reducible rfl
    rotate_left
    · simp only [Act.put, List.setIfInBounds_toArray, List.set_cons_zero, List.set_cons_succ, i64_w, i32_w]
      rfl
    refine take_ (i := 4) (N := some 20) (v := ?_) (a' := ?_) #[true, true, true, false, true, false, false, false] rfl rfl (take_ofW HT_.out HW_.out (by kernel_rfl)) (fun _ _ _ h => h) (Or.inl ⟨by rfl, ?_⟩) hHeld ?_ ?_
    rotate_left
    · rintro w' ⟨s0, s1⟩
      go_simp
      with_reducible rfl
    rotate_left
    · simp only [Act.put, List.setIfInBounds_toArray, List.set_cons_zero, List.set_cons_succ, i64_w, i32_w]
      rfl
    refine one_ (i := 3) (N := some 19) #[true, true, true, true, true, false, false, false] rfl rfl (one_of HT_.out (by kernel_rfl)) (by decide) (fun K hK => ?_)
    refine goes_ Try.func13 (by kernel_rfl) rfl #[.agg #[.int .u64 t110], .agg #[.int .u64 t110]] (by rfl) rfl rfl (by (try simp only [List.map_toArray, List.map_cons, List.map_nil]); first | done | rfl | (simp only [List.length_drop, List.length_take]; rfl)) ?_
    with_reducible refine (impl_num_impl_fieldP_times.calls k t110 t110 t111 _ A6.out).mono ?_
    rintro e w22 ⟨rfl, hb⟩
    refine ⟨_, rfl, ?_⟩
    have n0_ := Aside0.mk (blk_below (g := gb105) (o := .cells #[.int .u64 a0_0] 34 (0, 0)) (by (with_reducible repeat (first | refine blk_drewN ?_ _ | refine blk_drew ?_ | refine blk_alloc ?_ _)); exact BK105.out) hb)
    have n1_ := Aside0.mk (blk_below (g := gb106) (o := .cells #[.int .u64 0] 34 (0, 0)) (by (with_reducible repeat (first | refine blk_drewN ?_ _ | refine blk_drew ?_ | refine blk_alloc ?_ _)); exact BK106.out) hb)
    have n2_ := Aside0.mk (blk_below (g := gb109) (o := .cells #[.int .u64 t110] 34 (0, 0)) (by (with_reducible repeat (first | refine blk_drewN ?_ _ | refine blk_drew ?_ | refine blk_alloc ?_ _)); exact BK109.out) hb)
    have n3_ := Aside0.mk (below_step (by repeat (first | (with_reducible first | exact HB.out | apply below_alloc | apply pw_below_drewN | apply below_drew1 | refine below_set ?_ GE105.out | refine below_set ?_ GE106.out | refine below_set ?_ GE109.out) | exact HB.out)) hb)
    clear BK105
    clear BK106
    clear BK109
    clear HB
    have BK105 := n0_
    have BK106 := n1_
    have BK109 := n2_
    have HB := n3_
    clear n0_ n1_ n2_ n3_
    (try clear hb)
    (try clear hb2)
    (try clear hk)
    (try clear hi)
    refine hK.out _ _ ⟨(blk_cell BK109.out 0).trans rfl, (blk_cell BK105.out 0).trans rfl⟩ (fun hHeld => ?_)
    clear hK K
    refine norm_ (a' := ?_) ?_ ?_
    rotate_left
    · show Act.put _ (some 19) _ = _
      simp only [Act.put, List.setIfInBounds_toArray, List.set_cons_zero, List.set_cons_succ, i64_w, i32_w]
      rfl
    refine pure_ (i := 5) (N := some 21) (v := ?_) (a' := ?_) #[true, true, true, true, true, true, false, false] rfl rfl (any_of HT_.out (by kernel_rfl)) (fun _ _ _ h => h) (Or.inl ⟨by rfl, ?_⟩) ?_ ?_
    rotate_left
    · intro w'
      go_simp
      with_reducible rfl
    rotate_left
    · simp only [Act.put, List.setIfInBounds_toArray, List.set_cons_zero, List.set_cons_succ, i64_w, i32_w]
      rfl
    refine one_ (i := 6) (N := none) #[true, true, true, true, true, true, true, false] rfl rfl (one_of HT_.out (by kernel_rfl)) (by decide) (fun K hK => ?_)
    have hs23 : w22.cell? ⟨gb106, 0, none⟩ = some (.int .u64 0) := (blk_cell BK106.out 0).trans rfl
    have hfs23 := blk_frozen BK106.out 0
    have hns23_0 := NB105_106.out
    have hns23_2 := NB109_106.out
    have hms23_0 := NB106_105.out
    have hms23_2 := NB106_109.out
    refine skip_ (w1 := ?_) (by rfl) rfl ?_ ?_
    rotate_left
    · go_simp
      rfl
    refine hK.out _ _ ⟨((cell_far (p := ⟨gb106, _, none⟩) NB109_106.out _).trans (hHeld.1)), ((cell_far (p := ⟨gb106, _, none⟩) NB105_106.out _).trans (hHeld.2))⟩ (fun hHeld => ?_)
    clear hK K
    refine pure_ (i := 7) (N := some 3) (v := ?_) (a' := ?_) #[true, true, true, true, true, true, true, true] rfl rfl (any_of HT_.out (by kernel_rfl)) (fun _ _ _ h => h) (Or.inl ⟨by rfl, ?_⟩) ?_ ?_
    rotate_left
    · intro w'
      go_simp
      with_reducible rfl
    rotate_left
    · simp only [Act.put, List.setIfInBounds_toArray, List.set_cons_zero, List.set_cons_succ, i64_w, i32_w]
      rfl
    refine done_ (done_of HT_.out (by kernel_rfl)) ?_
    try go_wp2
    refine bodyPost_ret (results_ct rfl _ _ gb106 34 #[.int .u64 t110] (0, 0) _ rfl (by (with_reducible repeat (first | refine blk_drewN ?_ _ | refine blk_drew ?_ | refine blk_alloc ?_ _)); refine blk_put (cs := #[.int .u64 0]) ?_ 0 _ rfl; (with_reducible repeat (first | refine blk_drewN ?_ _ | refine blk_drew ?_ | refine blk_alloc ?_ _)); exact BK106.out) Try.underlying34 rfl (by kernel_rfl)) rfl ?_
    exact ⟨by first | rfl | (simp [errW_none, errW_some] <;> rfl) | (simp [*, errW_none, errW_some] <;> rfl), by repeat (first | (with_reducible first | exact HB.out | apply below_alloc | apply pw_below_drewN | apply below_drew1 | refine below_set ?_ GE105.out | refine below_set ?_ GE106.out | refine below_set ?_ GE109.out) | exact HB.out)⟩
  · rw [if_neg c4] at H
    have c4b0 : ((Int.tmod t108 2) == 1) = false := beq_eq_false_iff_ne.mpr c4
    have c4b1 : ((Int.tmod t108 2) != 1) = true := bne_iff_ne.mpr c4
    replace H := Option.bind_eq_some_iff.mp H
    obtain ⟨t112, A240, H⟩ := H
    replace H : (some (t108, (t112 == a0_0))) = some (r1, r2) := H
    have A24 := Aside0.mk A240
    clear A240
    simp only [Option.some.injEq, Prod.mk.injEq] at H
    obtain ⟨rfl, rfl⟩ := H
    go_enter Try.func18, Try.ntmps18
    try go_wp2_with (first | ((with_reducible refine gate_dst (N := 1) rfl ?_); refine box_event ?hg (N := 1) ?hd (cs := #[.int .u64 a0_0]) (t := 34) ?hr ?_; (case hd => rfl); (case hg => rfl); (case hr => first | (go_simp; done) | (go_simp; rfl)); intro gb105 hg w25 hbox hb; have n0_ := Aside0.mk (below_step (by repeat (first | (with_reducible first | exact HB.out | apply below_alloc | apply pw_below_drewN | apply below_drew1) | exact HB.out)) hb); have n1_ := Aside0.mk (hbox); have n2_ := Aside0.mk ((by rw [hg]; exact (below_size (by repeat (first | (with_reducible first | exact HB.out | apply below_alloc | apply pw_below_drewN | apply below_drew1) | exact HB.out))) : w.heap.size ≤ gb105)); have n3_ := Aside0.mk ((by rw [hg]; exact (below_size (by repeat (first | (with_reducible first | exact HB.out | apply below_alloc | apply pw_below_drewN | apply below_drew1) | exact HB.out))) : w.heap.size ≤ gb105)); clear HB; have HB := n0_; have BK105 := n1_; have GW105 := n2_; have GE105 := n3_; clear n0_ n1_ n2_ n3_; clear hb hbox hg) | ((with_reducible refine gate_dst (N := 2) rfl ?_); refine box_event ?hg (N := 2) ?hd (cs := #[.int .u64 0]) (t := 34) ?hr ?_; (case hd => rfl); (case hg => rfl); (case hr => first | (go_simp; done) | (go_simp; rfl)); intro gb106 hg w26 hbox hb; have n0_ := Aside0.mk (blk_below (g := gb105) (o := .cells #[.int .u64 a0_0] 34 (0, 0)) (by (with_reducible repeat (first | refine blk_drewN ?_ _ | refine blk_drew ?_ | refine blk_alloc ?_ _)); exact BK105.out) hb); have n1_ := Aside0.mk (below_step (by repeat (first | (with_reducible first | exact HB.out | apply below_alloc | apply pw_below_drewN | apply below_drew1 | refine below_set ?_ GE105.out) | exact HB.out)) hb); have n2_ := Aside0.mk (hbox); have n3_ := Aside0.mk ((by rw [hg]; exact (below_size (by repeat (first | (with_reducible first | exact HB.out | apply below_alloc | apply pw_below_drewN | apply below_drew1 | refine below_set ?_ GE105.out) | exact HB.out))) : w.heap.size ≤ gb106)); have n4_ := Aside0.mk ((by rw [hg]; exact (below_size (by repeat (first | (with_reducible first | exact HB.out | apply below_alloc | apply pw_below_drewN | apply below_drew1 | refine below_set ?_ GE105.out) | exact HB.out))) : w.heap.size ≤ gb106)); have n5_ := Aside0.mk ((by rw [hg]; exact Nat.ne_of_lt (blk_lt (g := gb105) (o := .cells #[.int .u64 a0_0] 34 (0, 0)) (by (with_reducible repeat (first | refine blk_drewN ?_ _ | refine blk_drew ?_ | refine blk_alloc ?_ _)); exact BK105.out)) : gb105 ≠ gb106)); have n6_ := Aside0.mk ((by rw [hg]; exact Nat.ne_of_gt (blk_lt (g := gb105) (o := .cells #[.int .u64 a0_0] 34 (0, 0)) (by (with_reducible repeat (first | refine blk_drewN ?_ _ | refine blk_drew ?_ | refine blk_alloc ?_ _)); exact BK105.out)) : gb106 ≠ gb105)); clear BK105; clear HB; have BK105 := n0_; have HB := n1_; have BK106 := n2_; have GW106 := n3_; have GE106 := n4_; have NB105_106 := n5_; have NB106_105 := n6_; clear n0_ n1_ n2_ n3_ n4_ n5_ n6_; clear hb hbox hg))
    have n0_ := Aside0.mk (blk_drew BK105.out)
    have n1_ := Aside0.mk (blk_drew BK106.out)
    have n2_ := Aside0.mk (below_drew1 HB.out)
    clear BK105
    clear BK106
    clear HB
    have BK105 := n0_
    have BK106 := n1_
    have HB := n2_
    clear n0_ n1_ n2_
    refine start_ (n := 7) (S := fun w' => True) (ds := []) #[false, false, false, false, false, false, false] (by kernel_rfl) rfl rfl trivial (fun hHeld => ?_); refine with_tabW impl_num_impl_fieldP_root.tab1 impl_num_impl_fieldP_root.bits1 (fun HT_ HW_ => ?_)
    generalize w26.drew = w27 at BK105 BK106 HB hHeld ⊢
    refine inv_at [0, 1, 2, 3, 4, 5, 6] (fun a0_ b a w' => ∃ (gb109 : Nat) (m5_ : Value), a = putSel a0_ b [(0, 5, .agg #[.int .u64 a0_0]), (1, 6, .int .u64 t107), (2, 7, .int .u64 (IntKind.u64.wrap (t107 + 1))), (3, 8, .int .u64 (IntKind.u64.wrap (Int.tdiv (IntKind.u64.wrap (t107 + 1)) 4))), (4, 9, .agg #[.int .u64 t108]), (5, 4, m5_)] ∧ (w'.heap[gb105]? = some (.cells #[.int .u64 a0_0] 34 (0, 0))) ∧ (w'.heap[gb106]? = some (.cells #[.int .u64 0] 34 (0, 0))) ∧ (Below w.heap.size w w') ∧ (b 5 = true → b 6 = false → w'.heap[gb109]? = some (.cells #[.int .u64 0] 34 (0, 0))) ∧ (b 5 = true → w.heap.size ≤ gb109) ∧ (b 5 = true → w.heap.size ≤ gb109) ∧ (b 5 = true → gb105 ≠ gb109) ∧ (b 5 = true → gb109 ≠ gb105) ∧ (b 5 = true → gb106 ≠ gb109) ∧ (b 5 = true → gb109 ≠ gb106) ∧ (b 6 = true → w'.heap[gb109]? = some (.cells #[.int .u64 t108] 34 (0, 0))) ∧ (b 5 = true → (m5_ : Value) = .pointer (some ⟨gb109, 0, none⟩))) HT_.out HW_.out (by kernel_rfl) (by kernel_rfl) ?_ ?_ ?_
    · exact ⟨0, .bool false, by simp only [putSel, Bool.false_eq_true, if_false], BK105.out, BK106.out, HB.out, fun h_ => absurd h_ (by decide), fun h_ => absurd h_ (by decide), fun h_ => absurd h_ (by decide), fun h_ => absurd h_ (by decide), fun h_ => absurd h_ (by decide), fun h_ => absurd h_ (by decide), fun h_ => absurd h_ (by decide), fun h_ => absurd h_ (by decide), fun h_ => absurd h_ (by decide)⟩
    · skip
      clear BK105 BK106 HB
      refine steps_cons ?_ ?_
      · rintro b a w' ⟨gb109, m5_, ha, Q_BK105, Q_BK106, Q_HB, Q_BK109, Q_GW109, Q_GE109, Q_NB105_109, Q_NB109_105, Q_NB106_109, Q_NB109_106, Q_BK109_e6, Q_X5_⟩ hb_ hon hoff
        refine ⟨_, rfl, fun K hK => ?_⟩
        have e1 : a.tmps[1]? = some (.pointer (some ⟨gb105, 0, none⟩)) := by rw [ha]; exact (putSel_off rfl).trans rfl
        replace ha := Aside0.mk ha
        have BK105 := Aside0.mk Q_BK105
        have BK106 := Aside0.mk Q_BK106
        have HB := Aside0.mk Q_HB
        have hc0_ : w'.cell? ⟨gb105, 0, none⟩ = some (.int .u64 a0_0) := (blk_cell BK105.out 0).trans rfl
        refine value_ (w1 := w') (v := .agg #[.int .u64 a0_0]) (by rfl) rfl ?_ ?_
        · go_simp
          (try simp only [i64_w])
          try rfl
        refine hK.out _ _ ⟨gb109, m5_, (by rw [ha.out]; exact putSel_upk 0 hb_ rfl rfl rfl), Q_BK105, Q_BK106, Q_HB, Q_BK109, Q_GW109, Q_GE109, Q_NB105_109, Q_NB109_105, Q_NB106_109, Q_NB109_106, fun h0_ => absurd ((hoff 6 (by kernel_rfl)).symm.trans h0_) (by decide), Q_X5_⟩
      refine steps_cons ?_ ?_
      · rintro b a w' ⟨gb109, m5_, ha, Q_BK105, Q_BK106, Q_HB, Q_BK109, Q_GW109, Q_GE109, Q_NB105_109, Q_NB109_105, Q_NB106_109, Q_NB109_106, Q_BK109_e6, Q_X5_⟩ hb_ hon hoff
        refine ⟨_, rfl, fun K hK => ?_⟩
        replace ha := Aside0.mk ha
        have BK105 := Aside0.mk Q_BK105
        have BK106 := Aside0.mk Q_BK106
        have HB := Aside0.mk Q_HB
        refine goes_ Try.func21 (by kernel_rfl) rfl #[] (by rfl) rfl rfl (by first | (simp only [List.map_toArray, List.map_cons, List.map_nil, Act.eval, Array.getD_eq_getD_getElem?, Option.getD_some]; done) | (simp only [List.map_toArray, List.map_cons, List.map_nil, Act.eval, Array.getD_eq_getD_getElem?, Option.getD_some]; rfl)) ?_
        with_reducible refine (impl_prime_impl_fieldP.calls  t107 _ A2.out).mono ?_
        rintro e w28 ⟨rfl, hb⟩
        refine ⟨_, rfl, ?_⟩
        have n0_ := Aside0.mk (blk_below (g := gb105) (o := .cells #[.int .u64 a0_0] 34 (0, 0)) (by (with_reducible repeat (first | refine blk_drewN ?_ _ | refine blk_drew ?_ | refine blk_alloc ?_ _)); exact BK105.out) hb)
        have n1_ := Aside0.mk (blk_below (g := gb106) (o := .cells #[.int .u64 0] 34 (0, 0)) (by (with_reducible repeat (first | refine blk_drewN ?_ _ | refine blk_drew ?_ | refine blk_alloc ?_ _)); exact BK106.out) hb)
        have n2_ := Aside0.mk (below_step (by repeat (first | (with_reducible first | exact HB.out | apply below_alloc | apply pw_below_drewN | apply below_drew1 | refine below_set ?_ GE105.out | refine below_set ?_ GE106.out) | exact HB.out)) hb)
        have z_BK109 := fun (h0_ : b 5 = true) (h1_ : b 6 = false) => (show w28.heap[gb109]? = some (.cells #[.int .u64 0] 34 (0, 0)) from by first | exact (blk_below (g := gb109) (o := .cells #[.int .u64 0] 34 (0, 0)) (by (with_reducible repeat (first | refine blk_drewN ?_ _ | refine blk_drew ?_ | refine blk_alloc ?_ _)); exact (Q_BK109 h0_ h1_)) hb))
        clear BK105
        clear BK106
        clear HB
        have BK105 := n0_
        have BK106 := n1_
        have HB := n2_
        clear n0_ n1_ n2_
        (try clear hb)
        (try clear hb2)
        (try clear hk)
        (try clear hi)
        refine hK.out _ _ ⟨gb109, m5_, (by rw [ha.out]; exact putSel_upk 1 hb_ rfl rfl rfl), (by (with_reducible repeat (first | refine blk_drewN ?_ _ | refine blk_drew ?_ | refine blk_alloc ?_ _)); exact BK105.out), (by (with_reducible repeat (first | refine blk_drewN ?_ _ | refine blk_drew ?_ | refine blk_alloc ?_ _)); exact BK106.out), (by repeat (first | (with_reducible first | exact HB.out | apply below_alloc | apply pw_below_drewN | apply below_drew1 | refine below_set ?_ GE105.out | refine below_set ?_ GE106.out) | exact HB.out)), z_BK109, Q_GW109, Q_GE109, Q_NB105_109, Q_NB109_105, Q_NB106_109, Q_NB109_106, fun h0_ => absurd ((hoff 6 (by kernel_rfl)).symm.trans h0_) (by decide), Q_X5_⟩
      refine steps_cons ?_ ?_
      · rintro b a w' ⟨gb109, m5_, ha, Q_BK105, Q_BK106, Q_HB, Q_BK109, Q_GW109, Q_GE109, Q_NB105_109, Q_NB109_105, Q_NB106_109, Q_NB109_106, Q_BK109_e6, Q_X5_⟩ hb_ hon hoff
        refine ⟨_, rfl, fun K hK => ?_⟩
        have e6 : a.tmps[6]? = some (.int .u64 t107) := by rw [ha]; exact putSel_on (e := (1, 6, .int .u64 t107)) 1 rfl rfl (hon 1 (by kernel_rfl)) rfl
        replace ha := Aside0.mk ha
        have BK105 := Aside0.mk Q_BK105
        have BK106 := Aside0.mk Q_BK106
        have HB := Aside0.mk Q_HB
        refine value_ (w1 := w') (v := .int .u64 (IntKind.u64.wrap (t107 + 1))) (by rfl) rfl ?_ ?_
        · go_simp
          (try simp only [i64_w])
          try rfl
        refine hK.out _ _ ⟨gb109, m5_, (by rw [ha.out]; exact putSel_upk 2 hb_ rfl rfl rfl), Q_BK105, Q_BK106, Q_HB, Q_BK109, Q_GW109, Q_GE109, Q_NB105_109, Q_NB109_105, Q_NB106_109, Q_NB109_106, fun h0_ => absurd ((hoff 6 (by kernel_rfl)).symm.trans h0_) (by decide), Q_X5_⟩
      refine steps_cons ?_ ?_
      · rintro b a w' ⟨gb109, m5_, ha, Q_BK105, Q_BK106, Q_HB, Q_BK109, Q_GW109, Q_GE109, Q_NB105_109, Q_NB109_105, Q_NB106_109, Q_NB109_106, Q_BK109_e6, Q_X5_⟩ hb_ hon hoff
        refine ⟨_, rfl, fun K hK => ?_⟩
        have e7 : a.tmps[7]? = some (.int .u64 (IntKind.u64.wrap (t107 + 1))) := by rw [ha]; exact putSel_on (e := (2, 7, .int .u64 (IntKind.u64.wrap (t107 + 1)))) 2 rfl rfl (hon 2 (by kernel_rfl)) rfl
        replace ha := Aside0.mk ha
        have BK105 := Aside0.mk Q_BK105
        have BK106 := Aside0.mk Q_BK106
        have HB := Aside0.mk Q_HB
        refine value_ (w1 := w') (v := .int .u64 (IntKind.u64.wrap (Int.tdiv (IntKind.u64.wrap (t107 + 1)) 4))) (by rfl) rfl ?_ ?_
        · go_simp
          (try simp only [i64_w])
          try rfl
        refine hK.out _ _ ⟨gb109, m5_, (by rw [ha.out]; exact putSel_upk 3 hb_ rfl rfl rfl), Q_BK105, Q_BK106, Q_HB, Q_BK109, Q_GW109, Q_GE109, Q_NB105_109, Q_NB109_105, Q_NB106_109, Q_NB109_106, fun h0_ => absurd ((hoff 6 (by kernel_rfl)).symm.trans h0_) (by decide), Q_X5_⟩
      refine steps_cons ?_ ?_
      · rintro b a w' ⟨gb109, m5_, ha, Q_BK105, Q_BK106, Q_HB, Q_BK109, Q_GW109, Q_GE109, Q_NB105_109, Q_NB109_105, Q_NB106_109, Q_NB109_106, Q_BK109_e6, Q_X5_⟩ hb_ hon hoff
        refine ⟨_, rfl, fun K hK => ?_⟩
        have e5 : a.tmps[5]? = some (.agg #[.int .u64 a0_0]) := by rw [ha]; exact putSel_on (e := (0, 5, .agg #[.int .u64 a0_0])) 0 rfl rfl (hon 0 (by kernel_rfl)) rfl
        have e8 : a.tmps[8]? = some (.int .u64 (IntKind.u64.wrap (Int.tdiv (IntKind.u64.wrap (t107 + 1)) 4))) := by rw [ha]; exact putSel_on (e := (3, 8, .int .u64 (IntKind.u64.wrap (Int.tdiv (IntKind.u64.wrap (t107 + 1)) 4)))) 3 rfl rfl (hon 3 (by kernel_rfl)) rfl
        replace ha := Aside0.mk ha
        have BK105 := Aside0.mk Q_BK105
        have BK106 := Aside0.mk Q_BK106
        have HB := Aside0.mk Q_HB
        refine goes_ Try.func23 (by kernel_rfl) rfl #[.agg #[.int .u64 a0_0], .int .u64 (IntKind.u64.wrap (Int.tdiv (IntKind.u64.wrap (t107 + 1)) 4))] (by rfl) rfl rfl (by first | (simp only [List.map_toArray, List.map_cons, List.map_nil, Act.eval, Array.getD_eq_getD_getElem?, Option.getD_some, e5, e8]; done) | (simp only [List.map_toArray, List.map_cons, List.map_nil, Act.eval, Array.getD_eq_getD_getElem?, Option.getD_some, e5, e8]; rfl)) ?_
        with_reducible refine (impl_num_impl_fieldP_power.calls a0_0 (IntKind.u64.wrap (Int.tdiv (IntKind.u64.wrap (t107 + 1)) 4)) t108 _ A3.out).mono ?_
        rintro e w30 ⟨rfl, hb⟩
        refine ⟨_, rfl, ?_⟩
        have n0_ := Aside0.mk (blk_below (g := gb105) (o := .cells #[.int .u64 a0_0] 34 (0, 0)) (by (with_reducible repeat (first | refine blk_drewN ?_ _ | refine blk_drew ?_ | refine blk_alloc ?_ _)); exact BK105.out) hb)
        have n1_ := Aside0.mk (blk_below (g := gb106) (o := .cells #[.int .u64 0] 34 (0, 0)) (by (with_reducible repeat (first | refine blk_drewN ?_ _ | refine blk_drew ?_ | refine blk_alloc ?_ _)); exact BK106.out) hb)
        have n2_ := Aside0.mk (below_step (by repeat (first | (with_reducible first | exact HB.out | apply below_alloc | apply pw_below_drewN | apply below_drew1 | refine below_set ?_ GE105.out | refine below_set ?_ GE106.out) | exact HB.out)) hb)
        have z_BK109 := fun (h0_ : b 5 = true) (h1_ : b 6 = false) => (show w30.heap[gb109]? = some (.cells #[.int .u64 0] 34 (0, 0)) from by first | exact (blk_below (g := gb109) (o := .cells #[.int .u64 0] 34 (0, 0)) (by (with_reducible repeat (first | refine blk_drewN ?_ _ | refine blk_drew ?_ | refine blk_alloc ?_ _)); exact (Q_BK109 h0_ h1_)) hb))
        clear BK105
        clear BK106
        clear HB
        have BK105 := n0_
        have BK106 := n1_
        have HB := n2_
        clear n0_ n1_ n2_
        (try clear hb)
        (try clear hb2)
        (try clear hk)
        (try clear hi)
        refine hK.out _ _ ⟨gb109, m5_, (by rw [ha.out]; exact putSel_upk 4 hb_ rfl rfl rfl), (by (with_reducible repeat (first | refine blk_drewN ?_ _ | refine blk_drew ?_ | refine blk_alloc ?_ _)); exact BK105.out), (by (with_reducible repeat (first | refine blk_drewN ?_ _ | refine blk_drew ?_ | refine blk_alloc ?_ _)); exact BK106.out), (by repeat (first | (with_reducible first | exact HB.out | apply below_alloc | apply pw_below_drewN | apply below_drew1 | refine below_set ?_ GE105.out | refine below_set ?_ GE106.out) | exact HB.out)), z_BK109, Q_GW109, Q_GE109, Q_NB105_109, Q_NB109_105, Q_NB106_109, Q_NB109_106, fun h0_ => absurd ((hoff 6 (by kernel_rfl)).symm.trans h0_) (by decide), Q_X5_⟩
      refine steps_cons ?_ ?_
      · rintro b a w' ⟨gb109, m5_, ha, Q_BK105, Q_BK106, Q_HB, Q_BK109, Q_GW109, Q_GE109, Q_NB105_109, Q_NB109_105, Q_NB106_109, Q_NB109_106, Q_BK109_e6, Q_X5_⟩ hb_ hon hoff
        refine ⟨_, rfl, fun K hK => ?_⟩
        replace ha := Aside0.mk ha
        have BK105 := Aside0.mk Q_BK105
        have BK106 := Aside0.mk Q_BK106
        have HB := Aside0.mk Q_HB
        refine box_step ?hg (N := 4) ?hd (cs := #[.int .u64 0]) (t := 34) ?hr ?_; (case hd => rfl); (case hg => rfl); (case hr => first | (go_simp; done) | (go_simp; rfl))
        intro gb109 hg w28 hbox hb
        have n0_ := Aside0.mk (blk_below (g := gb105) (o := .cells #[.int .u64 a0_0] 34 (0, 0)) (by (with_reducible repeat (first | refine blk_drewN ?_ _ | refine blk_drew ?_ | refine blk_alloc ?_ _)); exact BK105.out) hb)
        have n1_ := Aside0.mk (blk_below (g := gb106) (o := .cells #[.int .u64 0] 34 (0, 0)) (by (with_reducible repeat (first | refine blk_drewN ?_ _ | refine blk_drew ?_ | refine blk_alloc ?_ _)); exact BK106.out) hb)
        have n2_ := Aside0.mk (below_step (by repeat (first | (with_reducible first | exact HB.out | apply below_alloc | apply pw_below_drewN | apply below_drew1 | refine below_set ?_ GE105.out | refine below_set ?_ GE106.out) | exact HB.out)) hb)
        have n3_ := Aside0.mk (hbox)
        have n4_ := Aside0.mk ((by rw [hg]; exact (below_size (by repeat (first | (with_reducible first | exact HB.out | apply below_alloc | apply pw_below_drewN | apply below_drew1 | refine below_set ?_ GE105.out | refine below_set ?_ GE106.out) | exact HB.out))) : w.heap.size ≤ gb109))
        have n5_ := Aside0.mk ((by rw [hg]; exact (below_size (by repeat (first | (with_reducible first | exact HB.out | apply below_alloc | apply pw_below_drewN | apply below_drew1 | refine below_set ?_ GE105.out | refine below_set ?_ GE106.out) | exact HB.out))) : w.heap.size ≤ gb109))
        have n6_ := Aside0.mk ((by rw [hg]; exact Nat.ne_of_lt (blk_lt (g := gb105) (o := .cells #[.int .u64 a0_0] 34 (0, 0)) (by (with_reducible repeat (first | refine blk_drewN ?_ _ | refine blk_drew ?_ | refine blk_alloc ?_ _)); exact BK105.out)) : gb105 ≠ gb109))
        have n7_ := Aside0.mk ((by rw [hg]; exact Nat.ne_of_gt (blk_lt (g := gb105) (o := .cells #[.int .u64 a0_0] 34 (0, 0)) (by (with_reducible repeat (first | refine blk_drewN ?_ _ | refine blk_drew ?_ | refine blk_alloc ?_ _)); exact BK105.out)) : gb109 ≠ gb105))
        have n8_ := Aside0.mk ((by rw [hg]; exact Nat.ne_of_lt (blk_lt (g := gb106) (o := .cells #[.int .u64 0] 34 (0, 0)) (by (with_reducible repeat (first | refine blk_drewN ?_ _ | refine blk_drew ?_ | refine blk_alloc ?_ _)); exact BK106.out)) : gb106 ≠ gb109))
        have n9_ := Aside0.mk ((by rw [hg]; exact Nat.ne_of_gt (blk_lt (g := gb106) (o := .cells #[.int .u64 0] 34 (0, 0)) (by (with_reducible repeat (first | refine blk_drewN ?_ _ | refine blk_drew ?_ | refine blk_alloc ?_ _)); exact BK106.out)) : gb109 ≠ gb106))
        clear BK105
        clear BK106
        clear HB
        have BK105 := n0_
        have BK106 := n1_
        have HB := n2_
        have BK109 := n3_
        have GW109 := n4_
        have GE109 := n5_
        have NB105_109 := n6_
        have NB109_105 := n7_
        have NB106_109 := n8_
        have NB109_106 := n9_
        clear n0_ n1_ n2_ n3_ n4_ n5_ n6_ n7_ n8_ n9_
        clear hb hbox hg
        refine hK.out _ _ ⟨gb109, (.pointer (some ⟨gb109, 0, none⟩)), (by rw [ha.out]; exact putSel_upk 5 hb_ rfl rfl rfl), (by (with_reducible repeat (first | refine blk_drewN ?_ _ | refine blk_drew ?_ | refine blk_alloc ?_ _)); exact BK105.out), (by (with_reducible repeat (first | refine blk_drewN ?_ _ | refine blk_drew ?_ | refine blk_alloc ?_ _)); exact BK106.out), (by repeat (first | (with_reducible first | exact HB.out | apply below_alloc | apply pw_below_drewN | apply below_drew1 | refine below_set ?_ GE105.out | refine below_set ?_ GE106.out | refine below_set ?_ GE109.out) | exact HB.out)), fun _ _ => (by (with_reducible repeat (first | refine blk_drewN ?_ _ | refine blk_drew ?_ | refine blk_alloc ?_ _)); exact BK109.out), fun _ => GW109.out, fun _ => GE109.out, fun _ => NB105_109.out, fun _ => NB109_105.out, fun _ => NB106_109.out, fun _ => NB109_106.out, fun h0_ => absurd ((hoff 6 (by kernel_rfl)).symm.trans h0_) (by decide), fun _ => rfl⟩
      refine steps_cons ?_ ?_
      · rintro b a w' ⟨gb109, m5_, ha, Q_BK105, Q_BK106, Q_HB, Q_BK109, Q_GW109, Q_GE109, Q_NB105_109, Q_NB109_105, Q_NB106_109, Q_NB109_106, Q_BK109_e6, Q_X5_⟩ hb_ hon hoff
        refine ⟨_, rfl, fun K hK => ?_⟩
        have e4 : a.tmps[4]? = some (m5_) := by rw [ha]; exact putSel_on (e := (5, 4, m5_)) 5 rfl rfl (hon 5 (by kernel_rfl)) rfl
        rw [Q_X5_ (hon 5 (by kernel_rfl))] at e4
        have e9 : a.tmps[9]? = some (.agg #[.int .u64 t108]) := by rw [ha]; exact putSel_on (e := (4, 9, .agg #[.int .u64 t108])) 4 rfl rfl (hon 4 (by kernel_rfl)) rfl
        replace ha := Aside0.mk ha
        have BK105 := Aside0.mk Q_BK105
        have BK106 := Aside0.mk Q_BK106
        have HB := Aside0.mk Q_HB
        have BK109 := Aside0.mk (Q_BK109 (hon 5 (by kernel_rfl)) hb_)
        have GW109 := Aside0.mk (Q_GW109 (hon 5 (by kernel_rfl)))
        have GE109 := Aside0.mk (Q_GE109 (hon 5 (by kernel_rfl)))
        have NB105_109 := Aside0.mk (Q_NB105_109 (hon 5 (by kernel_rfl)))
        have NB109_105 := Aside0.mk (Q_NB109_105 (hon 5 (by kernel_rfl)))
        have NB106_109 := Aside0.mk (Q_NB106_109 (hon 5 (by kernel_rfl)))
        have NB109_106 := Aside0.mk (Q_NB109_106 (hon 5 (by kernel_rfl)))
        have hs32 : w'.cell? ⟨gb109, 0, none⟩ = some (.int .u64 0) := (blk_cell BK109.out 0).trans rfl
        have hfs32 := blk_frozen BK109.out 0
        have hns32_0 := NB105_109.out
        have hns32_1 := NB106_109.out
        have hms32_0 := NB109_105.out
        have hms32_1 := NB109_106.out
        refine skip_ (w1 := ?_) (by rfl) rfl ?_ ?_
        rotate_left
        · go_simp
          rfl
        refine hK.out _ _ ⟨gb109, m5_, (by rw [ha.out]; exact putSel_none (v := undef) rfl), (by (with_reducible repeat (first | refine blk_drewN ?_ _ | refine blk_drew ?_ | refine blk_alloc ?_ _)); refine blk_far ?_ NB105_109.out _; (with_reducible repeat (first | refine blk_drewN ?_ _ | refine blk_drew ?_ | refine blk_alloc ?_ _)); exact BK105.out), (by (with_reducible repeat (first | refine blk_drewN ?_ _ | refine blk_drew ?_ | refine blk_alloc ?_ _)); refine blk_far ?_ NB106_109.out _; (with_reducible repeat (first | refine blk_drewN ?_ _ | refine blk_drew ?_ | refine blk_alloc ?_ _)); exact BK106.out), (by repeat (first | (with_reducible first | exact HB.out | apply below_alloc | apply pw_below_drewN | apply below_drew1 | refine below_set ?_ GE105.out | refine below_set ?_ GE106.out | refine below_set ?_ GE109.out) | exact HB.out)), fun _ h1_ => absurd ((up_self b 6).symm.trans h1_) (by decide), fun _ => GW109.out, fun _ => GE109.out, fun _ => NB105_109.out, fun _ => NB109_105.out, fun _ => NB106_109.out, fun _ => NB109_106.out, fun _ => (by (with_reducible repeat (first | refine blk_drewN ?_ _ | refine blk_drew ?_ | refine blk_alloc ?_ _)); refine blk_put (cs := #[.int .u64 0]) ?_ 0 _ rfl; (with_reducible repeat (first | refine blk_drewN ?_ _ | refine blk_drew ?_ | refine blk_alloc ?_ _)); exact BK109.out), Q_X5_⟩
      exact steps_nil
    rintro b a w32 hall ⟨gb109, m5_, ha, Q_BK105, Q_BK106, Q_HB, Q_BK109, Q_GW109, Q_GE109, Q_NB105_109, Q_NB109_105, Q_NB106_109, Q_NB109_106, Q_BK109_e6, Q_X5_⟩
    clear BK105 BK106 HB
    have hb0_ := hall 0 (by kernel_rfl)
    have hb1_ := hall 1 (by kernel_rfl)
    have hb2_ := hall 2 (by kernel_rfl)
    have hb3_ := hall 3 (by kernel_rfl)
    have hb4_ := hall 4 (by kernel_rfl)
    have hb5_ := hall 5 (by kernel_rfl)
    have hb6_ := hall 6 (by kernel_rfl)
    subst ha
    obtain rfl := Q_X5_ hb5_
    simp only [putSel, hb0_, hb1_, hb2_, hb3_, hb4_, hb5_, hb6_, if_true, Act.put, List.setIfInBounds_toArray, List.set_cons_zero, List.set_cons_succ]
    have BK105 := Aside0.mk Q_BK105
    clear Q_BK105
    have BK106 := Aside0.mk Q_BK106
    clear Q_BK106
    have HB := Aside0.mk Q_HB
    clear Q_HB
    clear Q_BK109
    have GW109 := Aside0.mk (Q_GW109 hb5_)
    clear Q_GW109
    have GE109 := Aside0.mk (Q_GE109 hb5_)
    clear Q_GE109
    have NB105_109 := Aside0.mk (Q_NB105_109 hb5_)
    clear Q_NB105_109
    have NB109_105 := Aside0.mk (Q_NB109_105 hb5_)
    clear Q_NB109_105
    have NB106_109 := Aside0.mk (Q_NB106_109 hb5_)
    clear Q_NB106_109
    have NB109_106 := Aside0.mk (Q_NB109_106 hb5_)
    clear Q_NB109_106
    have BK109 := Aside0.mk (Q_BK109_e6 hb6_)
    clear Q_BK109_e6
    clear hall hb0_ hb1_ hb2_ hb3_ hb4_ hb5_ hb6_
    have hnb33 := NB109_105.out
    have hnc33 := NB105_109.out
    have hnb34 := NB109_106.out
    have hnc34 := NB106_109.out
    have hcz35_0 : w32.cell? ⟨gb109, 0, none⟩ = some (.int .u64 t108) := (blk_cell BK109.out 0).trans rfl
    have hfz35_0 := blk_frozen BK109.out 0
    try go_wp2
    have n0_ := Aside0.mk (blk_drew BK105.out)
    have n1_ := Aside0.mk (blk_drew BK106.out)
    have n2_ := Aside0.mk (blk_drew BK109.out)
    have n3_ := Aside0.mk (below_drew1 HB.out)
    clear BK105
    clear BK106
    clear BK109
    clear HB
    have BK105 := n0_
    have BK106 := n1_
    have BK109 := n2_
    have HB := n3_
    clear n0_ n1_ n2_ n3_
    refine start_ (n := 8) (S := fun w' => w'.cell? ⟨gb109, 0, none⟩ = some (.int .u64 t108) ∧ w'.cell? ⟨gb105, 0, none⟩ = some (.int .u64 a0_0)) (ds := []) #[false, false, false, false, false, false, false, false] (by kernel_rfl) rfl rfl ⟨(blk_cell BK109.out 0).trans rfl, (blk_cell BK105.out 0).trans rfl⟩ (fun hHeld => ?_); refine with_tabW impl_num_impl_fieldP_root.tab4 impl_num_impl_fieldP_root.bits4 (fun HT_ HW_ => ?_)
    generalize w32.drew = w36 at BK105 BK106 BK109 HB hHeld ⊢
    refine take_ (i := 0) (N := some 16) (v := ?_) (a' := ?_) #[true, false, false, false, false, false, false, false] rfl rfl (take_ofW HT_.out HW_.out (by kernel_rfl)) (fun _ _ _ h => h) (Or.inl ⟨by rfl, ?_⟩) hHeld ?_ ?_
    rotate_left
    · rintro w' ⟨s0, s1⟩
      go_simp
      with_reducible rfl
    rotate_left
    · simp only [Act.put, List.setIfInBounds_toArray, List.set_cons_zero, List.set_cons_succ, i64_w, i32_w]
      rfl
    refine take_ (i := 1) (N := some 17) (v := ?_) (a' := ?_) #[true, true, false, false, false, false, false, false] rfl rfl (take_ofW HT_.out HW_.out (by kernel_rfl)) (fun _ _ _ h => h) (Or.inl ⟨by rfl, ?_⟩) hHeld ?_ ?_
    rotate_left
    · rintro w' ⟨s0, s1⟩
      go_simp
      with_reducible rfl
    rotate_left
    · simp only [Act.put, List.setIfInBounds_toArray, List.set_cons_zero, List.set_cons_succ, i64_w, i32_w]
      rfl
    refine take_ (i := 2) (N := some 18) (v := ?_) (a' := ?_) #[true, true, true, false, false, false, false, false] rfl rfl (take_ofW HT_.out HW_.out (by kernel_rfl)) (fun _ _ _ h => h) (Or.inl ⟨by rfl, ?_⟩) hHeld ?_ ?_
    rotate_left
    · rintro w' ⟨s0, s1⟩
      go_simp
      with_reducible rfl
    rotate_left
    · simp only [Act.put, List.setIfInBounds_toArray, List.set_cons_zero, List.set_cons_succ, i64_w, i32_w]
      rfl
    refine take_ (i := 4) (N := some 20) (v := ?_) (a' := ?_) #[true, true, true, false, true, false, false, false] rfl rfl (take_ofW HT_.out HW_.out (by kernel_rfl)) (fun _ _ _ h => h) (Or.inl ⟨by rfl, ?_⟩) hHeld ?_ ?_
    rotate_left
    · rintro w' ⟨s0, s1⟩
      go_simp
      with_reducible rfl
    rotate_left
    · simp only [Act.put, List.setIfInBounds_toArray, List.set_cons_zero, List.set_cons_succ, i64_w, i32_w]
      rfl
    refine one_ (i := 3) (N := some 19) #[true, true, true, true, true, false, false, false] rfl rfl (one_of HT_.out (by kernel_rfl)) (by decide) (fun K hK => ?_)
    refine goes_ Try.func13 (by kernel_rfl) rfl #[.agg #[.int .u64 t108], .agg #[.int .u64 t108]] (by rfl) rfl rfl (by (try simp only [List.map_toArray, List.map_cons, List.map_nil]); first | done | rfl | (simp only [List.length_drop, List.length_take]; rfl)) ?_
    with_reducible refine (impl_num_impl_fieldP_times.calls k t108 t108 t112 _ A24.out).mono ?_
    rintro e w37 ⟨rfl, hb⟩
    refine ⟨_, rfl, ?_⟩
    have n0_ := Aside0.mk (blk_below (g := gb105) (o := .cells #[.int .u64 a0_0] 34 (0, 0)) (by (with_reducible repeat (first | refine blk_drewN ?_ _ | refine blk_drew ?_ | refine blk_alloc ?_ _)); exact BK105.out) hb)
    have n1_ := Aside0.mk (blk_below (g := gb106) (o := .cells #[.int .u64 0] 34 (0, 0)) (by (with_reducible repeat (first | refine blk_drewN ?_ _ | refine blk_drew ?_ | refine blk_alloc ?_ _)); exact BK106.out) hb)
    have n2_ := Aside0.mk (blk_below (g := gb109) (o := .cells #[.int .u64 t108] 34 (0, 0)) (by (with_reducible repeat (first | refine blk_drewN ?_ _ | refine blk_drew ?_ | refine blk_alloc ?_ _)); exact BK109.out) hb)
    have n3_ := Aside0.mk (below_step (by repeat (first | (with_reducible first | exact HB.out | apply below_alloc | apply pw_below_drewN | apply below_drew1 | refine below_set ?_ GE105.out | refine below_set ?_ GE106.out | refine below_set ?_ GE109.out) | exact HB.out)) hb)
    clear BK105
    clear BK106
    clear BK109
    clear HB
    have BK105 := n0_
    have BK106 := n1_
    have BK109 := n2_
    have HB := n3_
    clear n0_ n1_ n2_ n3_
    (try clear hb)
    (try clear hb2)
    (try clear hk)
    (try clear hi)
    refine hK.out _ _ ⟨(blk_cell BK109.out 0).trans rfl, (blk_cell BK105.out 0).trans rfl⟩ (fun hHeld => ?_)
    clear hK K
    refine norm_ (a' := ?_) ?_ ?_
    rotate_left
    · show Act.put _ (some 19) _ = _
      simp only [Act.put, List.setIfInBounds_toArray, List.set_cons_zero, List.set_cons_succ, i64_w, i32_w]
      rfl
    refine pure_ (i := 5) (N := some 21) (v := ?_) (a' := ?_) #[true, true, true, true, true, true, false, false] rfl rfl (any_of HT_.out (by kernel_rfl)) (fun _ _ _ h => h) (Or.inl ⟨by rfl, ?_⟩) ?_ ?_
    rotate_left
    · intro w'
      go_simp
      with_reducible rfl
    rotate_left
    · simp only [Act.put, List.setIfInBounds_toArray, List.set_cons_zero, List.set_cons_succ, i64_w, i32_w]
      rfl
    refine one_ (i := 6) (N := none) #[true, true, true, true, true, true, true, false] rfl rfl (one_of HT_.out (by kernel_rfl)) (by decide) (fun K hK => ?_)
    have hs38 : w37.cell? ⟨gb106, 0, none⟩ = some (.int .u64 0) := (blk_cell BK106.out 0).trans rfl
    have hfs38 := blk_frozen BK106.out 0
    have hns38_0 := NB105_106.out
    have hns38_2 := NB109_106.out
    have hms38_0 := NB106_105.out
    have hms38_2 := NB106_109.out
    refine skip_ (w1 := ?_) (by rfl) rfl ?_ ?_
    rotate_left
    · go_simp
      rfl
    refine hK.out _ _ ⟨((cell_far (p := ⟨gb106, _, none⟩) NB109_106.out _).trans (hHeld.1)), ((cell_far (p := ⟨gb106, _, none⟩) NB105_106.out _).trans (hHeld.2))⟩ (fun hHeld => ?_)
    clear hK K
    refine pure_ (i := 7) (N := some 3) (v := ?_) (a' := ?_) #[true, true, true, true, true, true, true, true] rfl rfl (any_of HT_.out (by kernel_rfl)) (fun _ _ _ h => h) (Or.inl ⟨by rfl, ?_⟩) ?_ ?_
    rotate_left
    · intro w'
      go_simp
      with_reducible rfl
    rotate_left
    · simp only [Act.put, List.setIfInBounds_toArray, List.set_cons_zero, List.set_cons_succ, i64_w, i32_w]
      rfl
    refine done_ (done_of HT_.out (by kernel_rfl)) ?_
    try go_wp2
    refine bodyPost_ret (results_ct rfl _ _ gb106 34 #[.int .u64 t108] (0, 0) _ rfl (by (with_reducible repeat (first | refine blk_drewN ?_ _ | refine blk_drew ?_ | refine blk_alloc ?_ _)); refine blk_put (cs := #[.int .u64 0]) ?_ 0 _ rfl; (with_reducible repeat (first | refine blk_drewN ?_ _ | refine blk_drew ?_ | refine blk_alloc ?_ _)); exact BK106.out) Try.underlying34 rfl (by kernel_rfl)) rfl ?_
    exact ⟨by first | rfl | (simp [errW_none, errW_some] <;> rfl) | (simp [*, errW_none, errW_some] <;> rfl), by repeat (first | (with_reducible first | exact HB.out | apply below_alloc | apply pw_below_drewN | apply below_drew1 | refine below_set ?_ GE105.out | refine below_set ?_ GE106.out | refine below_set ?_ GE109.out) | exact HB.out)⟩

end Go.Proofs.Ytkefcokmghbmhaa.C
end
section
namespace Go.Proofs.Ytkefcokmghbmhaa.C
open Go.RowKit Go.Proofs.Ytkefcokmghbmhaa.B Go.Proofs.Ytkefcokmghbmhaa.H0 Go.Proofs.Ytkefcokmghbmhaa.H1 Go.Proofs.Ytkefcokmghbmhaa.H2 Go.Proofs.Ytkefcokmghbmhaa.H3 Go.Proofs.YtkefcokmghbmhaaW.PrintWords Go.Proofs.YtkefcokmghbmhaaW.PrintLast Go.Proofs.YtkefcokmghbmhaaW.PrintMore
attribute [local go_sem] max2_int min2_int max_two min_two max_three min_three max_four min_four   -- for this text's walks alone
set_option linter.unusedVariables false
set_option linter.unusedSimpArgs false
def impl_num_impl_fieldP_inverse.f (a0_0 : Int) : Option (Int) := (impl_prime_impl_fieldP.f).bind fun t103 => ((impl_num_impl_fieldP_power.f a0_0 (IntKind.u64.wrap (t103 - 2))).bind fun t104 => (some t104))
set_option maxHeartbeats 8000000 in
set_option maxRecDepth 100000 in
theorem impl_num_impl_fieldP_inverse.calls (a0_0 : Int) (r : Int) (w : World) (h : impl_num_impl_fieldP_inverse.f a0_0 = some r) :
    Calls Try.prog 16 #[.agg #[.int .u64 a0_0]] w fun e w' => e = .returned (.agg #[.int .u64 r]) ∧ Below w.heap.size w w' := by
  have hu34 := Try.underlying34
  have HB := Aside0.mk (Below.refl w.heap.size w)
  have H : ((impl_prime_impl_fieldP.f).bind fun t103 => ((impl_num_impl_fieldP_power.f a0_0 (IntKind.u64.wrap (t103 - 2))).bind fun t104 => (some t104))) = some r := h
  clear h
  replace H := Option.bind_eq_some_iff.mp H
  obtain ⟨t103, A20, H⟩ := H
  replace H : ((impl_num_impl_fieldP_power.f a0_0 (IntKind.u64.wrap (t103 - 2))).bind fun t104 => (some t104)) = some r := H
  have A2 := Aside0.mk A20
  clear A20
  replace H := Option.bind_eq_some_iff.mp H
  obtain ⟨t104, A30, H⟩ := H
  replace H : (some t104) = some r := H
  have A3 := Aside0.mk A30
  clear A30
  obtain rfl := Option.some.inj H
  go_enter Try.func16, Try.ntmps16
  try go_wp2_with (first | ((with_reducible refine gate_dst (N := 1) rfl ?_); refine box_event ?hg (N := 1) ?hd (cs := #[.int .u64 a0_0]) (t := 34) ?hr ?_; (case hd => rfl); (case hg => rfl); (case hr => first | (go_simp; done) | (go_simp; rfl)); intro gb101 hg w4 hbox hb; have n0_ := Aside0.mk (below_step (by repeat (first | (with_reducible first | exact HB.out | apply below_alloc | apply pw_below_drewN | apply below_drew1) | exact HB.out)) hb); have n1_ := Aside0.mk (hbox); have n2_ := Aside0.mk ((by rw [hg]; exact (below_size (by repeat (first | (with_reducible first | exact HB.out | apply below_alloc | apply pw_below_drewN | apply below_drew1) | exact HB.out))) : w.heap.size ≤ gb101)); have n3_ := Aside0.mk ((by rw [hg]; exact (below_size (by repeat (first | (with_reducible first | exact HB.out | apply below_alloc | apply pw_below_drewN | apply below_drew1) | exact HB.out))) : w.heap.size ≤ gb101)); clear HB; have HB := n0_; have BK101 := n1_; have GW101 := n2_; have GE101 := n3_; clear n0_ n1_ n2_ n3_; clear hb hbox hg) | ((with_reducible refine gate_dst (N := 2) rfl ?_); refine box_event ?hg (N := 2) ?hd (cs := #[.int .u64 0]) (t := 34) ?hr ?_; (case hd => rfl); (case hg => rfl); (case hr => first | (go_simp; done) | (go_simp; rfl)); intro gb102 hg w5 hbox hb; have n0_ := Aside0.mk (blk_below (g := gb101) (o := .cells #[.int .u64 a0_0] 34 (0, 0)) (by (with_reducible repeat (first | refine blk_drewN ?_ _ | refine blk_drew ?_ | refine blk_alloc ?_ _)); exact BK101.out) hb); have n1_ := Aside0.mk (below_step (by repeat (first | (with_reducible first | exact HB.out | apply below_alloc | apply pw_below_drewN | apply below_drew1 | refine below_set ?_ GE101.out) | exact HB.out)) hb); have n2_ := Aside0.mk (hbox); have n3_ := Aside0.mk ((by rw [hg]; exact (below_size (by repeat (first | (with_reducible first | exact HB.out | apply below_alloc | apply pw_below_drewN | apply below_drew1 | refine below_set ?_ GE101.out) | exact HB.out))) : w.heap.size ≤ gb102)); have n4_ := Aside0.mk ((by rw [hg]; exact (below_size (by repeat (first | (with_reducible first | exact HB.out | apply below_alloc | apply pw_below_drewN | apply below_drew1 | refine below_set ?_ GE101.out) | exact HB.out))) : w.heap.size ≤ gb102)); have n5_ := Aside0.mk ((by rw [hg]; exact Nat.ne_of_lt (blk_lt (g := gb101) (o := .cells #[.int .u64 a0_0] 34 (0, 0)) (by (with_reducible repeat (first | refine blk_drewN ?_ _ | refine blk_drew ?_ | refine blk_alloc ?_ _)); exact BK101.out)) : gb101 ≠ gb102)); have n6_ := Aside0.mk ((by rw [hg]; exact Nat.ne_of_gt (blk_lt (g := gb101) (o := .cells #[.int .u64 a0_0] 34 (0, 0)) (by (with_reducible repeat (first | refine blk_drewN ?_ _ | refine blk_drew ?_ | refine blk_alloc ?_ _)); exact BK101.out)) : gb102 ≠ gb101)); clear BK101; clear HB; have BK101 := n0_; have HB := n1_; have BK102 := n2_; have GW102 := n3_; have GE102 := n4_; have NB101_102 := n5_; have NB102_101 := n6_; clear n0_ n1_ n2_ n3_ n4_ n5_ n6_; clear hb hbox hg))
  have n0_ := Aside0.mk (blk_drew BK101.out)
  have n1_ := Aside0.mk (blk_drew BK102.out)
  have n2_ := Aside0.mk (below_drew1 HB.out)
  clear BK101
  clear BK102
  clear HB
  have BK101 := n0_
  have BK102 := n1_
  have HB := n2_
  clear n0_ n1_ n2_
  refine start_ (n := 5) (S := fun w' => w'.cell? ⟨gb101, 0, none⟩ = some (.int .u64 a0_0)) (ds := []) #[false, false, false, false, false] (by kernel_rfl) rfl rfl ((blk_cell BK101.out 0).trans rfl) (fun hHeld => ?_)
  generalize w5.drew = w6 at BK101 BK102 HB hHeld ⊢
  refine take_ (i := 0) (N := some 3) (v := ?_) (a' := ?_) #[true, false, false, false, false] rfl rfl (by kernel_rfl) (fun _ _ _ h => h) (Or.inl ⟨by rfl, ?_⟩) hHeld ?_ ?_
  rotate_left
  · intro w' s0
    go_simp
    with_reducible rfl
  rotate_left
  · simp only [Act.put, List.setIfInBounds_toArray, List.set_cons_zero, List.set_cons_succ, i64_w, i32_w]
    rfl
  refine one_ (i := 1) (N := some 4) #[true, true, false, false, false] rfl rfl (by kernel_rfl) (by decide) (fun K hK => ?_)
  refine goes_ Try.func21 (by kernel_rfl) rfl #[] (by rfl) rfl rfl (by (try simp only [List.map_toArray, List.map_cons, List.map_nil]); first | done | rfl | (simp only [List.length_drop, List.length_take]; rfl)) ?_
  with_reducible refine (impl_prime_impl_fieldP.calls  t103 _ A2.out).mono ?_
  rintro e w7 ⟨rfl, hb⟩
  refine ⟨_, rfl, ?_⟩
  have n0_ := Aside0.mk (blk_below (g := gb101) (o := .cells #[.int .u64 a0_0] 34 (0, 0)) (by (with_reducible repeat (first | refine blk_drewN ?_ _ | refine blk_drew ?_ | refine blk_alloc ?_ _)); exact BK101.out) hb)
  have n1_ := Aside0.mk (blk_below (g := gb102) (o := .cells #[.int .u64 0] 34 (0, 0)) (by (with_reducible repeat (first | refine blk_drewN ?_ _ | refine blk_drew ?_ | refine blk_alloc ?_ _)); exact BK102.out) hb)
  have n2_ := Aside0.mk (below_step (by repeat (first | (with_reducible first | exact HB.out | apply below_alloc | apply pw_below_drewN | apply below_drew1 | refine below_set ?_ GE101.out | refine below_set ?_ GE102.out) | exact HB.out)) hb)
  clear BK101
  clear BK102
  clear HB
  have BK101 := n0_
  have BK102 := n1_
  have HB := n2_
  clear n0_ n1_ n2_
  (try clear hb)
  (try clear hb2)
  (try clear hk)
  (try clear hi)
  refine hK.out _ _ ((blk_cell BK101.out 0).trans rfl) (fun hHeld => ?_)
  clear hK K
  refine norm_ (a' := ?_) ?_ ?_
  rotate_left
  · show Act.put _ (some 4) _ = _
    simp only [Act.put, List.setIfInBounds_toArray, List.set_cons_zero, List.set_cons_succ, i64_w, i32_w]
    rfl
  refine pure_ (i := 2) (N := some 5) (v := ?_) (a' := ?_) #[true, true, true, false, false] rfl rfl (by kernel_rfl) (fun _ _ _ h => h) (Or.inl ⟨by rfl, ?_⟩) ?_ ?_
  rotate_left
  · intro w'
    go_simp
    with_reducible rfl
  rotate_left
  · simp only [Act.put, List.setIfInBounds_toArray, List.set_cons_zero, List.set_cons_succ, i64_w, i32_w]
    rfl
  refine one_ (i := 3) (N := some 6) #[true, true, true, true, false] rfl rfl (by kernel_rfl) (by decide) (fun K hK => ?_)
  refine goes_ Try.func23 (by kernel_rfl) rfl #[.agg #[.int .u64 a0_0], .int .u64 (IntKind.u64.wrap (t103 - 2))] (by rfl) rfl rfl (by (try simp only [List.map_toArray, List.map_cons, List.map_nil]); first | done | rfl | (simp only [List.length_drop, List.length_take]; rfl)) ?_
  with_reducible refine (impl_num_impl_fieldP_power.calls a0_0 (IntKind.u64.wrap (t103 - 2)) t104 _ A3.out).mono ?_
  rintro e w8 ⟨rfl, hb⟩
  refine ⟨_, rfl, ?_⟩
  have n0_ := Aside0.mk (blk_below (g := gb101) (o := .cells #[.int .u64 a0_0] 34 (0, 0)) (by (with_reducible repeat (first | refine blk_drewN ?_ _ | refine blk_drew ?_ | refine blk_alloc ?_ _)); exact BK101.out) hb)
  have n1_ := Aside0.mk (blk_below (g := gb102) (o := .cells #[.int .u64 0] 34 (0, 0)) (by (with_reducible repeat (first | refine blk_drewN ?_ _ | refine blk_drew ?_ | refine blk_alloc ?_ _)); exact BK102.out) hb)
  have n2_ := Aside0.mk (below_step (by repeat (first | (with_reducible first | exact HB.out | apply below_alloc | apply pw_below_drewN | apply below_drew1 | refine below_set ?_ GE101.out | refine below_set ?_ GE102.out) | exact HB.out)) hb)
  clear BK101
  clear BK102
  clear HB
  have BK101 := n0_
  have BK102 := n1_
  have HB := n2_
  clear n0_ n1_ n2_
  (try clear hb)
  (try clear hb2)
  (try clear hk)
  (try clear hi)
  refine hK.out _ _ ((blk_cell BK101.out 0).trans rfl) (fun hHeld => ?_)
  clear hK K
  refine norm_ (a' := ?_) ?_ ?_
  rotate_left
  · show Act.put _ (some 6) _ = _
    simp only [Act.put, List.setIfInBounds_toArray, List.set_cons_zero, List.set_cons_succ, i64_w, i32_w]
    rfl
  refine one_ (i := 4) (N := none) #[true, true, true, true, true] rfl rfl (by kernel_rfl) (by decide) (fun K hK => ?_)
  have hs9 : w8.cell? ⟨gb102, 0, none⟩ = some (.int .u64 0) := (blk_cell BK102.out 0).trans rfl
  have hfs9 := blk_frozen BK102.out 0
  have hns9_0 := NB101_102.out
  have hms9_0 := NB102_101.out
  refine skip_ (w1 := ?_) (by rfl) rfl ?_ ?_
  rotate_left
  · go_simp
    rfl
  refine hK.out _ _ (((cell_far (p := ⟨gb102, _, none⟩) NB101_102.out _).trans (hHeld))) (fun hHeld => ?_)
  clear hK K
  refine done_ (by kernel_rfl) ?_
  try go_wp2
  refine bodyPost_ret (results_cell_row rfl _ _ gb102 34 #[.int .u64 t104] (0, 0) _ rfl (by (with_reducible repeat (first | refine blk_drewN ?_ _ | refine blk_drew ?_ | refine blk_alloc ?_ _)); refine blk_put (cs := #[.int .u64 0]) ?_ 0 _ rfl; (with_reducible repeat (first | refine blk_drewN ?_ _ | refine blk_drew ?_ | refine blk_alloc ?_ _)); exact BK102.out) Try.underlying34 rfl (by kernel_rfl)) rfl ?_
  exact ⟨by first | rfl | (simp [errW_none, errW_some] <;> rfl) | (simp [*, errW_none, errW_some] <;> rfl), by repeat (first | (with_reducible first | exact HB.out | apply below_alloc | apply pw_below_drewN | apply below_drew1 | refine below_set ?_ GE101.out | refine below_set ?_ GE102.out) | exact HB.out)⟩

end Go.Proofs.Ytkefcokmghbmhaa.C
end
