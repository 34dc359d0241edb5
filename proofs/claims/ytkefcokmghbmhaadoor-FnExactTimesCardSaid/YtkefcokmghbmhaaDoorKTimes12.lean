/- What the proof of FnExactTimes leans on, part 12: cut out of the texts of this claim's making by a program (wip/tools/pack.py). -/
import Derived.Test.YtkefcokmghbmhaaDoorKTimes5
import Derived.Test.YtkefcokmghbmhaaDoorKTimes6
import Derived.Test.YtkefcokmghbmhaaDoorKTimes7
import Derived.Test.YtkefcokmghbmhaaDoorKTimes9
import Derived.Test.YtkefcokmghbmhaaDoorKTimes10
import Derived.Test.YtkefcokmghbmhaaDoorKTimes11
import Derived.KernelRfl
section
namespace Go.Proofs.YtkefcokmghbmhaaDoor.H2
open Go.RowKit Go.Shelf Go.Proofs.YtkefcokmghbmhaaDoorW.PrintWords Go.Proofs.YtkefcokmghbmhaaDoorW.PrintLast Go.Proofs.YtkefcokmghbmhaaDoorW.PrintMore Go.Proofs.YtkefcokmghbmhaaDoor.H0 Go.Proofs.YtkefcokmghbmhaaDoor.H1 Go.Proofs.YtkefcokmghbmhaaDoor.B
attribute [local go_sem] Oper.semAt_some
/-- the product modulo m; 0 for m 0 -/
def mm (x y m : Int) : Int := if m = 0 then 0 else x * y % m
theorem mm_range {x y m : Int} (h : 0 ≤ m) (hm : m < 18446744073709551616) : 0 ≤ mm x y m ∧ mm x y m < 18446744073709551616 := by
  unfold mm
  by_cases h0 : m = 0
  · rw [if_pos h0]; omega
  · rw [if_neg h0]
    have := Int.emod_nonneg (x * y) h0
    have := Int.emod_lt_of_pos (x * y) (show 0 < m by omega)
    omega
/-- one bit's step -/
def pst (a m r : Int) (b : Bool) : Int := if b then mm (mm r r m) a m else mm r r m
def pfold (a m : Int) (bs : List Bool) : Int := bs.foldl (pst a m) (1 % m)
theorem pfold_snoc (a m : Int) (bs : List Bool) (b : Bool) : pfold a m (bs ++ [b]) = pst a m (pfold a m bs) b := by simp [pfold]
theorem pfold_range {a m : Int} (h : 0 ≤ m) (hm : m < 18446744073709551616) (h0 : m ≠ 0) : ∀ (bs : List Bool) (r : Int), 0 ≤ r → r < 18446744073709551616 → 0 ≤ bs.foldl (pst a m) r ∧ bs.foldl (pst a m) r < 18446744073709551616
  | [], r, h1, h2 => ⟨h1, h2⟩
  | b :: bs, r, h1, h2 => by
    have := mm_range (x := r) (y := r) h hm
    have := mm_range (x := mm r r m) (y := a) h hm
    apply pfold_range h hm h0 bs
    · unfold pst; split <;> omega
    · unfold pst; split <;> omega

end Go.Proofs.YtkefcokmghbmhaaDoor.H2
end
section
namespace Go.Proofs.YtkefcokmghbmhaaDoor.H3
open Go.RowKit Go.Shelf Go.Proofs.YtkefcokmghbmhaaDoorW.PrintWords Go.Proofs.YtkefcokmghbmhaaDoorW.PrintLast Go.Proofs.YtkefcokmghbmhaaDoorW.PrintMore Go.Proofs.YtkefcokmghbmhaaDoor.H0 Go.Proofs.YtkefcokmghbmhaaDoor.H1 Go.Proofs.YtkefcokmghbmhaaDoor.H2 Go.Proofs.YtkefcokmghbmhaaDoor.B
attribute [local go_sem] Oper.semAt_some
theorem times_fieldP (x y : Int) (w : World) (hx0 : 0 ≤ x) (hx : x < 18446744073709551616) (hy0 : 0 ≤ y) (hy : y < 18446744073709551616) :
    Calls Tryd.prog 111 #[.agg #[.int .u64 x], .agg #[.int .u64 y]] w fun e w' => e = .returned (.agg #[.int .u64 (mm x y primefieldP)]) ∧ Below w.heap.size w w' :=
  impl_num_impl_fieldP_times.calls 10 x y _ w (by
    simp only [impl_num_impl_fieldP_times.f, impl_prime_impl_fieldP.f, Option.bind_some]
    rw [Pure.mulmod x y primefieldP hx0 hx hy0 hy (by decide) (by decide) (by omega)]; rfl)
theorem numOf_fieldP (x : Int) (hx : 0 ≤ x) (w : World) :
    Calls Tryd.prog 84 #[.int .u64 x] w fun e w' => e = .returned (.agg #[.int .u64 (x % primefieldP)]) ∧ Below w.heap.size w w' :=
  impl_numOf_impl_fieldP.calls x _ w (by
    simp only [impl_numOf_impl_fieldP.f, impl_prime_impl_fieldP.f, Option.bind_some]
    rw [if_neg (by decide), Int.tmod_eq_emod_of_nonneg hx])

def impl_num_impl_fieldP_power.f (a e : Int) : Option Int :=
  if 0 ≤ a ∧ a < 18446744073709551616 ∧ 0 ≤ e ∧ e < 18446744073709551616 then some (pfold a primefieldP (bitsOf e)) else none

set_option maxRecDepth 100000 in
set_option maxHeartbeats 4000000 in
theorem impl_num_impl_fieldP_power.calls (a e r : Int) (w : World) (h : impl_num_impl_fieldP_power.f a e = some r) :
    Calls Tryd.prog 125 #[.agg #[.int .u64 a], .int .u64 e] w fun en w' => en = .returned (.agg #[.int .u64 r]) ∧ Below w.heap.size w w' := by
  unfold impl_num_impl_fieldP_power.f at h
  split at h
  case isFalse => cases h
  rename_i hh
  obtain ⟨ha0, ha1, he0, he1⟩ := hh
  obtain rfl := Option.some.inj h
  clear h
  refine (callsIn_wide (n := 5)).1 ?_
  refine callsIn_of_wp_marks Tryd.func125 rfl trivial ?_ rfl
  simp only [Tryd.ntmps125, List.size_toArray, List.length_cons, List.length_nil, Nat.reduceAdd, Nat.reduceSub, Array.replicate_succ, Array.replicate_zero, List.push_toArray, List.append_toArray, List.nil_append, List.cons_append]
  gi_wp2_with (first | (refine ⟨trivial, ?_⟩; gi_at_call 84; refine (callsIn_wide.2 (numOf_fieldP 1 (by omega) _)).mono ?_; rintro en w1 ⟨rfl, hb1⟩) | (refine ⟨trivial, ?_⟩; gi_at_call 126; refine (callsIn_wide.2 (highBits_any e _)).mono ?_; rintro en w' ⟨rfl, rfl⟩))
  have hA0 : Boxed w1 w.heap.size 85 (.int .u64 a) := boxed_below ((Boxed.new w _ _).alloc _) hb1
  have hR0 : Boxed w1 (w.heap.size + 1) 85 (.int .u64 0) := by
    have := Boxed.new (w.alloc (.cells #[.int .u64 a] 85)) 85 (.int .u64 0)
    rw [World.size_alloc] at this
    exact boxed_below this hb1
  have hs1 : w.heap.size + 2 ≤ w1.heap.size := by have := hb1.size; simp only [World.size_alloc] at this; omega
  have hB1 : Below w.heap.size w w1 := (((Below.refl _ w).alloc (Nat.le_refl _) _).alloc (by simp) _).trans (hb1.mono (by simp only [World.size_alloc]; omega))
  have hb2 : Boxed (w1.alloc (.cells #[.int .u64 (1 % primefieldP)] 85)) w1.heap.size 85 (.int .u64 (1 % primefieldP)) := Boxed.new w1 _ _
  have hbe : Boxed ((w1.alloc (.cells #[.int .u64 (1 % primefieldP)] 85)).alloc (.cells #[.int .u64 e] 22)) (w1.heap.size + 1) 22 (.int .u64 e) := by
    have := Boxed.new (w1.alloc (.cells #[.int .u64 (1 % primefieldP)] 85)) 22 (.int .u64 e)
    rwa [World.size_alloc] at this
  have hA1 := (hA0.alloc (.cells #[.int .u64 (1 % primefieldP)] 85)).alloc (.cells #[.int .u64 e] 22)
  have hR1 := (hR0.alloc (.cells #[.int .u64 (1 % primefieldP)] 85)).alloc (.cells #[.int .u64 e] 22)
  have hO1 := hb2.alloc (.cells #[.int .u64 e] 22)
  have hBB : Below w.heap.size w ((w1.alloc (.cells #[.int .u64 (1 % primefieldP)] 85)).alloc (.cells #[.int .u64 e] 22)) :=
    (hB1.alloc (by omega) _).alloc (by simp; omega) _
  have hsz : ((w1.alloc (.cells #[.int .u64 (1 % primefieldP)] 85)).alloc (.cells #[.int .u64 e] 22)).heap.size = w1.heap.size + 1 + 1 := by simp only [World.size_alloc]
  generalize ((w1.alloc (.cells #[.int .u64 (1 % primefieldP)] 85)).alloc (.cells #[.int .u64 e] 22)) = W1 at *
  generalize w1.heap.size = s1 at *
  refine wpIn_rangeFunc_ownF rfl (by omega) (gf := 149) (lb := #[.pointer (some ⟨s1 + 1, 0, none⟩)]) rfl trivial (enters_of Tryd.func149 (by kernel_rfl) rfl)
    (bits_stops (s1 + 1) 22 e he0 (by omega) _ hbe) keepBox_t (keepBox_b (by simp [hsz])) (Below.refl _ _) (fun _ => rfl)
    (fun pre W => (Boxed W w.heap.size 85 (.int .u64 a) ∧ Boxed W (w.heap.size + 1) 85 (.int .u64 0) ∧ Boxed W s1 85 (.int .u64 (pfold a primefieldP pre)) ∧ Boxed W (s1 + 1) 22 (.int .u64 e)) ∧ Below w.heap.size w W)
    (fun _ _ _ => False)
    (OwnFrom.and (Own.from (fun s A B row hs hg hr => ⟨boxed_own _ _ (fun _ : List Bool => Value.int .u64 a) s A B row hs.1 hg hr, boxed_own _ _ (fun _ : List Bool => Value.int .u64 0) s A B row hs.2.1 hg hr, boxed_own _ _ (fun s => Value.int .u64 (pfold a primefieldP s)) s A B row hs.2.2.1 hg hr, boxed_own _ _ (fun _ : List Bool => Value.int .u64 e) s A B row hs.2.2.2 hg hr⟩) _) (ownFrom_below (Nat.le_refl _) (by simp [hsz]; omega)))
    (fun _ _ _ _ _ hs _ _ => hs)
    ⟨⟨hA1, hR1, hO1, hbe⟩, hBB⟩
    (fun x => { tmps := #[.agg #[.int .u64 a], .int .u64 e, .pointer (some ⟨w.heap.size, 0, none⟩), undef, .pointer (some ⟨w.heap.size + 1, 0, none⟩), .pointer (some ⟨s1, 0, none⟩), .bool x, .agg #[.int .u64 (1 % primefieldP)], .int .u64 e, .func (.func 149) #[] #[.pointer (some ⟨s1 + 1, 0, none⟩)], .bool x, undef, undef, undef, undef, undef, undef, undef, undef], defers := [] }) ?assign ?body ?done ?stop
  case assign =>
    intro l x W K hK
    gi_wp2
    exact hK
  case body =>
    rintro l pre x W ⟨⟨hA, hR, hO, hE⟩, hB⟩ _
    have hWs := hE.lt
    have hr0 := pfold_range (a := a) (m := primefieldP) (by decide) (by decide) (by decide) pre (1 % primefieldP) (by decide) (by decide)
    change 0 ≤ pfold a primefieldP pre ∧ pfold a primefieldP pre < 18446744073709551616 at hr0
    have hr1 := mm_range (x := pfold a primefieldP pre) (y := pfold a primefieldP pre) (m := primefieldP) (by decide) (by decide)
    have hs := pfold_snoc a primefieldP pre x
    have hAc := hA.cell
    have hOc := hO.cell
    have hOf := hO.frozen
    cases x with
    | false =>
      gi_wp2_with (refine ⟨trivial, ?_⟩; gi_at_call 111; refine (CallsIn.inRound l (callsIn_wide.2 (times_fieldP (pfold a primefieldP pre) (pfold a primefieldP pre) _ hr0.1 hr0.2 hr0.1 hr0.2))).mono ?_; rintro en w' ⟨rfl, hn1⟩; have hO' := boxed_below hO hn1; have hOc' := hO'.cell; have hOf' := hO'.frozen)
      have hg := gb_set (gb_below (gb_refl W (some s1)) hn1) (.int .u64 (mm (pfold a primefieldP pre) (pfold a primefieldP pre) primefieldP))
      refine ⟨keeps_of_gb hO hg, keepBox_of_gb hg hWs (by omega), ⟨hA.kept hg (by simp; omega), hR.kept hg (by simp; omega), ?_, hE.kept hg (by simp)⟩, below_of_gb hB hg hB.size (by omega)⟩
      rw [hs]
      exact hO'.set _
    | true =>
      gi_wp2_with (refine ⟨trivial, ?_⟩; gi_at_call 111; first | ((with_reducible refine (CallsIn.inRound l (callsIn_wide.2 (times_fieldP (pfold a primefieldP pre) (pfold a primefieldP pre) _ hr0.1 hr0.2 hr0.1 hr0.2))).mono ?_); rintro en w' ⟨rfl, hn1⟩; have hO' := boxed_below hO hn1; have hOc' := hO'.cell; have hOf' := hO'.frozen; have hA' := (boxed_below hA hn1).kept (gb_set (gb_refl w' (some s1)) (.int .u64 (mm (pfold a primefieldP pre) (pfold a primefieldP pre) primefieldP))) (by simp; omega); have hA'c := hA'.cell) | ((with_reducible refine (CallsIn.inRound l (callsIn_wide.2 (times_fieldP (mm (pfold a primefieldP pre) (pfold a primefieldP pre) primefieldP) a _ hr1.1 hr1.2 ha0 ha1))).mono ?_); rintro en w'' ⟨rfl, hn2⟩; have hO'' := boxed_below (hO'.set _) hn2; have hOc'' := hO''.cell; have hOf'' := hO''.frozen))
      have hg := gb_set (gb_below (gb_set (gb_below (gb_refl W (some s1)) hn1) (.int .u64 (mm (pfold a primefieldP pre) (pfold a primefieldP pre) primefieldP))) hn2) (.int .u64 (mm (mm (pfold a primefieldP pre) (pfold a primefieldP pre) primefieldP) a primefieldP))
      refine ⟨keeps_of_gb hO hg, keepBox_of_gb hg hWs (by omega), ⟨hA.kept hg (by simp; omega), hR.kept hg (by simp; omega), ?_, hE.kept hg (by simp)⟩, below_of_gb hB hg hB.size (by omega)⟩
      rw [hs]
      exact hO''.set _
  case done =>
    rintro D ys W hD rfl ⟨⟨hA, hR, hO, _⟩, hB⟩ hK
    have hOc := hO.cell
    have hRc := hR.cell
    have hRf := hR.frozen
    gi_wp2
    have hR2 := hR.set (.int .u64 (pfold a primefieldP (bitsOf e)))
    have hB2 : Below w.heap.size w (W.setCell ⟨w.heap.size + 1, 0, none⟩ (.int .u64 (pfold a primefieldP (bitsOf e)))) := hB.setCell (by simp) _
    have hK2 : (W.setCell ⟨w.heap.size + 1, 0, none⟩ (.int .u64 (pfold a primefieldP (bitsOf e)))).heap[D]? = some (.deferred (some [])) := by
      rw [Below.heap_setCell _ _ _ _ (by simp; omega)]; exact hK
    generalize W.setCell ⟨w.heap.size + 1, 0, none⟩ (.int .u64 (pfold a primefieldP (bitsOf e))) = W2 at *
    refine ⟨by simp, .inl ⟨_, _, rfl, run_takeDeferred hK2, ?_⟩⟩
    refine ⟨_, results_cell_row rfl _ _ (w.heap.size + 1) 85 #[.int .u64 (pfold a primefieldP (bitsOf e))] (0, 0) _ rfl ?_ Tryd.underlying85 rfl (by kernel_rfl), rfl, hB2.trans (belowK_b (w := w) (Nat.le_refl _) W2 D _ _ (by omega) hK2 rfl rfl)⟩
    exact hR2.kept (grownBy_putObj' W2 D (.deferred none)) (by simp; omega)
  case stop =>
    rintro D c pre W _ _ h _
    exact h.elim
end Go.Proofs.YtkefcokmghbmhaaDoor.H3
end
section
namespace Go.Proofs.YtkefcokmghbmhaaDoor.C2
open Go Go.RowKit Go.Proofs.YtkefcokmghbmhaaDoorW.PrintWords Go.Proofs.YtkefcokmghbmhaaDoorW.PrintLast Go.Proofs.YtkefcokmghbmhaaDoorW.PrintMore Go.Proofs.YtkefcokmghbmhaaDoor.H0 Go.Proofs.YtkefcokmghbmhaaDoor.H1 Go.Proofs.YtkefcokmghbmhaaDoor.H2 Go.Proofs.YtkefcokmghbmhaaDoor.H3 Go.Proofs.YtkefcokmghbmhaaDoor.CR Go.Proofs.YtkefcokmghbmhaaDoor.B
set_option linter.unusedVariables false
set_option linter.unusedSimpArgs false
def tm (x y : Int) : Int := x * y % 2305843009213693951
def ad (x y : Int) : Int := (x + y) % 2305843009213693951
def mi (x y : Int) : Int := (x - y) % 2305843009213693951
def In (x : Int) : Prop := 0 ≤ x ∧ x < 2305843009213693951
theorem in_tm (x y : Int) : In (tm x y) := by unfold In tm; omega
theorem in_ad (x y : Int) : In (ad x y) := by unfold In ad; omega
theorem in_mi (x y : Int) : In (mi x y) := by unfold In mi; omega

theorem times_c {x y : Int} (hx : In x) (hy : In y) (w : World) :
    Calls Tryd.prog 111 #[.agg #[.int .u64 x], .agg #[.int .u64 y]] w fun e w' => e = .returned (.agg #[.int .u64 (tm x y)]) ∧ Below w.heap.size w w' :=
  impl_num_impl_fieldP_times.calls 10 x y _ w (Pure.prod_P x y hx.1 (by have := hx.2; omega) hy.1 (by have := hy.2; omega) (by omega))
theorem plus_c {x y : Int} (hx : In x) (hy : In y) (w : World) :
    Calls Tryd.prog 124 #[.agg #[.int .u64 x], .agg #[.int .u64 y]] w fun e w' => e = .returned (.agg #[.int .u64 (ad x y)]) ∧ Below w.heap.size w w' :=
  impl_num_impl_fieldP_plus.calls x y _ w (Pure.plus_P x y hx.1 hx.2 hy.1 hy.2)
theorem minus_c {x y : Int} (hx : In x) (hy : In y) (w : World) :
    Calls Tryd.prog 120 #[.agg #[.int .u64 x], .agg #[.int .u64 y]] w fun e w' => e = .returned (.agg #[.int .u64 (mi x y)]) ∧ Below w.heap.size w w' :=
  impl_num_impl_fieldP_minus.calls x y _ w (Pure.minus_P x y hx.1 hx.2 hy.1 hy.2)

theorem old_cell {W w : World} {row : Option Nat} {g : Nat} {cs : Array Value} {t : TypeId} {fr : Nat × Nat} (hg : W.grownBy w row) (hb : W.heap[g]? = some (.cells cs t fr)) (hne : some g ≠ row) (i : Nat) : w.cell? ⟨g, i, none⟩ = cs[i]? :=
  blk_cellG_ ((hg.block g (lt_of_heap hb) hne).trans hb) i
where blk_cellG_ {w : World} {g : Nat} {t : TypeId} {cs : Array Value} {fr : Nat × Nat} (h : w.heap[g]? = some (.cells cs t fr)) (i : Nat) : w.cell? ⟨g, i, none⟩ = cs[i]? := cell_of_row w g i cs t fr h

theorem below_none {w W W' : World} (hB : Below w.heap.size w W) (hg : W.grownBy W' none) : Below w.heap.size w W' :=
  hB.trans ⟨hg.os, hg.tape, hg.output, hg.size, fun k hk => hg.block k (by have := hB.size; omega) (by simp)⟩
theorem below_drew' {w W : World} {n : Nat} (hB : Below n w W) : Below n w W.drew := below_drew1 hB

theorem load_num {oi : Oper} {ρ : Operand → Value} {w : World} (x : Operand) (hop : oi.op = .load 85 x) (g o : Nat) (hx : ρ x = .pointer (some ⟨g, o, none⟩)) {v : Value} (hc : w.cell? ⟨g, o, none⟩ = some v) :
    (execOp ρ oi).run Tryd.prog w = .ok (.value (.agg #[v])) w := by
  have hu := Tryd.underlying85
  unfold execOp
  rw [hop]
  dsimp only
  rw [hx]
  go_simp

theorem index_sp {oi : Oper} {ρ : Operand → Value} {w : World} (x : Operand) (k : Nat) (hk : k < 3) (hop : oi.op = .indexAddr 98 x (.const (.int .i64 k))) (hc : ρ (.const (.int .i64 k)) = .int .i64 k) (g : Nat) (hx : ρ x = .pointer (some ⟨g, 0, none⟩)) :
    (execOp ρ oi).run Tryd.prog w = .ok (.value (.pointer (some ⟨g, k, none⟩))) w := by
  have hu := Tryd.underlying98
  unfold execOp
  rw [hop]
  dsimp only
  rw [hx, hc]
  obtain rfl | rfl | rfl : k = 0 ∨ k = 1 ∨ k = 2 := by omega
  all_goals first | (go_simp; done) | (go_simp; rfl)

theorem build_num {oi : Oper} {ρ : Operand → Value} {w : World} (x : Operand) (hop : oi.op = .build 85 #[(0, x)]) {n : Int} (hx : ρ x = .int .u64 n) :
    (execOp ρ oi).run Tryd.prog w = .ok (.value (.agg #[.int .u64 n])) w := by
  unfold execOp
  rw [hop]
  dsimp only
  simp only [List.map_toArray, List.map_cons, List.map_nil, hx]
  kernel_rfl

theorem build_sp {oi : Oper} {ρ : Operand → Value} {w : World} (x y z : Operand) (hop : oi.op = .build 98 #[(0, x), (1, y), (2, z)]) {a b c : Int} (hx : ρ x = .agg #[.int .u64 a]) (hy : ρ y = .agg #[.int .u64 b]) (hz : ρ z = .agg #[.int .u64 c]) :
    (execOp ρ oi).run Tryd.prog w = .ok (.value (.agg #[.int .u64 a, .int .u64 b, .int .u64 c])) w := by
  unfold execOp
  rw [hop]
  dsimp only
  simp only [List.map_toArray, List.map_cons, List.map_nil, hx, hy, hz]
  kernel_rfl

theorem alloc_num {oi : Oper} (hop : oi.op = .alloc 85) (ρ : Operand → Value) (w : World) :
    (execOp ρ oi).run Tryd.prog w = .ok (.value (.pointer (some ⟨w.heap.size, 0, none⟩))) (w.alloc (.cells #[.int .u64 0] 85 (0, 0))) := by
  have hu := Tryd.underlying85
  unfold execOp
  rw [hop]
  dsimp only
  go_simp

theorem store_num {oi : Oper} {ρ : Operand → Value} {w : World} (x y : Operand) (hop : oi.op = .store 85 x y) (g : Nat) {a : Int} (hx : ρ x = .pointer (some ⟨g, 0, none⟩)) (hy : ρ y = .agg #[.int .u64 a]) {u : Value} (hb : w.heap[g]? = some (.cells #[u] 85 (0, 0))) :
    (execOp ρ oi).run Tryd.prog w = .ok .skip (w.setCell ⟨g, 0, none⟩ (.int .u64 a)) := by
  have hu := Tryd.underlying85
  have hc : w.cell? ⟨g, 0, none⟩ = some u := by rw [cell_of_row w g 0 _ _ _ hb]; rfl
  have hf : w.frozen? ⟨g, 0, none⟩ = false := frozen_of_row w g 0 _ _ hb
  unfold execOp
  rw [hop]
  dsimp only
  rw [hx, hy]
  go_simp

theorem store_sp {oi : Oper} {ρ : Operand → Value} {w : World} (x y : Operand) (hop : oi.op = .store 98 x y) (g : Nat) {a b c : Int} (hx : ρ x = .pointer (some ⟨g, 0, none⟩)) (hy : ρ y = .agg #[.int .u64 a, .int .u64 b, .int .u64 c]) {u1 u2 u3 : Value} (hb : w.heap[g]? = some (.cells #[u1, u2, u3] 98 (0, 0))) :
    ∃ w1, (execOp ρ oi).run Tryd.prog w = .ok .skip w1 ∧ w1.heap[g]? = some (.cells #[.int .u64 a, .int .u64 b, .int .u64 c] 98 (0, 0)) ∧ w.grownBy w1 (some g) := by
  have hu := Tryd.underlying98
  have hc0 : w.cell? ⟨g, 0, none⟩ = some u1 := by rw [cell_of_row w g 0 _ _ _ hb]; rfl
  have hc1 : w.cell? ⟨g, 1, none⟩ = some u2 := by rw [cell_of_row w g 1 _ _ _ hb]; rfl
  have hc2 : w.cell? ⟨g, 2, none⟩ = some u3 := by rw [cell_of_row w g 2 _ _ _ hb]; rfl
  have hf0 : w.frozen? ⟨g, 0, none⟩ = false := frozen_of_row w g 0 _ _ hb
  have hf1 : w.frozen? ⟨g, 1, none⟩ = false := frozen_of_row w g 1 _ _ hb
  have hf2 : w.frozen? ⟨g, 2, none⟩ = false := frozen_of_row w g 2 _ _ hb
  have h0 := heap_setCell_same w g 0 #[u1, u2, u3] 98 (.int .u64 a) hb
  have h1 := heap_setCell_same _ g 1 _ 98 (.int .u64 b) h0
  have h2 := heap_setCell_same _ g 2 _ 98 (.int .u64 c) h1
  refine ⟨((w.setCell ⟨g, 0, none⟩ (.int .u64 a)).setCell ⟨g, 1, none⟩ (.int .u64 b)).setCell ⟨g, 2, none⟩ (.int .u64 c), ?_, by simpa using h2, ?_⟩
  · unfold execOp
    rw [hop]
    dsimp only
    rw [hx, hy]
    go_simp
  · have s := fun (W : World) (i : Nat) (v : Value) => (⟨rfl, rfl, rfl, by simp [World.setCell], fun k _ hk => Below.heap_setCell _ _ _ _ (fun e => hk (by simp [e]))⟩ : W.grownBy (W.setCell ⟨g, i, none⟩ v) (some g))
    exact grown_trans (grown_trans (s w 0 _) (s _ 1 _)) (s _ 2 _)
where grown_trans {W W1 W2 : World} {row : Option Nat} (h : W.grownBy W1 row) (k : W1.grownBy W2 row) : W.grownBy W2 row :=
  ⟨k.os.trans h.os, k.tape.trans h.tape, k.output.trans h.output, Nat.le_trans h.size k.size, fun j hj hn => (k.block j (Nat.lt_of_lt_of_le hj h.size) hn).trans (h.block j hj hn)⟩

end Go.Proofs.YtkefcokmghbmhaaDoor.C2
end
section
namespace Go.Proofs.YtkefcokmghbmhaaDoor.C
open Go.RowKit Go.Proofs.YtkefcokmghbmhaaDoor.B Go.Proofs.YtkefcokmghbmhaaDoor.H0 Go.Proofs.YtkefcokmghbmhaaDoor.G1 Go.Proofs.YtkefcokmghbmhaaDoor.F0 Go.Proofs.YtkefcokmghbmhaaDoor.H1 Go.Proofs.YtkefcokmghbmhaaDoor.H2 Go.Proofs.YtkefcokmghbmhaaDoor.H3 Go.Proofs.YtkefcokmghbmhaaDoorW.PrintWords Go.Proofs.YtkefcokmghbmhaaDoorW.PrintLast Go.Proofs.YtkefcokmghbmhaaDoorW.PrintMore
attribute [local go_sem high] field_num_fieldP   -- for this text's walks alone
attribute [local go_sem] max2_int min2_int max_two min_two max_three min_three max_four min_four   -- for this text's walks alone
set_option linter.unusedVariables false
set_option linter.unusedSimpArgs false
def impl_num_impl_fieldP_inverse.f (a0_0 : Int) : Option (Int) := (impl_prime_impl_fieldP.f).bind fun t103 => ((impl_num_impl_fieldP_power.f a0_0 (IntKind.u64.wrap (t103 - 2))).bind fun t104 => (some t104))
set_option maxHeartbeats 8000000 in
set_option maxRecDepth 100000 in
theorem impl_num_impl_fieldP_inverse.calls (a0_0 : Int) (r : Int) (w : World) (h : impl_num_impl_fieldP_inverse.f a0_0 = some r) :
    Calls Tryd.prog 122 #[.agg #[.int .u64 a0_0]] w fun e w' => e = .returned (.agg #[.int .u64 r]) ∧ Below w.heap.size w w' := by
  have hu85 := Tryd.underlying85
  have HB := Aside0.mk (Below.refl w.heap.size w)
  have H : ((impl_prime_impl_fieldP.f).bind fun t103 => ((impl_num_impl_fieldP_power.f a0_0 (IntKind.u64.wrap (t103 - 2))).bind fun t104 => (some t104))) = some r := h
  clear h
  replace H := Option.bind_eq_some_iff.mp H
  obtain ⟨t103, A20, H⟩ := H
  replace H : ((impl_num_impl_fieldP_power.f a0_0 (IntKind.u64.wrap (t103 - 2))).bind fun t104 => (some t104)) = some r := H
  have A2 := Aside0.mk A20
  clear A20
  replace H := Option.bind_eq_some_iff.mp H
  obtain ⟨t104, A30, H⟩ := H
  replace H : (some t104) = some r := H
  have A3 := Aside0.mk A30
  clear A30
  obtain rfl := Option.some.inj H
  go_enter Tryd.func122, Tryd.ntmps122
  try go_wp2_with (first | ((with_reducible refine gate_dst (N := 1) rfl ?_); refine box_event ?hg (N := 1) ?hd (cs := #[.int .u64 a0_0]) (t := 85) ?hr ?_; (case hd => rfl); (case hg => rfl); (case hr => first | (go_simp; done) | (go_simp; rfl)); intro gb101 hg w4 hbox hb; have n0_ := Aside0.mk (below_step (by repeat (first | (with_reducible first | exact HB.out | apply below_alloc | apply pw_below_drewN | apply below_drew1) | exact HB.out)) hb); have n1_ := Aside0.mk (hbox); have n2_ := Aside0.mk ((by rw [hg]; exact (below_size (by repeat (first | (with_reducible first | exact HB.out | apply below_alloc | apply pw_below_drewN | apply below_drew1) | exact HB.out))) : w.heap.size ≤ gb101)); have n3_ := Aside0.mk ((by rw [hg]; exact (below_size (by repeat (first | (with_reducible first | exact HB.out | apply below_alloc | apply pw_below_drewN | apply below_drew1) | exact HB.out))) : w.heap.size ≤ gb101)); clear HB; have HB := n0_; have BK101 := n1_; have GW101 := n2_; have GE101 := n3_; clear n0_ n1_ n2_ n3_; clear hb hbox hg) | ((with_reducible refine gate_dst (N := 2) rfl ?_); refine box_event ?hg (N := 2) ?hd (cs := #[.int .u64 0]) (t := 85) ?hr ?_; (case hd => rfl); (case hg => rfl); (case hr => first | (go_simp; done) | (go_simp; rfl)); intro gb102 hg w5 hbox hb; have n0_ := Aside0.mk (blk_below (g := gb101) (o := .cells #[.int .u64 a0_0] 85 (0, 0)) (by (with_reducible repeat (first | refine blk_drewN ?_ _ | refine blk_drew ?_ | refine blk_alloc ?_ _)); exact BK101.out) hb); have n1_ := Aside0.mk (below_step (by repeat (first | (with_reducible first | exact HB.out | apply below_alloc | apply pw_below_drewN | apply below_drew1 | refine below_set ?_ GE101.out) | exact HB.out)) hb); have n2_ := Aside0.mk (hbox); have n3_ := Aside0.mk ((by rw [hg]; exact (below_size (by repeat (first | (with_reducible first | exact HB.out | apply below_alloc | apply pw_below_drewN | apply below_drew1 | refine below_set ?_ GE101.out) | exact HB.out))) : w.heap.size ≤ gb102)); have n4_ := Aside0.mk ((by rw [hg]; exact (below_size (by repeat (first | (with_reducible first | exact HB.out | apply below_alloc | apply pw_below_drewN | apply below_drew1 | refine below_set ?_ GE101.out) | exact HB.out))) : w.heap.size ≤ gb102)); have n5_ := Aside0.mk ((by rw [hg]; exact Nat.ne_of_lt (blk_lt (g := gb101) (o := .cells #[.int .u64 a0_0] 85 (0, 0)) (by (with_reducible repeat (first | refine blk_drewN ?_ _ | refine blk_drew ?_ | refine blk_alloc ?_ _)); exact BK101.out)) : gb101 ≠ gb102)); have n6_ := Aside0.mk ((by rw [hg]; exact Nat.ne_of_gt (blk_lt (g := gb101) (o := .cells #[.int .u64 a0_0] 85 (0, 0)) (by (with_reducible repeat (first | refine blk_drewN ?_ _ | refine blk_drew ?_ | refine blk_alloc ?_ _)); exact BK101.out)) : gb102 ≠ gb101)); clear BK101; clear HB; have BK101 := n0_; have HB := n1_; have BK102 := n2_; have GW102 := n3_; have GE102 := n4_; have NB101_102 := n5_; have NB102_101 := n6_; clear n0_ n1_ n2_ n3_ n4_ n5_ n6_; clear hb hbox hg))
  have n0_ := Aside0.mk (blk_drew BK101.out)
  have n1_ := Aside0.mk (blk_drew BK102.out)
  have n2_ := Aside0.mk (below_drew1 HB.out)
  clear BK101
  clear BK102
  clear HB
  have BK101 := n0_
  have BK102 := n1_
  have HB := n2_
  clear n0_ n1_ n2_
  refine start_ (n := 5) (S := fun w' => w'.cell? ⟨gb101, 0, none⟩ = some (.int .u64 a0_0)) (ds := []) #[false, false, false, false, false] (by kernel_rfl) rfl rfl ((blk_cell BK101.out 0).trans rfl) (fun hHeld => ?_)
  generalize w5.drew = w6 at BK101 BK102 HB hHeld ⊢
  refine take_ (i := 0) (N := some 3) (v := ?_) (a' := ?_) #[true, false, false, false, false] rfl rfl (by kernel_rfl) (fun _ _ _ h => h) (Or.inl ⟨by rfl, ?_⟩) hHeld ?_ ?_
  rotate_left
  · intro w' s0
    go_simp
    with_reducible rfl
  rotate_left
  · simp only [Act.put, List.setIfInBounds_toArray, List.set_cons_zero, List.set_cons_succ, i64_w, i32_w]
    rfl
  refine one_ (i := 1) (N := some 4) #[true, true, false, false, false] rfl rfl (by kernel_rfl) (by decide) (fun K hK => ?_)
  refine goes_ Tryd.func112 (by kernel_rfl) rfl #[] (by rfl) rfl rfl (by (try simp only [List.map_toArray, List.map_cons, List.map_nil]); first | done | rfl | (simp only [List.length_drop, List.length_take]; rfl)) ?_
  with_reducible refine (impl_prime_impl_fieldP.calls  t103 _ A2.out).mono ?_
  rintro e w7 ⟨rfl, hb⟩
  refine ⟨_, rfl, ?_⟩
  have n0_ := Aside0.mk (blk_below (g := gb101) (o := .cells #[.int .u64 a0_0] 85 (0, 0)) (by (with_reducible repeat (first | refine blk_drewN ?_ _ | refine blk_drew ?_ | refine blk_alloc ?_ _)); exact BK101.out) hb)
  have n1_ := Aside0.mk (blk_below (g := gb102) (o := .cells #[.int .u64 0] 85 (0, 0)) (by (with_reducible repeat (first | refine blk_drewN ?_ _ | refine blk_drew ?_ | refine blk_alloc ?_ _)); exact BK102.out) hb)
  have n2_ := Aside0.mk (below_step (by repeat (first | (with_reducible first | exact HB.out | apply below_alloc | apply pw_below_drewN | apply below_drew1 | refine below_set ?_ GE101.out | refine below_set ?_ GE102.out) | exact HB.out)) hb)
  clear BK101
  clear BK102
  clear HB
  have BK101 := n0_
  have BK102 := n1_
  have HB := n2_
  clear n0_ n1_ n2_
  (try clear hb)
  (try clear hb2)
  (try clear hk)
  (try clear hi)
  refine hK.out _ _ ((blk_cell BK101.out 0).trans rfl) (fun hHeld => ?_)
  clear hK K
  refine norm_ (a' := ?_) ?_ ?_
  rotate_left
  · show Act.put _ (some 4) _ = _
    simp only [Act.put, List.setIfInBounds_toArray, List.set_cons_zero, List.set_cons_succ, i64_w, i32_w]
    rfl
  refine pure_ (i := 2) (N := some 5) (v := ?_) (a' := ?_) #[true, true, true, false, false] rfl rfl (by kernel_rfl) (fun _ _ _ h => h) (Or.inl ⟨by rfl, ?_⟩) ?_ ?_
  rotate_left
  · intro w'
    go_simp
    with_reducible rfl
  rotate_left
  · simp only [Act.put, List.setIfInBounds_toArray, List.set_cons_zero, List.set_cons_succ, i64_w, i32_w]
    rfl
  refine one_ (i := 3) (N := some 6) #[true, true, true, true, false] rfl rfl (by kernel_rfl) (by decide) (fun K hK => ?_)
  refine goes_ Tryd.func125 (by kernel_rfl) rfl #[.agg #[.int .u64 a0_0], .int .u64 (IntKind.u64.wrap (t103 - 2))] (by rfl) rfl rfl (by (try simp only [List.map_toArray, List.map_cons, List.map_nil]); first | done | rfl | (simp only [List.length_drop, List.length_take]; rfl)) ?_
  with_reducible refine (impl_num_impl_fieldP_power.calls a0_0 (IntKind.u64.wrap (t103 - 2)) t104 _ A3.out).mono ?_
  rintro e w8 ⟨rfl, hb⟩
  refine ⟨_, rfl, ?_⟩
  have n0_ := Aside0.mk (blk_below (g := gb101) (o := .cells #[.int .u64 a0_0] 85 (0, 0)) (by (with_reducible repeat (first | refine blk_drewN ?_ _ | refine blk_drew ?_ | refine blk_alloc ?_ _)); exact BK101.out) hb)
  have n1_ := Aside0.mk (blk_below (g := gb102) (o := .cells #[.int .u64 0] 85 (0, 0)) (by (with_reducible repeat (first | refine blk_drewN ?_ _ | refine blk_drew ?_ | refine blk_alloc ?_ _)); exact BK102.out) hb)
  have n2_ := Aside0.mk (below_step (by repeat (first | (with_reducible first | exact HB.out | apply below_alloc | apply pw_below_drewN | apply below_drew1 | refine below_set ?_ GE101.out | refine below_set ?_ GE102.out) | exact HB.out)) hb)
  clear BK101
  clear BK102
  clear HB
  have BK101 := n0_
  have BK102 := n1_
  have HB := n2_
  clear n0_ n1_ n2_
  (try clear hb)
  (try clear hb2)
  (try clear hk)
  (try clear hi)
  refine hK.out _ _ ((blk_cell BK101.out 0).trans rfl) (fun hHeld => ?_)
  clear hK K
  refine norm_ (a' := ?_) ?_ ?_
  rotate_left
  · show Act.put _ (some 6) _ = _
    simp only [Act.put, List.setIfInBounds_toArray, List.set_cons_zero, List.set_cons_succ, i64_w, i32_w]
    rfl
  refine one_ (i := 4) (N := none) #[true, true, true, true, true] rfl rfl (by kernel_rfl) (by decide) (fun K hK => ?_)
  have hs9 : w8.cell? ⟨gb102, 0, none⟩ = some (.int .u64 0) := (blk_cell BK102.out 0).trans rfl
  have hfs9 := blk_frozen BK102.out 0
  have hns9_0 := NB101_102.out
  have hms9_0 := NB102_101.out
  refine skip_ (w1 := ?_) (by rfl) rfl ?_ ?_
  rotate_left
  · go_simp
    rfl
  refine hK.out _ _ (((cell_far (p := ⟨gb102, _, none⟩) NB101_102.out _).trans (hHeld))) (fun hHeld => ?_)
  clear hK K
  refine done_ (by kernel_rfl) ?_
  try go_wp2
  refine bodyPost_ret (results_cell_row rfl _ _ gb102 85 #[.int .u64 t104] (0, 0) _ rfl (by (with_reducible repeat (first | refine blk_drewN ?_ _ | refine blk_drew ?_ | refine blk_alloc ?_ _)); refine blk_put (cs := #[.int .u64 0]) ?_ 0 _ rfl; (with_reducible repeat (first | refine blk_drewN ?_ _ | refine blk_drew ?_ | refine blk_alloc ?_ _)); exact BK102.out) Tryd.underlying85 rfl (by kernel_rfl)) rfl ?_
  exact ⟨by first | rfl | (simp [errW_none, errW_some] <;> rfl) | (simp [*, errW_none, errW_some] <;> rfl), by repeat (first | (with_reducible first | exact HB.out | apply below_alloc | apply pw_below_drewN | apply below_drew1 | refine below_set ?_ GE101.out | refine below_set ?_ GE102.out) | exact HB.out)⟩

def impl_spatial_point.f (k : Nat) (a0_0 : Int) (a0_1 : Int) (a0_2 : Int) : Option (Int × Int × Bool) := if a0_2 = 0 then (some (0, 0, true)) else ((impl_num_impl_fieldP_inverse.f a0_2).bind fun t107 => ((impl_num_impl_fieldP_times.f k t107 t107).bind fun t109 => ((impl_num_impl_fieldP_times.f k a0_0 t109).bind fun t111 => ((impl_num_impl_fieldP_times.f k a0_1 t109).bind fun t112 => ((impl_num_impl_fieldP_times.f k t112 t107).bind fun t113 => (some (t111, t113, false)))))))
def impl_spatial_point.T5 : Bool × List (List Nat × List Nat) := (true, [([], []), ([0], [0]), ([], []), ([1, 2], [1, 2]), ([3], [3]), ([], []), ([5], [5]), ([], []), ([6, 7, 3], [6, 7]), ([], []), ([8, 9, 8], [8, 9]), ([10], [10]), ([4, 11], [4, 11]), ([12, 10, 0, 1, 2, 3, 4, 5, 6, 7, 8, 9, 10, 11, 12], [12])])
def impl_spatial_point.B5 : List Nat := [0, 1, 0, 7, 15, 0, 32, 0, 239, 0, 1007, 2031, 4095, 8191]
theorem impl_spatial_point.tab5 : rtab .any (opsOf Tryd.f79 5) = impl_spatial_point.T5 := by kernel_rfl
theorem impl_spatial_point.bits5 : waitsOk impl_spatial_point.T5.2 impl_spatial_point.B5 = true := by kernel_rfl
set_option maxHeartbeats 8000000 in
set_option maxRecDepth 100000 in
theorem impl_spatial_point.calls (k : Nat) (a0_0 : Int) (a0_1 : Int) (a0_2 : Int) (r1 : Int) (r2 : Int) (r3 : Bool) (w : World) (hG : G w) (h : impl_spatial_point.f k a0_0 a0_1 a0_2 = some (r1, r2, r3)) :
    Calls Tryd.prog 79 #[.agg #[.int .u64 a0_0, .int .u64 a0_1, .int .u64 a0_2]] w fun e w' => e = .returned (.agg #[.int .u64 r1, .int .u64 r2, .bool r3]) ∧ Below w.heap.size w w' := by
  have hu98 := Tryd.underlying98
  have hu26 := Tryd.underlying26
  have hu85 := Tryd.underlying85
  have HB := Aside0.mk (Below.refl w.heap.size w)
  have H : (if a0_2 = 0 then (some (0, 0, true)) else ((impl_num_impl_fieldP_inverse.f a0_2).bind fun t107 => ((impl_num_impl_fieldP_times.f k t107 t107).bind fun t109 => ((impl_num_impl_fieldP_times.f k a0_0 t109).bind fun t111 => ((impl_num_impl_fieldP_times.f k a0_1 t109).bind fun t112 => ((impl_num_impl_fieldP_times.f k t112 t107).bind fun t113 => (some (t111, t113, false)))))))) = some (r1, r2, r3) := h
  clear h
  obtain ⟨tG0, frG0, hb_⟩ := G_0 hG
  have BK80 := Aside0.mk hb_
  clear hb_
  have HG := Aside0.mk hG
  clear hG
  by_cases c2 : a0_2 = 0
  · rw [if_pos c2] at H
    have c2b0 : (a0_2 == 0) = true := beq_iff_eq.mpr c2
    have c2b1 : (a0_2 != 0) = false := bne_eq_false_iff_eq.mpr c2
    clear c2
    simp only [Option.some.injEq, Prod.mk.injEq] at H
    obtain ⟨rfl, rfl, rfl⟩ := H
    go_enter Tryd.func79, Tryd.ntmps79
    go_wp2_with (first | ((with_reducible refine gate_dst (N := 1) rfl ?_); refine box_event ?hg (N := 1) ?hd (cs := #[.int .u64 a0_0, .int .u64 a0_1, .int .u64 a0_2]) (t := 98) ?hr ?_; (case hd => rfl); (case hg => rfl); (case hr => first | (go_simp; done) | (go_simp; rfl)); intro gb105 hg w3 hbox hb; have n0_ := Aside0.mk (blk_below (g := 0) (o := .cells #[.int .u64 0, .int .u64 0, .bool true] tG0 frG0) (by (with_reducible repeat (first | refine blk_drewN ?_ _ | refine blk_drew ?_ | refine blk_alloc ?_ _)); exact BK80.out) hb); have n1_ := Aside0.mk (below_step (by repeat (first | (with_reducible first | exact HB.out | apply below_alloc | apply pw_below_drewN | apply below_drew1 | refine below_set ?_ GE80.out) | exact HB.out)) hb); have n2_ := Aside0.mk (hbox); have n3_ := Aside0.mk ((by rw [hg]; exact (below_size (by repeat (first | (with_reducible first | exact HB.out | apply below_alloc | apply pw_below_drewN | apply below_drew1 | refine below_set ?_ GE80.out) | exact HB.out))) : w.heap.size ≤ gb105)); have n4_ := Aside0.mk ((by rw [hg]; exact (below_size (by repeat (first | (with_reducible first | exact HB.out | apply below_alloc | apply pw_below_drewN | apply below_drew1 | refine below_set ?_ GE80.out) | exact HB.out))) : w.heap.size ≤ gb105)); have n5_ := Aside0.mk ((by rw [hg]; exact Nat.ne_of_lt (blk_lt (g := 0) (o := .cells #[.int .u64 0, .int .u64 0, .bool true] tG0 frG0) (by (with_reducible repeat (first | refine blk_drewN ?_ _ | refine blk_drew ?_ | refine blk_alloc ?_ _)); exact BK80.out)) : 0 ≠ gb105)); have n6_ := Aside0.mk ((by rw [hg]; exact Nat.ne_of_gt (blk_lt (g := 0) (o := .cells #[.int .u64 0, .int .u64 0, .bool true] tG0 frG0) (by (with_reducible repeat (first | refine blk_drewN ?_ _ | refine blk_drew ?_ | refine blk_alloc ?_ _)); exact BK80.out)) : gb105 ≠ 0)); clear BK80; clear HB; have BK80 := n0_; have HB := n1_; have BK105 := n2_; have GW105 := n3_; have GE105 := n4_; have NB80_105 := n5_; have NB105_80 := n6_; clear n0_ n1_ n2_ n3_ n4_ n5_ n6_; clear hb hbox hg) | ((with_reducible refine gate_dst (N := 2) rfl ?_); refine box_event ?hg (N := 2) ?hd (cs := #[.int .u64 0, .int .u64 0, .bool false]) (t := 26) ?hr ?_; (case hd => rfl); (case hg => rfl); (case hr => first | (go_simp; done) | (go_simp; rfl)); intro gb106 hg w4 hbox hb; have n0_ := Aside0.mk (blk_below (g := 0) (o := .cells #[.int .u64 0, .int .u64 0, .bool true] tG0 frG0) (by (with_reducible repeat (first | refine blk_drewN ?_ _ | refine blk_drew ?_ | refine blk_alloc ?_ _)); exact BK80.out) hb); have n1_ := Aside0.mk (blk_below (g := gb105) (o := .cells #[.int .u64 a0_0, .int .u64 a0_1, .int .u64 a0_2] 98 (0, 0)) (by (with_reducible repeat (first | refine blk_drewN ?_ _ | refine blk_drew ?_ | refine blk_alloc ?_ _)); exact BK105.out) hb); have n2_ := Aside0.mk (below_step (by repeat (first | (with_reducible first | exact HB.out | apply below_alloc | apply pw_below_drewN | apply below_drew1 | refine below_set ?_ GE80.out | refine below_set ?_ GE105.out) | exact HB.out)) hb); have n3_ := Aside0.mk (hbox); have n4_ := Aside0.mk ((by rw [hg]; exact (below_size (by repeat (first | (with_reducible first | exact HB.out | apply below_alloc | apply pw_below_drewN | apply below_drew1 | refine below_set ?_ GE80.out | refine below_set ?_ GE105.out) | exact HB.out))) : w.heap.size ≤ gb106)); have n5_ := Aside0.mk ((by rw [hg]; exact (below_size (by repeat (first | (with_reducible first | exact HB.out | apply below_alloc | apply pw_below_drewN | apply below_drew1 | refine below_set ?_ GE80.out | refine below_set ?_ GE105.out) | exact HB.out))) : w.heap.size ≤ gb106)); have n6_ := Aside0.mk ((by rw [hg]; exact Nat.ne_of_lt (blk_lt (g := 0) (o := .cells #[.int .u64 0, .int .u64 0, .bool true] tG0 frG0) (by (with_reducible repeat (first | refine blk_drewN ?_ _ | refine blk_drew ?_ | refine blk_alloc ?_ _)); exact BK80.out)) : 0 ≠ gb106)); have n7_ := Aside0.mk ((by rw [hg]; exact Nat.ne_of_gt (blk_lt (g := 0) (o := .cells #[.int .u64 0, .int .u64 0, .bool true] tG0 frG0) (by (with_reducible repeat (first | refine blk_drewN ?_ _ | refine blk_drew ?_ | refine blk_alloc ?_ _)); exact BK80.out)) : gb106 ≠ 0)); have n8_ := Aside0.mk ((by rw [hg]; exact Nat.ne_of_lt (blk_lt (g := gb105) (o := .cells #[.int .u64 a0_0, .int .u64 a0_1, .int .u64 a0_2] 98 (0, 0)) (by (with_reducible repeat (first | refine blk_drewN ?_ _ | refine blk_drew ?_ | refine blk_alloc ?_ _)); exact BK105.out)) : gb105 ≠ gb106)); have n9_ := Aside0.mk ((by rw [hg]; exact Nat.ne_of_gt (blk_lt (g := gb105) (o := .cells #[.int .u64 a0_0, .int .u64 a0_1, .int .u64 a0_2] 98 (0, 0)) (by (with_reducible repeat (first | refine blk_drewN ?_ _ | refine blk_drew ?_ | refine blk_alloc ?_ _)); exact BK105.out)) : gb106 ≠ gb105)); clear BK80; clear BK105; clear HB; have BK80 := n0_; have BK105 := n1_; have HB := n2_; have BK106 := n3_; have GW106 := n4_; have GE106 := n5_; have NB80_106 := n6_; have NB106_80 := n7_; have NB105_106 := n8_; have NB106_105 := n9_; clear n0_ n1_ n2_ n3_ n4_ n5_ n6_ n7_ n8_ n9_; clear hb hbox hg; have hnb5 := NB105_80.out; have hnc5 := NB80_105.out; have hnb6 := NB105_106.out; have hnc6 := NB106_105.out; have hcz7_0 : w4.cell? ⟨gb105, 0, none⟩ = some (.int .u64 a0_0) := (blk_cell BK105.out 0).trans rfl; have hcz7_1 : w4.cell? ⟨gb105, 1, none⟩ = some (.int .u64 a0_1) := (blk_cell BK105.out 1).trans rfl; have hcz7_2 : w4.cell? ⟨gb105, 2, none⟩ = some (.int .u64 a0_2) := (blk_cell BK105.out 2).trans rfl; have hfz7_0 := blk_frozen BK105.out 0; have hfz7_1 := blk_frozen BK105.out 1; have hfz7_2 := blk_frozen BK105.out 2; have hnb8 := NB80_106.out; have hnc8 := NB106_80.out; have hcz9_0 : w4.cell? ⟨0, 0, none⟩ = some (.int .u64 0) := (blk_cellG BK80.out 0).trans rfl; have hcz9_1 : w4.cell? ⟨0, 1, none⟩ = some (.int .u64 0) := (blk_cellG BK80.out 1).trans rfl; have hcz9_2 : w4.cell? ⟨0, 2, none⟩ = some (.bool true) := (blk_cellG BK80.out 2).trans rfl; have hfz9_0 := trivial; have hfz9_1 := trivial; have hfz9_2 := trivial; have hcz10_0 : w4.cell? ⟨gb106, 0, none⟩ = some (.int .u64 0) := (blk_cell BK106.out 0).trans rfl; have hcz10_1 : w4.cell? ⟨gb106, 1, none⟩ = some (.int .u64 0) := (blk_cell BK106.out 1).trans rfl; have hcz10_2 : w4.cell? ⟨gb106, 2, none⟩ = some (.bool false) := (blk_cell BK106.out 2).trans rfl; have hfz10_0 := blk_frozen BK106.out 0; have hfz10_1 := blk_frozen BK106.out 1; have hfz10_2 := blk_frozen BK106.out 2))
    refine bodyPost_ret (results_cell_row rfl _ _ gb106 26 #[.int .u64 0, .int .u64 0, .bool true] (0, 0) _ rfl (by (with_reducible repeat (first | refine blk_drewN ?_ _ | refine blk_drew ?_ | refine blk_alloc ?_ _)); refine blk_put (cs := #[.int .u64 0, .int .u64 0, .bool false]) ?_ 2 _ rfl; (with_reducible repeat (first | refine blk_drewN ?_ _ | refine blk_drew ?_ | refine blk_alloc ?_ _)); refine blk_put (cs := #[.int .u64 0, .int .u64 0, .bool false]) ?_ 1 _ rfl; (with_reducible repeat (first | refine blk_drewN ?_ _ | refine blk_drew ?_ | refine blk_alloc ?_ _)); refine blk_put (cs := #[.int .u64 0, .int .u64 0, .bool false]) ?_ 0 _ rfl; (with_reducible repeat (first | refine blk_drewN ?_ _ | refine blk_drew ?_ | refine blk_alloc ?_ _)); exact BK106.out) Tryd.underlying26 rfl (by kernel_rfl)) rfl ?_
    exact ⟨by first | rfl | (simp [errW_none, errW_some] <;> rfl) | (simp [*, errW_none, errW_some] <;> rfl), by repeat (first | (with_reducible first | exact HB.out | apply below_alloc | apply pw_below_drewN | apply below_drew1 | refine below_set ?_ GE80.out | refine below_set ?_ GE105.out | refine below_set ?_ GE106.out) | exact HB.out)⟩
  · rw [if_neg c2] at H
    have c2b0 : (a0_2 == 0) = false := beq_eq_false_iff_ne.mpr c2
    have c2b1 : (a0_2 != 0) = true := bne_iff_ne.mpr c2
    replace H := Option.bind_eq_some_iff.mp H
    obtain ⟨t107, A110, H⟩ := H
    replace H : ((impl_num_impl_fieldP_times.f k t107 t107).bind fun t109 => ((impl_num_impl_fieldP_times.f k a0_0 t109).bind fun t111 => ((impl_num_impl_fieldP_times.f k a0_1 t109).bind fun t112 => ((impl_num_impl_fieldP_times.f k t112 t107).bind fun t113 => (some (t111, t113, false)))))) = some (r1, r2, r3) := H
    have A11 := Aside0.mk A110
    clear A110
    replace H := Option.bind_eq_some_iff.mp H
    obtain ⟨t109, A120, H⟩ := H
    replace H : ((impl_num_impl_fieldP_times.f k a0_0 t109).bind fun t111 => ((impl_num_impl_fieldP_times.f k a0_1 t109).bind fun t112 => ((impl_num_impl_fieldP_times.f k t112 t107).bind fun t113 => (some (t111, t113, false))))) = some (r1, r2, r3) := H
    have A12 := Aside0.mk A120
    clear A120
    replace H := Option.bind_eq_some_iff.mp H
    obtain ⟨t111, A130, H⟩ := H
    replace H : ((impl_num_impl_fieldP_times.f k a0_1 t109).bind fun t112 => ((impl_num_impl_fieldP_times.f k t112 t107).bind fun t113 => (some (t111, t113, false)))) = some (r1, r2, r3) := H
    have A13 := Aside0.mk A130
    clear A130
    replace H := Option.bind_eq_some_iff.mp H
    obtain ⟨t112, A140, H⟩ := H
    replace H : ((impl_num_impl_fieldP_times.f k t112 t107).bind fun t113 => (some (t111, t113, false))) = some (r1, r2, r3) := H
    have A14 := Aside0.mk A140
    clear A140
    replace H := Option.bind_eq_some_iff.mp H
    obtain ⟨t113, A150, H⟩ := H
    replace H : (some (t111, t113, false)) = some (r1, r2, r3) := H
    have A15 := Aside0.mk A150
    clear A150
    simp only [Option.some.injEq, Prod.mk.injEq] at H
    obtain ⟨rfl, rfl, rfl⟩ := H
    go_enter Tryd.func79, Tryd.ntmps79
    try go_wp2_with (first | ((with_reducible refine gate_dst (N := 1) rfl ?_); refine box_event ?hg (N := 1) ?hd (cs := #[.int .u64 a0_0, .int .u64 a0_1, .int .u64 a0_2]) (t := 98) ?hr ?_; (case hd => rfl); (case hg => rfl); (case hr => first | (go_simp; done) | (go_simp; rfl)); intro gb105 hg w16 hbox hb; have n0_ := Aside0.mk (blk_below (g := 0) (o := .cells #[.int .u64 0, .int .u64 0, .bool true] tG0 frG0) (by (with_reducible repeat (first | refine blk_drewN ?_ _ | refine blk_drew ?_ | refine blk_alloc ?_ _)); exact BK80.out) hb); have n1_ := Aside0.mk (below_step (by repeat (first | (with_reducible first | exact HB.out | apply below_alloc | apply pw_below_drewN | apply below_drew1 | refine below_set ?_ GE80.out) | exact HB.out)) hb); have n2_ := Aside0.mk (hbox); have n3_ := Aside0.mk ((by rw [hg]; exact (below_size (by repeat (first | (with_reducible first | exact HB.out | apply below_alloc | apply pw_below_drewN | apply below_drew1 | refine below_set ?_ GE80.out) | exact HB.out))) : w.heap.size ≤ gb105)); have n4_ := Aside0.mk ((by rw [hg]; exact (below_size (by repeat (first | (with_reducible first | exact HB.out | apply below_alloc | apply pw_below_drewN | apply below_drew1 | refine below_set ?_ GE80.out) | exact HB.out))) : w.heap.size ≤ gb105)); have n5_ := Aside0.mk ((by rw [hg]; exact Nat.ne_of_lt (blk_lt (g := 0) (o := .cells #[.int .u64 0, .int .u64 0, .bool true] tG0 frG0) (by (with_reducible repeat (first | refine blk_drewN ?_ _ | refine blk_drew ?_ | refine blk_alloc ?_ _)); exact BK80.out)) : 0 ≠ gb105)); have n6_ := Aside0.mk ((by rw [hg]; exact Nat.ne_of_gt (blk_lt (g := 0) (o := .cells #[.int .u64 0, .int .u64 0, .bool true] tG0 frG0) (by (with_reducible repeat (first | refine blk_drewN ?_ _ | refine blk_drew ?_ | refine blk_alloc ?_ _)); exact BK80.out)) : gb105 ≠ 0)); clear BK80; clear HB; have BK80 := n0_; have HB := n1_; have BK105 := n2_; have GW105 := n3_; have GE105 := n4_; have NB80_105 := n5_; have NB105_80 := n6_; clear n0_ n1_ n2_ n3_ n4_ n5_ n6_; clear hb hbox hg) | ((with_reducible refine gate_dst (N := 2) rfl ?_); refine box_event ?hg (N := 2) ?hd (cs := #[.int .u64 0, .int .u64 0, .bool false]) (t := 26) ?hr ?_; (case hd => rfl); (case hg => rfl); (case hr => first | (go_simp; done) | (go_simp; rfl)); intro gb106 hg w17 hbox hb; have n0_ := Aside0.mk (blk_below (g := 0) (o := .cells #[.int .u64 0, .int .u64 0, .bool true] tG0 frG0) (by (with_reducible repeat (first | refine blk_drewN ?_ _ | refine blk_drew ?_ | refine blk_alloc ?_ _)); exact BK80.out) hb); have n1_ := Aside0.mk (blk_below (g := gb105) (o := .cells #[.int .u64 a0_0, .int .u64 a0_1, .int .u64 a0_2] 98 (0, 0)) (by (with_reducible repeat (first | refine blk_drewN ?_ _ | refine blk_drew ?_ | refine blk_alloc ?_ _)); exact BK105.out) hb); have n2_ := Aside0.mk (below_step (by repeat (first | (with_reducible first | exact HB.out | apply below_alloc | apply pw_below_drewN | apply below_drew1 | refine below_set ?_ GE80.out | refine below_set ?_ GE105.out) | exact HB.out)) hb); have n3_ := Aside0.mk (hbox); have n4_ := Aside0.mk ((by rw [hg]; exact (below_size (by repeat (first | (with_reducible first | exact HB.out | apply below_alloc | apply pw_below_drewN | apply below_drew1 | refine below_set ?_ GE80.out | refine below_set ?_ GE105.out) | exact HB.out))) : w.heap.size ≤ gb106)); have n5_ := Aside0.mk ((by rw [hg]; exact (below_size (by repeat (first | (with_reducible first | exact HB.out | apply below_alloc | apply pw_below_drewN | apply below_drew1 | refine below_set ?_ GE80.out | refine below_set ?_ GE105.out) | exact HB.out))) : w.heap.size ≤ gb106)); have n6_ := Aside0.mk ((by rw [hg]; exact Nat.ne_of_lt (blk_lt (g := 0) (o := .cells #[.int .u64 0, .int .u64 0, .bool true] tG0 frG0) (by (with_reducible repeat (first | refine blk_drewN ?_ _ | refine blk_drew ?_ | refine blk_alloc ?_ _)); exact BK80.out)) : 0 ≠ gb106)); have n7_ := Aside0.mk ((by rw [hg]; exact Nat.ne_of_gt (blk_lt (g := 0) (o := .cells #[.int .u64 0, .int .u64 0, .bool true] tG0 frG0) (by (with_reducible repeat (first | refine blk_drewN ?_ _ | refine blk_drew ?_ | refine blk_alloc ?_ _)); exact BK80.out)) : gb106 ≠ 0)); have n8_ := Aside0.mk ((by rw [hg]; exact Nat.ne_of_lt (blk_lt (g := gb105) (o := .cells #[.int .u64 a0_0, .int .u64 a0_1, .int .u64 a0_2] 98 (0, 0)) (by (with_reducible repeat (first | refine blk_drewN ?_ _ | refine blk_drew ?_ | refine blk_alloc ?_ _)); exact BK105.out)) : gb105 ≠ gb106)); have n9_ := Aside0.mk ((by rw [hg]; exact Nat.ne_of_gt (blk_lt (g := gb105) (o := .cells #[.int .u64 a0_0, .int .u64 a0_1, .int .u64 a0_2] 98 (0, 0)) (by (with_reducible repeat (first | refine blk_drewN ?_ _ | refine blk_drew ?_ | refine blk_alloc ?_ _)); exact BK105.out)) : gb106 ≠ gb105)); clear BK80; clear BK105; clear HB; have BK80 := n0_; have BK105 := n1_; have HB := n2_; have BK106 := n3_; have GW106 := n4_; have GE106 := n5_; have NB80_106 := n6_; have NB106_80 := n7_; have NB105_106 := n8_; have NB106_105 := n9_; clear n0_ n1_ n2_ n3_ n4_ n5_ n6_ n7_ n8_ n9_; clear hb hbox hg; have hnb18 := NB105_80.out; have hnc18 := NB80_105.out; have hnb19 := NB105_106.out; have hnc19 := NB106_105.out; have hcz20_0 : w17.cell? ⟨gb105, 0, none⟩ = some (.int .u64 a0_0) := (blk_cell BK105.out 0).trans rfl; have hcz20_1 : w17.cell? ⟨gb105, 1, none⟩ = some (.int .u64 a0_1) := (blk_cell BK105.out 1).trans rfl; have hcz20_2 : w17.cell? ⟨gb105, 2, none⟩ = some (.int .u64 a0_2) := (blk_cell BK105.out 2).trans rfl; have hfz20_0 := blk_frozen BK105.out 0; have hfz20_1 := blk_frozen BK105.out 1; have hfz20_2 := blk_frozen BK105.out 2) | ((with_reducible refine gate_callee (f := 122) rfl ?_); refine goesL_ (some 12) rfl rfl Tryd.func122 (by kernel_rfl) rfl #[.agg #[.int .u64 a0_2]] rfl (by (try simp only [List.map_toArray, List.map_cons, List.map_nil]); first | done | rfl | (simp only [List.length_drop, List.length_take]; rfl)) ?_; (with_reducible refine (impl_num_impl_fieldP_inverse.calls a0_2 t107 _ A11.out).mono ?_); rintro e w21 ⟨rfl, hb⟩; refine ⟨_, rfl, ?_⟩; have n0_ := Aside0.mk (blk_below (g := 0) (o := .cells #[.int .u64 0, .int .u64 0, .bool true] tG0 frG0) (by (with_reducible repeat (first | refine blk_drewN ?_ _ | refine blk_drew ?_ | refine blk_alloc ?_ _)); exact BK80.out) hb); have n1_ := Aside0.mk (blk_below (g := gb105) (o := .cells #[.int .u64 a0_0, .int .u64 a0_1, .int .u64 a0_2] 98 (0, 0)) (by (with_reducible repeat (first | refine blk_drewN ?_ _ | refine blk_drew ?_ | refine blk_alloc ?_ _)); exact BK105.out) hb); have n2_ := Aside0.mk (blk_below (g := gb106) (o := .cells #[.int .u64 0, .int .u64 0, .bool false] 26 (0, 0)) (by (with_reducible repeat (first | refine blk_drewN ?_ _ | refine blk_drew ?_ | refine blk_alloc ?_ _)); exact BK106.out) hb); have n3_ := Aside0.mk (below_step (by repeat (first | (with_reducible first | exact HB.out | apply below_alloc | apply pw_below_drewN | apply below_drew1 | refine below_set ?_ GE80.out | refine below_set ?_ GE105.out | refine below_set ?_ GE106.out) | exact HB.out)) hb); clear BK80; clear BK105; clear BK106; clear HB; have BK80 := n0_; have BK105 := n1_; have BK106 := n2_; have HB := n3_; clear n0_ n1_ n2_ n3_; (try clear hb); (try clear hb2); (try clear hk); (try clear hi)) | ((with_reducible refine gate_dst (N := 3) rfl ?_); refine box_event ?hg (N := 3) ?hd (cs := #[.int .u64 0]) (t := 85) ?hr ?_; (case hd => rfl); (case hg => rfl); (case hr => first | (go_simp; done) | (go_simp; rfl)); intro gb108 hg w22 hbox hb; have n0_ := Aside0.mk (blk_below (g := 0) (o := .cells #[.int .u64 0, .int .u64 0, .bool true] tG0 frG0) (by (with_reducible repeat (first | refine blk_drewN ?_ _ | refine blk_drew ?_ | refine blk_alloc ?_ _)); exact BK80.out) hb); have n1_ := Aside0.mk (blk_below (g := gb105) (o := .cells #[.int .u64 a0_0, .int .u64 a0_1, .int .u64 a0_2] 98 (0, 0)) (by (with_reducible repeat (first | refine blk_drewN ?_ _ | refine blk_drew ?_ | refine blk_alloc ?_ _)); exact BK105.out) hb); have n2_ := Aside0.mk (blk_below (g := gb106) (o := .cells #[.int .u64 0, .int .u64 0, .bool false] 26 (0, 0)) (by (with_reducible repeat (first | refine blk_drewN ?_ _ | refine blk_drew ?_ | refine blk_alloc ?_ _)); exact BK106.out) hb); have n3_ := Aside0.mk (below_step (by repeat (first | (with_reducible first | exact HB.out | apply below_alloc | apply pw_below_drewN | apply below_drew1 | refine below_set ?_ GE80.out | refine below_set ?_ GE105.out | refine below_set ?_ GE106.out) | exact HB.out)) hb); have n4_ := Aside0.mk (hbox); have n5_ := Aside0.mk ((by rw [hg]; exact (below_size (by repeat (first | (with_reducible first | exact HB.out | apply below_alloc | apply pw_below_drewN | apply below_drew1 | refine below_set ?_ GE80.out | refine below_set ?_ GE105.out | refine below_set ?_ GE106.out) | exact HB.out))) : w.heap.size ≤ gb108)); have n6_ := Aside0.mk ((by rw [hg]; exact (below_size (by repeat (first | (with_reducible first | exact HB.out | apply below_alloc | apply pw_below_drewN | apply below_drew1 | refine below_set ?_ GE80.out | refine below_set ?_ GE105.out | refine below_set ?_ GE106.out) | exact HB.out))) : w.heap.size ≤ gb108)); have n7_ := Aside0.mk ((by rw [hg]; exact Nat.ne_of_lt (blk_lt (g := 0) (o := .cells #[.int .u64 0, .int .u64 0, .bool true] tG0 frG0) (by (with_reducible repeat (first | refine blk_drewN ?_ _ | refine blk_drew ?_ | refine blk_alloc ?_ _)); exact BK80.out)) : 0 ≠ gb108)); have n8_ := Aside0.mk ((by rw [hg]; exact Nat.ne_of_gt (blk_lt (g := 0) (o := .cells #[.int .u64 0, .int .u64 0, .bool true] tG0 frG0) (by (with_reducible repeat (first | refine blk_drewN ?_ _ | refine blk_drew ?_ | refine blk_alloc ?_ _)); exact BK80.out)) : gb108 ≠ 0)); have n9_ := Aside0.mk ((by rw [hg]; exact Nat.ne_of_lt (blk_lt (g := gb105) (o := .cells #[.int .u64 a0_0, .int .u64 a0_1, .int .u64 a0_2] 98 (0, 0)) (by (with_reducible repeat (first | refine blk_drewN ?_ _ | refine blk_drew ?_ | refine blk_alloc ?_ _)); exact BK105.out)) : gb105 ≠ gb108)); have n10_ := Aside0.mk ((by rw [hg]; exact Nat.ne_of_gt (blk_lt (g := gb105) (o := .cells #[.int .u64 a0_0, .int .u64 a0_1, .int .u64 a0_2] 98 (0, 0)) (by (with_reducible repeat (first | refine blk_drewN ?_ _ | refine blk_drew ?_ | refine blk_alloc ?_ _)); exact BK105.out)) : gb108 ≠ gb105)); have n11_ := Aside0.mk ((by rw [hg]; exact Nat.ne_of_lt (blk_lt (g := gb106) (o := .cells #[.int .u64 0, .int .u64 0, .bool false] 26 (0, 0)) (by (with_reducible repeat (first | refine blk_drewN ?_ _ | refine blk_drew ?_ | refine blk_alloc ?_ _)); exact BK106.out)) : gb106 ≠ gb108)); have n12_ := Aside0.mk ((by rw [hg]; exact Nat.ne_of_gt (blk_lt (g := gb106) (o := .cells #[.int .u64 0, .int .u64 0, .bool false] 26 (0, 0)) (by (with_reducible repeat (first | refine blk_drewN ?_ _ | refine blk_drew ?_ | refine blk_alloc ?_ _)); exact BK106.out)) : gb108 ≠ gb106)); clear BK80; clear BK105; clear BK106; clear HB; have BK80 := n0_; have BK105 := n1_; have BK106 := n2_; have HB := n3_; have BK108 := n4_; have GW108 := n5_; have GE108 := n6_; have NB80_108 := n7_; have NB108_80 := n8_; have NB105_108 := n9_; have NB108_105 := n10_; have NB106_108 := n11_; have NB108_106 := n12_; clear n0_ n1_ n2_ n3_ n4_ n5_ n6_ n7_ n8_ n9_ n10_ n11_ n12_; clear hb hbox hg; have hnb23 := NB108_80.out; have hnc23 := NB80_108.out; have hnb24 := NB108_105.out; have hnc24 := NB105_108.out; have hnb25 := NB108_106.out; have hnc25 := NB106_108.out; have hcz26_0 : w22.cell? ⟨gb108, 0, none⟩ = some (.int .u64 0) := (blk_cell BK108.out 0).trans rfl; have hfz26_0 := blk_frozen BK108.out 0) | ((with_reducible refine gate_callee (f := 111) rfl ?_); refine goesL_ (some 15) rfl rfl Tryd.func111 (by kernel_rfl) rfl #[.agg #[.int .u64 t107], .agg #[.int .u64 t107]] rfl (by (try simp only [List.map_toArray, List.map_cons, List.map_nil]); first | done | rfl | (simp only [List.length_drop, List.length_take]; rfl)) ?_; (with_reducible refine (impl_num_impl_fieldP_times.calls k t107 t107 t109 _ A12.out).mono ?_); rintro e w27 ⟨rfl, hb⟩; refine ⟨_, rfl, ?_⟩; have n0_ := Aside0.mk (blk_below (g := 0) (o := .cells #[.int .u64 0, .int .u64 0, .bool true] tG0 frG0) (by (with_reducible repeat (first | refine blk_drewN ?_ _ | refine blk_drew ?_ | refine blk_alloc ?_ _)); refine blk_farG ?_ NB80_108.out _; (with_reducible repeat (first | refine blk_drewN ?_ _ | refine blk_drew ?_ | refine blk_alloc ?_ _)); exact BK80.out) hb); have n1_ := Aside0.mk (blk_below (g := gb105) (o := .cells #[.int .u64 a0_0, .int .u64 a0_1, .int .u64 a0_2] 98 (0, 0)) (by (with_reducible repeat (first | refine blk_drewN ?_ _ | refine blk_drew ?_ | refine blk_alloc ?_ _)); refine blk_far ?_ NB105_108.out _; (with_reducible repeat (first | refine blk_drewN ?_ _ | refine blk_drew ?_ | refine blk_alloc ?_ _)); exact BK105.out) hb); have n2_ := Aside0.mk (blk_below (g := gb106) (o := .cells #[.int .u64 0, .int .u64 0, .bool false] 26 (0, 0)) (by (with_reducible repeat (first | refine blk_drewN ?_ _ | refine blk_drew ?_ | refine blk_alloc ?_ _)); refine blk_far ?_ NB106_108.out _; (with_reducible repeat (first | refine blk_drewN ?_ _ | refine blk_drew ?_ | refine blk_alloc ?_ _)); exact BK106.out) hb); have n3_ := Aside0.mk (blk_below (g := gb108) (o := .cells #[.int .u64 t107] 85 (0, 0)) (by (with_reducible repeat (first | refine blk_drewN ?_ _ | refine blk_drew ?_ | refine blk_alloc ?_ _)); refine blk_put (cs := #[.int .u64 0]) ?_ 0 _ rfl; (with_reducible repeat (first | refine blk_drewN ?_ _ | refine blk_drew ?_ | refine blk_alloc ?_ _)); exact BK108.out) hb); have n4_ := Aside0.mk (below_step (by repeat (first | (with_reducible first | exact HB.out | apply below_alloc | apply pw_below_drewN | apply below_drew1 | refine below_set ?_ GE80.out | refine below_set ?_ GE105.out | refine below_set ?_ GE106.out | refine below_set ?_ GE108.out) | exact HB.out)) hb); clear BK80; clear BK105; clear BK106; clear BK108; clear HB; have BK80 := n0_; have BK105 := n1_; have BK106 := n2_; have BK108 := n3_; have HB := n4_; clear n0_ n1_ n2_ n3_ n4_; (try clear hb); (try clear hb2); (try clear hk); (try clear hi)) | ((with_reducible refine gate_dst (N := 4) rfl ?_); refine box_event ?hg (N := 4) ?hd (cs := #[.int .u64 0]) (t := 85) ?hr ?_; (case hd => rfl); (case hg => rfl); (case hr => first | (go_simp; done) | (go_simp; rfl)); intro gb110 hg w28 hbox hb; have n0_ := Aside0.mk (blk_below (g := 0) (o := .cells #[.int .u64 0, .int .u64 0, .bool true] tG0 frG0) (by (with_reducible repeat (first | refine blk_drewN ?_ _ | refine blk_drew ?_ | refine blk_alloc ?_ _)); exact BK80.out) hb); have n1_ := Aside0.mk (blk_below (g := gb105) (o := .cells #[.int .u64 a0_0, .int .u64 a0_1, .int .u64 a0_2] 98 (0, 0)) (by (with_reducible repeat (first | refine blk_drewN ?_ _ | refine blk_drew ?_ | refine blk_alloc ?_ _)); exact BK105.out) hb); have n2_ := Aside0.mk (blk_below (g := gb106) (o := .cells #[.int .u64 0, .int .u64 0, .bool false] 26 (0, 0)) (by (with_reducible repeat (first | refine blk_drewN ?_ _ | refine blk_drew ?_ | refine blk_alloc ?_ _)); exact BK106.out) hb); have n3_ := Aside0.mk (blk_below (g := gb108) (o := .cells #[.int .u64 t107] 85 (0, 0)) (by (with_reducible repeat (first | refine blk_drewN ?_ _ | refine blk_drew ?_ | refine blk_alloc ?_ _)); exact BK108.out) hb); have n4_ := Aside0.mk (below_step (by repeat (first | (with_reducible first | exact HB.out | apply below_alloc | apply pw_below_drewN | apply below_drew1 | refine below_set ?_ GE80.out | refine below_set ?_ GE105.out | refine below_set ?_ GE106.out | refine below_set ?_ GE108.out) | exact HB.out)) hb); have n5_ := Aside0.mk (hbox); have n6_ := Aside0.mk ((by rw [hg]; exact (below_size (by repeat (first | (with_reducible first | exact HB.out | apply below_alloc | apply pw_below_drewN | apply below_drew1 | refine below_set ?_ GE80.out | refine below_set ?_ GE105.out | refine below_set ?_ GE106.out | refine below_set ?_ GE108.out) | exact HB.out))) : w.heap.size ≤ gb110)); have n7_ := Aside0.mk ((by rw [hg]; exact (below_size (by repeat (first | (with_reducible first | exact HB.out | apply below_alloc | apply pw_below_drewN | apply below_drew1 | refine below_set ?_ GE80.out | refine below_set ?_ GE105.out | refine below_set ?_ GE106.out | refine below_set ?_ GE108.out) | exact HB.out))) : w.heap.size ≤ gb110)); have n8_ := Aside0.mk ((by rw [hg]; exact Nat.ne_of_lt (blk_lt (g := 0) (o := .cells #[.int .u64 0, .int .u64 0, .bool true] tG0 frG0) (by (with_reducible repeat (first | refine blk_drewN ?_ _ | refine blk_drew ?_ | refine blk_alloc ?_ _)); exact BK80.out)) : 0 ≠ gb110)); have n9_ := Aside0.mk ((by rw [hg]; exact Nat.ne_of_gt (blk_lt (g := 0) (o := .cells #[.int .u64 0, .int .u64 0, .bool true] tG0 frG0) (by (with_reducible repeat (first | refine blk_drewN ?_ _ | refine blk_drew ?_ | refine blk_alloc ?_ _)); exact BK80.out)) : gb110 ≠ 0)); have n10_ := Aside0.mk ((by rw [hg]; exact Nat.ne_of_lt (blk_lt (g := gb105) (o := .cells #[.int .u64 a0_0, .int .u64 a0_1, .int .u64 a0_2] 98 (0, 0)) (by (with_reducible repeat (first | refine blk_drewN ?_ _ | refine blk_drew ?_ | refine blk_alloc ?_ _)); exact BK105.out)) : gb105 ≠ gb110)); have n11_ := Aside0.mk ((by rw [hg]; exact Nat.ne_of_gt (blk_lt (g := gb105) (o := .cells #[.int .u64 a0_0, .int .u64 a0_1, .int .u64 a0_2] 98 (0, 0)) (by (with_reducible repeat (first | refine blk_drewN ?_ _ | refine blk_drew ?_ | refine blk_alloc ?_ _)); exact BK105.out)) : gb110 ≠ gb105)); have n12_ := Aside0.mk ((by rw [hg]; exact Nat.ne_of_lt (blk_lt (g := gb106) (o := .cells #[.int .u64 0, .int .u64 0, .bool false] 26 (0, 0)) (by (with_reducible repeat (first | refine blk_drewN ?_ _ | refine blk_drew ?_ | refine blk_alloc ?_ _)); exact BK106.out)) : gb106 ≠ gb110)); have n13_ := Aside0.mk ((by rw [hg]; exact Nat.ne_of_gt (blk_lt (g := gb106) (o := .cells #[.int .u64 0, .int .u64 0, .bool false] 26 (0, 0)) (by (with_reducible repeat (first | refine blk_drewN ?_ _ | refine blk_drew ?_ | refine blk_alloc ?_ _)); exact BK106.out)) : gb110 ≠ gb106)); have n14_ := Aside0.mk ((by rw [hg]; exact Nat.ne_of_lt (blk_lt (g := gb108) (o := .cells #[.int .u64 t107] 85 (0, 0)) (by (with_reducible repeat (first | refine blk_drewN ?_ _ | refine blk_drew ?_ | refine blk_alloc ?_ _)); exact BK108.out)) : gb108 ≠ gb110)); have n15_ := Aside0.mk ((by rw [hg]; exact Nat.ne_of_gt (blk_lt (g := gb108) (o := .cells #[.int .u64 t107] 85 (0, 0)) (by (with_reducible repeat (first | refine blk_drewN ?_ _ | refine blk_drew ?_ | refine blk_alloc ?_ _)); exact BK108.out)) : gb110 ≠ gb108)); clear BK80; clear BK105; clear BK106; clear BK108; clear HB; have BK80 := n0_; have BK105 := n1_; have BK106 := n2_; have BK108 := n3_; have HB := n4_; have BK110 := n5_; have GW110 := n6_; have GE110 := n7_; have NB80_110 := n8_; have NB110_80 := n9_; have NB105_110 := n10_; have NB110_105 := n11_; have NB106_110 := n12_; have NB110_106 := n13_; have NB108_110 := n14_; have NB110_108 := n15_; clear n0_ n1_ n2_ n3_ n4_ n5_ n6_ n7_ n8_ n9_ n10_ n11_ n12_ n13_ n14_ n15_; clear hb hbox hg; have hnb29 := NB110_80.out; have hnc29 := NB80_110.out; have hnb30 := NB110_105.out; have hnc30 := NB105_110.out; have hnb31 := NB110_106.out; have hnc31 := NB106_110.out; have hnb32 := NB110_108.out; have hnc32 := NB108_110.out; have hcz33_0 : w28.cell? ⟨gb110, 0, none⟩ = some (.int .u64 0) := (blk_cell BK110.out 0).trans rfl; have hfz33_0 := blk_frozen BK110.out 0))
    have n0_ : Aside0 ((w28.setCell ⟨gb110, 0, none⟩ (.int .u64 t109)).heap[0]? = some (.cells #[.int .u64 0, .int .u64 0, .bool true] tG0 frG0)) := ⟨by (with_reducible repeat (first | refine blk_drewN ?_ _ | refine blk_drew ?_ | refine blk_alloc ?_ _)); refine blk_farG ?_ NB80_110.out _; (with_reducible repeat (first | refine blk_drewN ?_ _ | refine blk_drew ?_ | refine blk_alloc ?_ _)); exact BK80.out⟩
    have n1_ : Aside0 ((w28.setCell ⟨gb110, 0, none⟩ (.int .u64 t109)).heap[gb105]? = some (.cells #[.int .u64 a0_0, .int .u64 a0_1, .int .u64 a0_2] 98 (0, 0))) := ⟨by (with_reducible repeat (first | refine blk_drewN ?_ _ | refine blk_drew ?_ | refine blk_alloc ?_ _)); refine blk_far ?_ NB105_110.out _; (with_reducible repeat (first | refine blk_drewN ?_ _ | refine blk_drew ?_ | refine blk_alloc ?_ _)); exact BK105.out⟩
    have n2_ : Aside0 ((w28.setCell ⟨gb110, 0, none⟩ (.int .u64 t109)).heap[gb106]? = some (.cells #[.int .u64 0, .int .u64 0, .bool false] 26 (0, 0))) := ⟨by (with_reducible repeat (first | refine blk_drewN ?_ _ | refine blk_drew ?_ | refine blk_alloc ?_ _)); refine blk_far ?_ NB106_110.out _; (with_reducible repeat (first | refine blk_drewN ?_ _ | refine blk_drew ?_ | refine blk_alloc ?_ _)); exact BK106.out⟩
    have n3_ : Aside0 ((w28.setCell ⟨gb110, 0, none⟩ (.int .u64 t109)).heap[gb108]? = some (.cells #[.int .u64 t107] 85 (0, 0))) := ⟨by (with_reducible repeat (first | refine blk_drewN ?_ _ | refine blk_drew ?_ | refine blk_alloc ?_ _)); refine blk_far ?_ NB108_110.out _; (with_reducible repeat (first | refine blk_drewN ?_ _ | refine blk_drew ?_ | refine blk_alloc ?_ _)); exact BK108.out⟩
    have n4_ : Aside0 ((w28.setCell ⟨gb110, 0, none⟩ (.int .u64 t109)).heap[gb110]? = some (.cells #[.int .u64 t109] 85 (0, 0))) := ⟨by (with_reducible repeat (first | refine blk_drewN ?_ _ | refine blk_drew ?_ | refine blk_alloc ?_ _)); refine blk_put (cs := #[.int .u64 0]) ?_ 0 _ rfl; (with_reducible repeat (first | refine blk_drewN ?_ _ | refine blk_drew ?_ | refine blk_alloc ?_ _)); exact BK110.out⟩
    have n5_ : Aside0 (Below w.heap.size w (w28.setCell ⟨gb110, 0, none⟩ (.int .u64 t109))) := ⟨by repeat (first | (with_reducible first | exact HB.out | apply below_alloc | apply pw_below_drewN | apply below_drew1 | refine below_set ?_ GE80.out | refine below_set ?_ GE105.out | refine below_set ?_ GE106.out | refine below_set ?_ GE108.out | refine below_set ?_ GE110.out) | exact HB.out)⟩
    (try clear BK80)
    (try clear BK105)
    (try clear BK106)
    (try clear BK108)
    (try clear BK110)
    (try clear HB)
    generalize (w28.setCell ⟨gb110, 0, none⟩ (.int .u64 t109)) = w34 at n0_ n1_ n2_ n3_ n4_ n5_ ⊢
    have BK80 := n0_
    have BK105 := n1_
    have BK106 := n2_
    have BK108 := n3_
    have BK110 := n4_
    have HB := n5_
    clear n0_ n1_ n2_ n3_ n4_ n5_
    have n0_ := Aside0.mk (blk_drew BK80.out)
    have n1_ := Aside0.mk (blk_drew BK105.out)
    have n2_ := Aside0.mk (blk_drew BK106.out)
    have n3_ := Aside0.mk (blk_drew BK108.out)
    have n4_ := Aside0.mk (blk_drew BK110.out)
    have n5_ := Aside0.mk (below_drew1 HB.out)
    clear BK80
    clear BK105
    clear BK106
    clear BK108
    clear BK110
    clear HB
    have BK80 := n0_
    have BK105 := n1_
    have BK106 := n2_
    have BK108 := n3_
    have BK110 := n4_
    have HB := n5_
    clear n0_ n1_ n2_ n3_ n4_ n5_
    refine start_ (n := 14) (S := fun w' => w'.cell? ⟨gb105, 0, none⟩ = some (.int .u64 a0_0) ∧ w'.cell? ⟨gb105, 1, none⟩ = some (.int .u64 a0_1) ∧ w'.cell? ⟨gb105, 2, none⟩ = some (.int .u64 a0_2) ∧ w'.cell? ⟨gb110, 0, none⟩ = some (.int .u64 t109) ∧ w'.cell? ⟨gb108, 0, none⟩ = some (.int .u64 t107)) (ds := []) #[false, false, false, false, false, false, false, false, false, false, false, false, false, false] (by kernel_rfl) rfl rfl ⟨(blk_cell BK105.out 0).trans rfl, (blk_cell BK105.out 1).trans rfl, (blk_cell BK105.out 2).trans rfl, (blk_cell BK110.out 0).trans rfl, (blk_cell BK108.out 0).trans rfl⟩ (fun hHeld => ?_); refine with_tabW impl_spatial_point.tab5 impl_spatial_point.bits5 (fun HT_ HW_ => ?_)
    generalize w34.drew = w35 at BK80 BK105 BK106 BK108 BK110 HB hHeld ⊢
    refine pure_ (i := 0) (N := some 16) (v := ?_) (a' := ?_) #[true, false, false, false, false, false, false, false, false, false, false, false, false, false] rfl rfl (any_of HT_.out (by kernel_rfl)) (fun _ _ _ h => h) (Or.inl ⟨by rfl, ?_⟩) ?_ ?_
    rotate_left
    · intro w'
      go_simp
      with_reducible rfl
    rotate_left
    · simp only [Act.put, List.setIfInBounds_toArray, List.set_cons_zero, List.set_cons_succ, i64_w, i32_w]
      rfl
    refine pure_ (i := 5) (N := some 21) (v := ?_) (a' := ?_) #[true, false, false, false, false, true, false, false, false, false, false, false, false, false] rfl rfl (any_of HT_.out (by kernel_rfl)) (fun _ _ _ h => h) (Or.inl ⟨by rfl, ?_⟩) ?_ ?_
    rotate_left
    · intro w'
      go_simp
      with_reducible rfl
    rotate_left
    · simp only [Act.put, List.setIfInBounds_toArray, List.set_cons_zero, List.set_cons_succ, i64_w, i32_w]
      rfl
    refine take_ (i := 1) (N := some 17) (v := ?_) (a' := ?_) #[true, true, false, false, false, true, false, false, false, false, false, false, false, false] rfl rfl (take_ofW HT_.out HW_.out (by kernel_rfl)) (fun _ _ _ h => h) (Or.inl ⟨by rfl, ?_⟩) hHeld ?_ ?_
    rotate_left
    · rintro w' ⟨s0, s1, s2, s3, s4⟩
      go_simp
      with_reducible rfl
    rotate_left
    · simp only [Act.put, List.setIfInBounds_toArray, List.set_cons_zero, List.set_cons_succ, i64_w, i32_w]
      rfl
    refine take_ (i := 2) (N := some 18) (v := ?_) (a' := ?_) #[true, true, true, false, false, true, false, false, false, false, false, false, false, false] rfl rfl (take_ofW HT_.out HW_.out (by kernel_rfl)) (fun _ _ _ h => h) (Or.inl ⟨by rfl, ?_⟩) hHeld ?_ ?_
    rotate_left
    · rintro w' ⟨s0, s1, s2, s3, s4⟩
      go_simp
      with_reducible rfl
    rotate_left
    · simp only [Act.put, List.setIfInBounds_toArray, List.set_cons_zero, List.set_cons_succ, i64_w, i32_w]
      rfl
    refine take_ (i := 6) (N := some 22) (v := ?_) (a' := ?_) #[true, true, true, false, false, true, true, false, false, false, false, false, false, false] rfl rfl (take_ofW HT_.out HW_.out (by kernel_rfl)) (fun _ _ _ h => h) (Or.inl ⟨by rfl, ?_⟩) hHeld ?_ ?_
    rotate_left
    · rintro w' ⟨s0, s1, s2, s3, s4⟩
      go_simp
      with_reducible rfl
    rotate_left
    · simp only [Act.put, List.setIfInBounds_toArray, List.set_cons_zero, List.set_cons_succ, i64_w, i32_w]
      rfl
    refine take_ (i := 7) (N := some 23) (v := ?_) (a' := ?_) #[true, true, true, false, false, true, true, true, false, false, false, false, false, false] rfl rfl (take_ofW HT_.out HW_.out (by kernel_rfl)) (fun _ _ _ h => h) (Or.inl ⟨by rfl, ?_⟩) hHeld ?_ ?_
    rotate_left
    · rintro w' ⟨s0, s1, s2, s3, s4⟩
      go_simp
      with_reducible rfl
    rotate_left
    · simp only [Act.put, List.setIfInBounds_toArray, List.set_cons_zero, List.set_cons_succ, i64_w, i32_w]
      rfl
    refine take_ (i := 9) (N := some 25) (v := ?_) (a' := ?_) #[true, true, true, false, false, true, true, true, false, true, false, false, false, false] rfl rfl (take_ofW HT_.out HW_.out (by kernel_rfl)) (fun _ _ _ h => h) (Or.inl ⟨by rfl, ?_⟩) hHeld ?_ ?_
    rotate_left
    · rintro w' ⟨s0, s1, s2, s3, s4⟩
      go_simp
      with_reducible rfl
    rotate_left
    · simp only [Act.put, List.setIfInBounds_toArray, List.set_cons_zero, List.set_cons_succ, i64_w, i32_w]
      rfl
    refine one_ (i := 3) (N := some 19) #[true, true, true, true, false, true, true, true, false, true, false, false, false, false] rfl rfl (one_of HT_.out (by kernel_rfl)) (by decide) (fun K hK => ?_)
    refine goes_ Tryd.func111 (by kernel_rfl) rfl #[.agg #[.int .u64 a0_0], .agg #[.int .u64 t109]] (by rfl) rfl rfl (by (try simp only [List.map_toArray, List.map_cons, List.map_nil]); first | done | rfl | (simp only [List.length_drop, List.length_take]; rfl)) ?_
    with_reducible refine (impl_num_impl_fieldP_times.calls k a0_0 t109 t111 _ A13.out).mono ?_
    rintro e w36 ⟨rfl, hb⟩
    refine ⟨_, rfl, ?_⟩
    have n0_ := Aside0.mk (blk_below (g := 0) (o := .cells #[.int .u64 0, .int .u64 0, .bool true] tG0 frG0) (by (with_reducible repeat (first | refine blk_drewN ?_ _ | refine blk_drew ?_ | refine blk_alloc ?_ _)); exact BK80.out) hb)
    have n1_ := Aside0.mk (blk_below (g := gb105) (o := .cells #[.int .u64 a0_0, .int .u64 a0_1, .int .u64 a0_2] 98 (0, 0)) (by (with_reducible repeat (first | refine blk_drewN ?_ _ | refine blk_drew ?_ | refine blk_alloc ?_ _)); exact BK105.out) hb)
    have n2_ := Aside0.mk (blk_below (g := gb106) (o := .cells #[.int .u64 0, .int .u64 0, .bool false] 26 (0, 0)) (by (with_reducible repeat (first | refine blk_drewN ?_ _ | refine blk_drew ?_ | refine blk_alloc ?_ _)); exact BK106.out) hb)
    have n3_ := Aside0.mk (blk_below (g := gb108) (o := .cells #[.int .u64 t107] 85 (0, 0)) (by (with_reducible repeat (first | refine blk_drewN ?_ _ | refine blk_drew ?_ | refine blk_alloc ?_ _)); exact BK108.out) hb)
    have n4_ := Aside0.mk (blk_below (g := gb110) (o := .cells #[.int .u64 t109] 85 (0, 0)) (by (with_reducible repeat (first | refine blk_drewN ?_ _ | refine blk_drew ?_ | refine blk_alloc ?_ _)); exact BK110.out) hb)
    have n5_ := Aside0.mk (below_step (by repeat (first | (with_reducible first | exact HB.out | apply below_alloc | apply pw_below_drewN | apply below_drew1 | refine below_set ?_ GE80.out | refine below_set ?_ GE105.out | refine below_set ?_ GE106.out | refine below_set ?_ GE108.out | refine below_set ?_ GE110.out) | exact HB.out)) hb)
    clear BK80
    clear BK105
    clear BK106
    clear BK108
    clear BK110
    clear HB
    have BK80 := n0_
    have BK105 := n1_
    have BK106 := n2_
    have BK108 := n3_
    have BK110 := n4_
    have HB := n5_
    clear n0_ n1_ n2_ n3_ n4_ n5_
    (try clear hb)
    (try clear hb2)
    (try clear hk)
    (try clear hi)
    refine hK.out _ _ ⟨(blk_cell BK105.out 0).trans rfl, (blk_cell BK105.out 1).trans rfl, (blk_cell BK105.out 2).trans rfl, (blk_cell BK110.out 0).trans rfl, (blk_cell BK108.out 0).trans rfl⟩ (fun hHeld => ?_)
    clear hK K
    refine norm_ (a' := ?_) ?_ ?_
    rotate_left
    · show Act.put _ (some 19) _ = _
      simp only [Act.put, List.setIfInBounds_toArray, List.set_cons_zero, List.set_cons_succ, i64_w, i32_w]
      rfl
    refine pure_ (i := 4) (N := some 20) (v := ?_) (a' := ?_) #[true, true, true, true, true, true, true, true, false, true, false, false, false, false] rfl rfl (any_of HT_.out (by kernel_rfl)) (fun _ _ _ h => h) (Or.inl ⟨by rfl, ?_⟩) ?_ ?_
    rotate_left
    · intro w'
      go_simp
      with_reducible rfl
    rotate_left
    · simp only [Act.put, List.setIfInBounds_toArray, List.set_cons_zero, List.set_cons_succ, i64_w, i32_w]
      rfl
    refine one_ (i := 8) (N := some 24) #[true, true, true, true, true, true, true, true, true, true, false, false, false, false] rfl rfl (one_of HT_.out (by kernel_rfl)) (by decide) (fun K hK => ?_)
    refine goes_ Tryd.func111 (by kernel_rfl) rfl #[.agg #[.int .u64 a0_1], .agg #[.int .u64 t109]] (by rfl) rfl rfl (by (try simp only [List.map_toArray, List.map_cons, List.map_nil]); first | done | rfl | (simp only [List.length_drop, List.length_take]; rfl)) ?_
    with_reducible refine (impl_num_impl_fieldP_times.calls k a0_1 t109 t112 _ A14.out).mono ?_
    rintro e w37 ⟨rfl, hb⟩
    refine ⟨_, rfl, ?_⟩
    have n0_ := Aside0.mk (blk_below (g := 0) (o := .cells #[.int .u64 0, .int .u64 0, .bool true] tG0 frG0) (by (with_reducible repeat (first | refine blk_drewN ?_ _ | refine blk_drew ?_ | refine blk_alloc ?_ _)); exact BK80.out) hb)
    have n1_ := Aside0.mk (blk_below (g := gb105) (o := .cells #[.int .u64 a0_0, .int .u64 a0_1, .int .u64 a0_2] 98 (0, 0)) (by (with_reducible repeat (first | refine blk_drewN ?_ _ | refine blk_drew ?_ | refine blk_alloc ?_ _)); exact BK105.out) hb)
    have n2_ := Aside0.mk (blk_below (g := gb106) (o := .cells #[.int .u64 0, .int .u64 0, .bool false] 26 (0, 0)) (by (with_reducible repeat (first | refine blk_drewN ?_ _ | refine blk_drew ?_ | refine blk_alloc ?_ _)); exact BK106.out) hb)
    have n3_ := Aside0.mk (blk_below (g := gb108) (o := .cells #[.int .u64 t107] 85 (0, 0)) (by (with_reducible repeat (first | refine blk_drewN ?_ _ | refine blk_drew ?_ | refine blk_alloc ?_ _)); exact BK108.out) hb)
    have n4_ := Aside0.mk (blk_below (g := gb110) (o := .cells #[.int .u64 t109] 85 (0, 0)) (by (with_reducible repeat (first | refine blk_drewN ?_ _ | refine blk_drew ?_ | refine blk_alloc ?_ _)); exact BK110.out) hb)
    have n5_ := Aside0.mk (below_step (by repeat (first | (with_reducible first | exact HB.out | apply below_alloc | apply pw_below_drewN | apply below_drew1 | refine below_set ?_ GE80.out | refine below_set ?_ GE105.out | refine below_set ?_ GE106.out | refine below_set ?_ GE108.out | refine below_set ?_ GE110.out) | exact HB.out)) hb)
    clear BK80
    clear BK105
    clear BK106
    clear BK108
    clear BK110
    clear HB
    have BK80 := n0_
    have BK105 := n1_
    have BK106 := n2_
    have BK108 := n3_
    have BK110 := n4_
    have HB := n5_
    clear n0_ n1_ n2_ n3_ n4_ n5_
    (try clear hb)
    (try clear hb2)
    (try clear hk)
    (try clear hi)
    refine hK.out _ _ ⟨(blk_cell BK105.out 0).trans rfl, (blk_cell BK105.out 1).trans rfl, (blk_cell BK105.out 2).trans rfl, (blk_cell BK110.out 0).trans rfl, (blk_cell BK108.out 0).trans rfl⟩ (fun hHeld => ?_)
    clear hK K
    refine norm_ (a' := ?_) ?_ ?_
    rotate_left
    · show Act.put _ (some 24) _ = _
      simp only [Act.put, List.setIfInBounds_toArray, List.set_cons_zero, List.set_cons_succ, i64_w, i32_w]
      rfl
    refine one_ (i := 10) (N := some 26) #[true, true, true, true, true, true, true, true, true, true, true, false, false, false] rfl rfl (one_of HT_.out (by kernel_rfl)) (by decide) (fun K hK => ?_)
    refine goes_ Tryd.func111 (by kernel_rfl) rfl #[.agg #[.int .u64 t112], .agg #[.int .u64 t107]] (by rfl) rfl rfl (by (try simp only [List.map_toArray, List.map_cons, List.map_nil]); first | done | rfl | (simp only [List.length_drop, List.length_take]; rfl)) ?_
    with_reducible refine (impl_num_impl_fieldP_times.calls k t112 t107 t113 _ A15.out).mono ?_
    rintro e w38 ⟨rfl, hb⟩
    refine ⟨_, rfl, ?_⟩
    have n0_ := Aside0.mk (blk_below (g := 0) (o := .cells #[.int .u64 0, .int .u64 0, .bool true] tG0 frG0) (by (with_reducible repeat (first | refine blk_drewN ?_ _ | refine blk_drew ?_ | refine blk_alloc ?_ _)); exact BK80.out) hb)
    have n1_ := Aside0.mk (blk_below (g := gb105) (o := .cells #[.int .u64 a0_0, .int .u64 a0_1, .int .u64 a0_2] 98 (0, 0)) (by (with_reducible repeat (first | refine blk_drewN ?_ _ | refine blk_drew ?_ | refine blk_alloc ?_ _)); exact BK105.out) hb)
    have n2_ := Aside0.mk (blk_below (g := gb106) (o := .cells #[.int .u64 0, .int .u64 0, .bool false] 26 (0, 0)) (by (with_reducible repeat (first | refine blk_drewN ?_ _ | refine blk_drew ?_ | refine blk_alloc ?_ _)); exact BK106.out) hb)
    have n3_ := Aside0.mk (blk_below (g := gb108) (o := .cells #[.int .u64 t107] 85 (0, 0)) (by (with_reducible repeat (first | refine blk_drewN ?_ _ | refine blk_drew ?_ | refine blk_alloc ?_ _)); exact BK108.out) hb)
    have n4_ := Aside0.mk (blk_below (g := gb110) (o := .cells #[.int .u64 t109] 85 (0, 0)) (by (with_reducible repeat (first | refine blk_drewN ?_ _ | refine blk_drew ?_ | refine blk_alloc ?_ _)); exact BK110.out) hb)
    have n5_ := Aside0.mk (below_step (by repeat (first | (with_reducible first | exact HB.out | apply below_alloc | apply pw_below_drewN | apply below_drew1 | refine below_set ?_ GE80.out | refine below_set ?_ GE105.out | refine below_set ?_ GE106.out | refine below_set ?_ GE108.out | refine below_set ?_ GE110.out) | exact HB.out)) hb)
    clear BK80
    clear BK105
    clear BK106
    clear BK108
    clear BK110
    clear HB
    have BK80 := n0_
    have BK105 := n1_
    have BK106 := n2_
    have BK108 := n3_
    have BK110 := n4_
    have HB := n5_
    clear n0_ n1_ n2_ n3_ n4_ n5_
    (try clear hb)
    (try clear hb2)
    (try clear hk)
    (try clear hi)
    refine hK.out _ _ ⟨(blk_cell BK105.out 0).trans rfl, (blk_cell BK105.out 1).trans rfl, (blk_cell BK105.out 2).trans rfl, (blk_cell BK110.out 0).trans rfl, (blk_cell BK108.out 0).trans rfl⟩ (fun hHeld => ?_)
    clear hK K
    refine norm_ (a' := ?_) ?_ ?_
    rotate_left
    · show Act.put _ (some 26) _ = _
      simp only [Act.put, List.setIfInBounds_toArray, List.set_cons_zero, List.set_cons_succ, i64_w, i32_w]
      rfl
    refine pure_ (i := 11) (N := some 27) (v := ?_) (a' := ?_) #[true, true, true, true, true, true, true, true, true, true, true, true, false, false] rfl rfl (any_of HT_.out (by kernel_rfl)) (fun _ _ _ h => h) (Or.inl ⟨by rfl, ?_⟩) ?_ ?_
    rotate_left
    · intro w'
      go_simp
      with_reducible rfl
    rotate_left
    · simp only [Act.put, List.setIfInBounds_toArray, List.set_cons_zero, List.set_cons_succ, i64_w, i32_w]
      rfl
    refine pure_ (i := 12) (N := some 28) (v := ?_) (a' := ?_) #[true, true, true, true, true, true, true, true, true, true, true, true, true, false] rfl rfl (any_of HT_.out (by kernel_rfl)) (fun _ _ _ h => h) (Or.inl ⟨by rfl, ?_⟩) ?_ ?_
    rotate_left
    · intro w'
      go_simp
      with_reducible rfl
    rotate_left
    · simp only [Act.put, List.setIfInBounds_toArray, List.set_cons_zero, List.set_cons_succ, i64_w, i32_w]
      rfl
    refine one_ (i := 13) (N := none) #[true, true, true, true, true, true, true, true, true, true, true, true, true, true] rfl rfl (one_of HT_.out (by kernel_rfl)) (by decide) (fun K hK => ?_)
    have hs39 : w38.cell? ⟨gb106, 0, none⟩ = some (.int .u64 0) := (blk_cell BK106.out 0).trans rfl
    have hfs39 := blk_frozen BK106.out 0
    have hns39_0 := NB80_106.out
    have hns39_1 := NB105_106.out
    have hns39_3 := NB108_106.out
    have hns39_4 := NB110_106.out
    have hms39_0 := NB106_80.out
    have hms39_1 := NB106_105.out
    have hms39_3 := NB106_108.out
    have hms39_4 := NB106_110.out
    have hs40 : w38.cell? ⟨gb106, 1, none⟩ = some (.int .u64 0) := (blk_cell BK106.out 1).trans rfl
    have hfs40 := blk_frozen BK106.out 1
    have hns40_0 := NB80_106.out
    have hns40_1 := NB105_106.out
    have hns40_3 := NB108_106.out
    have hns40_4 := NB110_106.out
    have hms40_0 := NB106_80.out
    have hms40_1 := NB106_105.out
    have hms40_3 := NB106_108.out
    have hms40_4 := NB106_110.out
    have hs41 : w38.cell? ⟨gb106, 2, none⟩ = some (.bool false) := (blk_cell BK106.out 2).trans rfl
    have hfs41 := blk_frozen BK106.out 2
    have hns41_0 := NB80_106.out
    have hns41_1 := NB105_106.out
    have hns41_3 := NB108_106.out
    have hns41_4 := NB110_106.out
    have hms41_0 := NB106_80.out
    have hms41_1 := NB106_105.out
    have hms41_3 := NB106_108.out
    have hms41_4 := NB106_110.out
    refine skip_ (w1 := ?_) (by rfl) rfl ?_ ?_
    rotate_left
    · go_simp
      rfl
    refine hK.out _ _ ⟨((cell_far (p := ⟨gb106, _, none⟩) NB105_106.out _).trans (((cell_far (p := ⟨gb106, _, none⟩) NB105_106.out _).trans (((cell_far (p := ⟨gb106, _, none⟩) NB105_106.out _).trans (hHeld.1)))))), ((cell_far (p := ⟨gb106, _, none⟩) NB105_106.out _).trans (((cell_far (p := ⟨gb106, _, none⟩) NB105_106.out _).trans (((cell_far (p := ⟨gb106, _, none⟩) NB105_106.out _).trans (hHeld.2.1)))))), ((cell_far (p := ⟨gb106, _, none⟩) NB105_106.out _).trans (((cell_far (p := ⟨gb106, _, none⟩) NB105_106.out _).trans (((cell_far (p := ⟨gb106, _, none⟩) NB105_106.out _).trans (hHeld.2.2.1)))))), ((cell_far (p := ⟨gb106, _, none⟩) NB110_106.out _).trans (((cell_far (p := ⟨gb106, _, none⟩) NB110_106.out _).trans (((cell_far (p := ⟨gb106, _, none⟩) NB110_106.out _).trans (hHeld.2.2.2.1)))))), ((cell_far (p := ⟨gb106, _, none⟩) NB108_106.out _).trans (((cell_far (p := ⟨gb106, _, none⟩) NB108_106.out _).trans (((cell_far (p := ⟨gb106, _, none⟩) NB108_106.out _).trans (hHeld.2.2.2.2))))))⟩ (fun hHeld => ?_)
    clear hK K
    refine done_ (done_of HT_.out (by kernel_rfl)) ?_
    try go_wp2
    refine bodyPost_ret (results_cell_row rfl _ _ gb106 26 #[.int .u64 t111, .int .u64 t113, .bool false] (0, 0) _ rfl (by (with_reducible repeat (first | refine blk_drewN ?_ _ | refine blk_drew ?_ | refine blk_alloc ?_ _)); refine blk_put (cs := #[.int .u64 t111, .int .u64 t113, .bool false]) ?_ 2 _ rfl; (with_reducible repeat (first | refine blk_drewN ?_ _ | refine blk_drew ?_ | refine blk_alloc ?_ _)); refine blk_put (cs := #[.int .u64 t111, .int .u64 0, .bool false]) ?_ 1 _ rfl; (with_reducible repeat (first | refine blk_drewN ?_ _ | refine blk_drew ?_ | refine blk_alloc ?_ _)); refine blk_put (cs := #[.int .u64 0, .int .u64 0, .bool false]) ?_ 0 _ rfl; (with_reducible repeat (first | refine blk_drewN ?_ _ | refine blk_drew ?_ | refine blk_alloc ?_ _)); exact BK106.out) Tryd.underlying26 rfl (by kernel_rfl)) rfl ?_
    exact ⟨by first | rfl | (simp [errW_none, errW_some] <;> rfl) | (simp [*, errW_none, errW_some] <;> rfl), by repeat (first | (with_reducible first | exact HB.out | apply below_alloc | apply pw_below_drewN | apply below_drew1 | refine below_set ?_ GE80.out | refine below_set ?_ GE105.out | refine below_set ?_ GE106.out | refine below_set ?_ GE108.out | refine below_set ?_ GE110.out) | exact HB.out)⟩

end Go.Proofs.YtkefcokmghbmhaaDoor.C
end
