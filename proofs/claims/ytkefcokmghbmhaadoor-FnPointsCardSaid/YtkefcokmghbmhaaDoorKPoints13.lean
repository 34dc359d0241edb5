/- What the proof of FnPoints leans on, part 13: cut out of the texts of this claim's making by a program (wip/tools/pack.py). -/
import Derived.Test.YtkefcokmghbmhaaDoorKPoints0
import Derived.Test.YtkefcokmghbmhaaDoorKPoints5
import Derived.Test.YtkefcokmghbmhaaDoorKPoints6
import Derived.Test.YtkefcokmghbmhaaDoorKPoints7
import Derived.Test.YtkefcokmghbmhaaDoorKPoints9
import Derived.Test.YtkefcokmghbmhaaDoorKPoints10
import Derived.Test.YtkefcokmghbmhaaDoorKPoints11
import Derived.Test.YtkefcokmghbmhaaDoorKPoints12
import Derived.KernelRfl
import Derived.Outline
section
namespace Go.Proofs.YtkefcokmghbmhaaDoor.H2
open Go.RowKit Go.Shelf Go.Proofs.YtkefcokmghbmhaaDoorW.PrintWords Go.Proofs.YtkefcokmghbmhaaDoorW.PrintLast Go.Proofs.YtkefcokmghbmhaaDoorW.PrintMore Go.Proofs.YtkefcokmghbmhaaDoor.H0 Go.Proofs.YtkefcokmghbmhaaDoor.H1 Go.Proofs.YtkefcokmghbmhaaDoor.B
attribute [local go_sem] Oper.semAt_some
/-- the product modulo m; 0 for m 0 -/
def mm (x y m : Int) : Int := if m = 0 then 0 else x * y % m
theorem mm_range {x y m : Int} (h : 0 ≤ m) (hm : m < 18446744073709551616) : 0 ≤ mm x y m ∧ mm x y m < 18446744073709551616 := by
  unfold mm
  by_cases h0 : m = 0
  · rw [if_pos h0]; omega
  · rw [if_neg h0]
    have := Int.emod_nonneg (x * y) h0
    have := Int.emod_lt_of_pos (x * y) (show 0 < m by omega)
    omega
/-- one bit's step -/
def pst (a m r : Int) (b : Bool) : Int := if b then mm (mm r r m) a m else mm r r m
def pfold (a m : Int) (bs : List Bool) : Int := bs.foldl (pst a m) (1 % m)
theorem pfold_snoc (a m : Int) (bs : List Bool) (b : Bool) : pfold a m (bs ++ [b]) = pst a m (pfold a m bs) b := by simp [pfold]
theorem pfold_range {a m : Int} (h : 0 ≤ m) (hm : m < 18446744073709551616) (h0 : m ≠ 0) : ∀ (bs : List Bool) (r : Int), 0 ≤ r → r < 18446744073709551616 → 0 ≤ bs.foldl (pst a m) r ∧ bs.foldl (pst a m) r < 18446744073709551616
  | [], r, h1, h2 => ⟨h1, h2⟩
  | b :: bs, r, h1, h2 => by
    have := mm_range (x := r) (y := r) h hm
    have := mm_range (x := mm r r m) (y := a) h hm
    apply pfold_range h hm h0 bs
    · unfold pst; split <;> omega
    · unfold pst; split <;> omega

end Go.Proofs.YtkefcokmghbmhaaDoor.H2
end
section
namespace Go.Proofs.YtkefcokmghbmhaaDoor.H3
open Go.RowKit Go.Shelf Go.Proofs.YtkefcokmghbmhaaDoorW.PrintWords Go.Proofs.YtkefcokmghbmhaaDoorW.PrintLast Go.Proofs.YtkefcokmghbmhaaDoorW.PrintMore Go.Proofs.YtkefcokmghbmhaaDoor.H0 Go.Proofs.YtkefcokmghbmhaaDoor.H1 Go.Proofs.YtkefcokmghbmhaaDoor.H2 Go.Proofs.YtkefcokmghbmhaaDoor.B
attribute [local go_sem] Oper.semAt_some
theorem times_fieldP (x y : Int) (w : World) (hx0 : 0 ≤ x) (hx : x < 18446744073709551616) (hy0 : 0 ≤ y) (hy : y < 18446744073709551616) :
    Calls Tryd.prog 111 #[.agg #[.int .u64 x], .agg #[.int .u64 y]] w fun e w' => e = .returned (.agg #[.int .u64 (mm x y primefieldP)]) ∧ Below w.heap.size w w' :=
  impl_num_impl_fieldP_times.calls 10 x y _ w (by
    simp only [impl_num_impl_fieldP_times.f, impl_prime_impl_fieldP.f, Option.bind_some]
    rw [Pure.mulmod x y primefieldP hx0 hx hy0 hy (by decide) (by decide) (by omega)]; rfl)
theorem numOf_fieldP (x : Int) (hx : 0 ≤ x) (w : World) :
    Calls Tryd.prog 84 #[.int .u64 x] w fun e w' => e = .returned (.agg #[.int .u64 (x % primefieldP)]) ∧ Below w.heap.size w w' :=
  impl_numOf_impl_fieldP.calls x _ w (by
    simp only [impl_numOf_impl_fieldP.f, impl_prime_impl_fieldP.f, Option.bind_some]
    rw [if_neg (by decide), Int.tmod_eq_emod_of_nonneg hx])

def impl_num_impl_fieldP_power.f (a e : Int) : Option Int :=
  if 0 ≤ a ∧ a < 18446744073709551616 ∧ 0 ≤ e ∧ e < 18446744073709551616 then some (pfold a primefieldP (bitsOf e)) else none

set_option maxRecDepth 100000 in
set_option maxHeartbeats 4000000 in
theorem impl_num_impl_fieldP_power.calls (a e r : Int) (w : World) (h : impl_num_impl_fieldP_power.f a e = some r) :
    Calls Tryd.prog 125 #[.agg #[.int .u64 a], .int .u64 e] w fun en w' => en = .returned (.agg #[.int .u64 r]) ∧ Below w.heap.size w w' := by
  unfold impl_num_impl_fieldP_power.f at h
  split at h
  case isFalse => cases h
  rename_i hh
  obtain ⟨ha0, ha1, he0, he1⟩ := hh
  obtain rfl := Option.some.inj h
  clear h
  refine (callsIn_wide (n := 5)).1 ?_
  refine callsIn_of_wp_marks Tryd.func125 rfl trivial ?_ rfl
  simp only [Tryd.ntmps125, List.size_toArray, List.length_cons, List.length_nil, Nat.reduceAdd, Nat.reduceSub, Array.replicate_succ, Array.replicate_zero, List.push_toArray, List.append_toArray, List.nil_append, List.cons_append]
  gi_wp2_with (first | (refine ⟨trivial, ?_⟩; gi_at_call 84; refine (callsIn_wide.2 (numOf_fieldP 1 (by omega) _)).mono ?_; rintro en w1 ⟨rfl, hb1⟩) | (refine ⟨trivial, ?_⟩; gi_at_call 126; refine (callsIn_wide.2 (highBits_any e _)).mono ?_; rintro en w' ⟨rfl, rfl⟩))
  have hA0 : Boxed w1 w.heap.size 85 (.int .u64 a) := boxed_below ((Boxed.new w _ _).alloc _) hb1
  have hR0 : Boxed w1 (w.heap.size + 1) 85 (.int .u64 0) := by
    have := Boxed.new (w.alloc (.cells #[.int .u64 a] 85)) 85 (.int .u64 0)
    rw [World.size_alloc] at this
    exact boxed_below this hb1
  have hs1 : w.heap.size + 2 ≤ w1.heap.size := by have := hb1.size; simp only [World.size_alloc] at this; omega
  have hB1 : Below w.heap.size w w1 := (((Below.refl _ w).alloc (Nat.le_refl _) _).alloc (by simp) _).trans (hb1.mono (by simp only [World.size_alloc]; omega))
  have hb2 : Boxed (w1.alloc (.cells #[.int .u64 (1 % primefieldP)] 85)) w1.heap.size 85 (.int .u64 (1 % primefieldP)) := Boxed.new w1 _ _
  have hbe : Boxed ((w1.alloc (.cells #[.int .u64 (1 % primefieldP)] 85)).alloc (.cells #[.int .u64 e] 22)) (w1.heap.size + 1) 22 (.int .u64 e) := by
    have := Boxed.new (w1.alloc (.cells #[.int .u64 (1 % primefieldP)] 85)) 22 (.int .u64 e)
    rwa [World.size_alloc] at this
  have hA1 := (hA0.alloc (.cells #[.int .u64 (1 % primefieldP)] 85)).alloc (.cells #[.int .u64 e] 22)
  have hR1 := (hR0.alloc (.cells #[.int .u64 (1 % primefieldP)] 85)).alloc (.cells #[.int .u64 e] 22)
  have hO1 := hb2.alloc (.cells #[.int .u64 e] 22)
  have hBB : Below w.heap.size w ((w1.alloc (.cells #[.int .u64 (1 % primefieldP)] 85)).alloc (.cells #[.int .u64 e] 22)) :=
    (hB1.alloc (by omega) _).alloc (by simp; omega) _
  have hsz : ((w1.alloc (.cells #[.int .u64 (1 % primefieldP)] 85)).alloc (.cells #[.int .u64 e] 22)).heap.size = w1.heap.size + 1 + 1 := by simp only [World.size_alloc]
  generalize ((w1.alloc (.cells #[.int .u64 (1 % primefieldP)] 85)).alloc (.cells #[.int .u64 e] 22)) = W1 at *
  generalize w1.heap.size = s1 at *
  refine wpIn_rangeFunc_ownF rfl (by omega) (gf := 149) (lb := #[.pointer (some ⟨s1 + 1, 0, none⟩)]) rfl trivial (enters_of Tryd.func149 (by kernel_rfl) rfl)
    (bits_stops (s1 + 1) 22 e he0 (by omega) _ hbe) keepBox_t (keepBox_b (by simp [hsz])) (Below.refl _ _) (fun _ => rfl)
    (fun pre W => (Boxed W w.heap.size 85 (.int .u64 a) ∧ Boxed W (w.heap.size + 1) 85 (.int .u64 0) ∧ Boxed W s1 85 (.int .u64 (pfold a primefieldP pre)) ∧ Boxed W (s1 + 1) 22 (.int .u64 e)) ∧ Below w.heap.size w W)
    (fun _ _ _ => False)
    (OwnFrom.and (Own.from (fun s A B row hs hg hr => ⟨boxed_own _ _ (fun _ : List Bool => Value.int .u64 a) s A B row hs.1 hg hr, boxed_own _ _ (fun _ : List Bool => Value.int .u64 0) s A B row hs.2.1 hg hr, boxed_own _ _ (fun s => Value.int .u64 (pfold a primefieldP s)) s A B row hs.2.2.1 hg hr, boxed_own _ _ (fun _ : List Bool => Value.int .u64 e) s A B row hs.2.2.2 hg hr⟩) _) (ownFrom_below (Nat.le_refl _) (by simp [hsz]; omega)))
    (fun _ _ _ _ _ hs _ _ => hs)
    ⟨⟨hA1, hR1, hO1, hbe⟩, hBB⟩
    (fun x => { tmps := #[.agg #[.int .u64 a], .int .u64 e, .pointer (some ⟨w.heap.size, 0, none⟩), undef, .pointer (some ⟨w.heap.size + 1, 0, none⟩), .pointer (some ⟨s1, 0, none⟩), .bool x, .agg #[.int .u64 (1 % primefieldP)], .int .u64 e, .func (.func 149) #[] #[.pointer (some ⟨s1 + 1, 0, none⟩)], .bool x, undef, undef, undef, undef, undef, undef, undef, undef], defers := [] }) ?assign ?body ?done ?stop
  case assign =>
    intro l x W K hK
    gi_wp2
    exact hK
  case body =>
    rintro l pre x W ⟨⟨hA, hR, hO, hE⟩, hB⟩ _
    have hWs := hE.lt
    have hr0 := pfold_range (a := a) (m := primefieldP) (by decide) (by decide) (by decide) pre (1 % primefieldP) (by decide) (by decide)
    change 0 ≤ pfold a primefieldP pre ∧ pfold a primefieldP pre < 18446744073709551616 at hr0
    have hr1 := mm_range (x := pfold a primefieldP pre) (y := pfold a primefieldP pre) (m := primefieldP) (by decide) (by decide)
    have hs := pfold_snoc a primefieldP pre x
    have hAc := hA.cell
    have hOc := hO.cell
    have hOf := hO.frozen
    cases x with
    | false =>
      gi_wp2_with (refine ⟨trivial, ?_⟩; gi_at_call 111; refine (CallsIn.inRound l (callsIn_wide.2 (times_fieldP (pfold a primefieldP pre) (pfold a primefieldP pre) _ hr0.1 hr0.2 hr0.1 hr0.2))).mono ?_; rintro en w' ⟨rfl, hn1⟩; have hO' := boxed_below hO hn1; have hOc' := hO'.cell; have hOf' := hO'.frozen)
      have hg := gb_set (gb_below (gb_refl W (some s1)) hn1) (.int .u64 (mm (pfold a primefieldP pre) (pfold a primefieldP pre) primefieldP))
      refine ⟨keeps_of_gb hO hg, keepBox_of_gb hg hWs (by omega), ⟨hA.kept hg (by simp; omega), hR.kept hg (by simp; omega), ?_, hE.kept hg (by simp)⟩, below_of_gb hB hg hB.size (by omega)⟩
      rw [hs]
      exact hO'.set _
    | true =>
      gi_wp2_with (refine ⟨trivial, ?_⟩; gi_at_call 111; first | ((with_reducible refine (CallsIn.inRound l (callsIn_wide.2 (times_fieldP (pfold a primefieldP pre) (pfold a primefieldP pre) _ hr0.1 hr0.2 hr0.1 hr0.2))).mono ?_); rintro en w' ⟨rfl, hn1⟩; have hO' := boxed_below hO hn1; have hOc' := hO'.cell; have hOf' := hO'.frozen; have hA' := (boxed_below hA hn1).kept (gb_set (gb_refl w' (some s1)) (.int .u64 (mm (pfold a primefieldP pre) (pfold a primefieldP pre) primefieldP))) (by simp; omega); have hA'c := hA'.cell) | ((with_reducible refine (CallsIn.inRound l (callsIn_wide.2 (times_fieldP (mm (pfold a primefieldP pre) (pfold a primefieldP pre) primefieldP) a _ hr1.1 hr1.2 ha0 ha1))).mono ?_); rintro en w'' ⟨rfl, hn2⟩; have hO'' := boxed_below (hO'.set _) hn2; have hOc'' := hO''.cell; have hOf'' := hO''.frozen))
      have hg := gb_set (gb_below (gb_set (gb_below (gb_refl W (some s1)) hn1) (.int .u64 (mm (pfold a primefieldP pre) (pfold a primefieldP pre) primefieldP))) hn2) (.int .u64 (mm (mm (pfold a primefieldP pre) (pfold a primefieldP pre) primefieldP) a primefieldP))
      refine ⟨keeps_of_gb hO hg, keepBox_of_gb hg hWs (by omega), ⟨hA.kept hg (by simp; omega), hR.kept hg (by simp; omega), ?_, hE.kept hg (by simp)⟩, below_of_gb hB hg hB.size (by omega)⟩
      rw [hs]
      exact hO''.set _
  case done =>
    rintro D ys W hD rfl ⟨⟨hA, hR, hO, _⟩, hB⟩ hK
    have hOc := hO.cell
    have hRc := hR.cell
    have hRf := hR.frozen
    gi_wp2
    have hR2 := hR.set (.int .u64 (pfold a primefieldP (bitsOf e)))
    have hB2 : Below w.heap.size w (W.setCell ⟨w.heap.size + 1, 0, none⟩ (.int .u64 (pfold a primefieldP (bitsOf e)))) := hB.setCell (by simp) _
    have hK2 : (W.setCell ⟨w.heap.size + 1, 0, none⟩ (.int .u64 (pfold a primefieldP (bitsOf e)))).heap[D]? = some (.deferred (some [])) := by
      rw [Below.heap_setCell _ _ _ _ (by simp; omega)]; exact hK
    generalize W.setCell ⟨w.heap.size + 1, 0, none⟩ (.int .u64 (pfold a primefieldP (bitsOf e))) = W2 at *
    refine ⟨by simp, .inl ⟨_, _, rfl, run_takeDeferred hK2, ?_⟩⟩
    refine ⟨_, results_cell_row rfl _ _ (w.heap.size + 1) 85 #[.int .u64 (pfold a primefieldP (bitsOf e))] (0, 0) _ rfl ?_ Tryd.underlying85 rfl (by kernel_rfl), rfl, hB2.trans (belowK_b (w := w) (Nat.le_refl _) W2 D _ _ (by omega) hK2 rfl rfl)⟩
    exact hR2.kept (grownBy_putObj' W2 D (.deferred none)) (by simp; omega)
  case stop =>
    rintro D c pre W _ _ h _
    exact h.elim
end Go.Proofs.YtkefcokmghbmhaaDoor.H3
end
section
namespace Go.Proofs.YtkefcokmghbmhaaDoor.C2
open Go Go.RowKit Go.Proofs.YtkefcokmghbmhaaDoorW.PrintWords Go.Proofs.YtkefcokmghbmhaaDoorW.PrintLast Go.Proofs.YtkefcokmghbmhaaDoorW.PrintMore Go.Proofs.YtkefcokmghbmhaaDoor.H0 Go.Proofs.YtkefcokmghbmhaaDoor.H1 Go.Proofs.YtkefcokmghbmhaaDoor.H2 Go.Proofs.YtkefcokmghbmhaaDoor.H3 Go.Proofs.YtkefcokmghbmhaaDoor.CR Go.Proofs.YtkefcokmghbmhaaDoor.B
set_option linter.unusedVariables false
set_option linter.unusedSimpArgs false
def tm (x y : Int) : Int := x * y % 2305843009213693951
def ad (x y : Int) : Int := (x + y) % 2305843009213693951
def mi (x y : Int) : Int := (x - y) % 2305843009213693951
end Go.Proofs.YtkefcokmghbmhaaDoor.C2
end
section
namespace Go.Proofs.YtkefcokmghbmhaaDoor.CD
open Go Go.RowKit Go.Proofs.YtkefcokmghbmhaaDoorW.PrintWords Go.Proofs.YtkefcokmghbmhaaDoorW.PrintLast Go.Proofs.YtkefcokmghbmhaaDoorW.PrintMore Go.Proofs.YtkefcokmghbmhaaDoor.H0 Go.Proofs.YtkefcokmghbmhaaDoor.H1 Go.Proofs.YtkefcokmghbmhaaDoor.CR Go.Proofs.YtkefcokmghbmhaaDoor.C2
set_option linter.unusedVariables false
set_option linter.unusedSimpArgs false
/-- The numbers h and r of two points. -/
def hN (X1 Z1 X2 Z2 : Int) : Int := mi (tm X2 (tm Z1 Z1)) (tm X1 (tm Z2 Z2))
end Go.Proofs.YtkefcokmghbmhaaDoor.CD
end
section
namespace Go.Proofs.YtkefcokmghbmhaaDoor.V2
open Go Go.Proofs.YtkefcokmghbmhaaDoor.C2 Go.Proofs.YtkefcokmghbmhaaDoor.CD Vi
set_option linter.unusedSimpArgs false
theorem n1 : (1 : Int) = vi 1 := rfl
theorem n0 : (0 : Int) = vi 0 := rfl
def v3 (s : Sp) : Int × Int × Int := (vi s.1, vi s.2.1, vi s.2.2)

end Go.Proofs.YtkefcokmghbmhaaDoor.V2
end
section
namespace Go.Proofs.YtkefcokmghbmhaaDoor.H4
open Go.RowKit Go.Shelf Go.Proofs.YtkefcokmghbmhaaDoorW.PrintWords Go.Proofs.YtkefcokmghbmhaaDoorW.PrintLast Go.Proofs.YtkefcokmghbmhaaDoorW.PrintMore Go.Proofs.YtkefcokmghbmhaaDoor.H0 Go.Proofs.YtkefcokmghbmhaaDoor.H1 Go.Proofs.YtkefcokmghbmhaaDoor.H2 Go.Proofs.YtkefcokmghbmhaaDoor.H3 Go.Proofs.YtkefcokmghbmhaaDoor.CR Go.Proofs.YtkefcokmghbmhaaDoor.C2 Go.Proofs.YtkefcokmghbmhaaDoor.CD Go.Proofs.YtkefcokmghbmhaaDoor.V2 Go.Proofs.YtkefcokmghbmhaaDoor.G1 Go.Proofs.YtkefcokmghbmhaaDoor.B Vi
attribute [local go_sem] Oper.semAt_some
set_option linter.unusedVariables false
set_option linter.unusedSimpArgs false
/-- A box of three numbers. -/
def B3 (W : World) (B : Nat) (t : TypeId) (s : Int × Int × Int) : Prop := W.heap[B]? = some (.cells #[.int .u64 s.1, .int .u64 s.2.1, .int .u64 s.2.2] t (0, 0))
theorem B3.lt {W : World} {B : Nat} {t : TypeId} {s : Int × Int × Int} (h : B3 W B t s) : B < W.heap.size := lt_of_heap h
theorem B3.c0 {W : World} {B : Nat} {t : TypeId} {s : Int × Int × Int} (h : B3 W B t s) : W.cell? ⟨B, 0, none⟩ = some (.int .u64 s.1) := (cell_of_row W B 0 _ _ _ h).trans rfl
theorem B3.c1 {W : World} {B : Nat} {t : TypeId} {s : Int × Int × Int} (h : B3 W B t s) : W.cell? ⟨B, 1, none⟩ = some (.int .u64 s.2.1) := (cell_of_row W B 1 _ _ _ h).trans rfl
theorem B3.c2 {W : World} {B : Nat} {t : TypeId} {s : Int × Int × Int} (h : B3 W B t s) : W.cell? ⟨B, 2, none⟩ = some (.int .u64 s.2.2) := (cell_of_row W B 2 _ _ _ h).trans rfl
theorem B3.fr {W : World} {B : Nat} {t : TypeId} {s : Int × Int × Int} (h : B3 W B t s) (i : Nat) : W.frozen? ⟨B, i, none⟩ = false := frozen_of_row W B i _ _ h
theorem B3.kept {W W' : World} {row : Option Nat} {B : Nat} {t : TypeId} {s : Int × Int × Int} (h : B3 W B t s) (hg : W.grownBy W' row) (hne : some B ≠ row) : B3 W' B t s := (hg.block B h.lt hne).trans h
theorem B3.below {W W' : World} {B : Nat} {t : TypeId} {s : Int × Int × Int} (h : B3 W B t s) (hb : Below W.heap.size W W') : B3 W' B t s := (hb.block B h.lt).trans h
theorem B3.own {β : Type} (B : Nat) (t : TypeId) (f : β → Int × Int × Int) : Own (fun s W => B3 W B t (f s)) := fun s X Y row hs hg hrow =>
  hs.kept hg (fun e' => by obtain ⟨o, ho, hc⟩ := hrow B e'.symm; rw [show X.heap[B]? = _ from hs] at ho; cases ho; cases hc)
theorem B3.set {W : World} {B : Nat} {t : TypeId} {s : Int × Int × Int} (h : B3 W B t s) (r : Int × Int × Int) :
    B3 (((W.setCell ⟨B, 0, none⟩ (.int .u64 r.1)).setCell ⟨B, 1, none⟩ (.int .u64 r.2.1)).setCell ⟨B, 2, none⟩ (.int .u64 r.2.2)) B t r := by
  have h0 := heap_setCell_same W B 0 _ t (.int .u64 r.1) h
  have h1 := heap_setCell_same _ B 1 _ t (.int .u64 r.2.1) h0
  have h2 := heap_setCell_same _ B 2 _ t (.int .u64 r.2.2) h1
  simpa [B3] using h2
/-- the element of a number -/
def el (x : Int) : Fp := Fin.ofNat _ x.toNat
end Go.Proofs.YtkefcokmghbmhaaDoor.H4
end
section
namespace Go.Proofs.YtkefcokmghbmhaaDoor.C
open Go.RowKit Go.Proofs.YtkefcokmghbmhaaDoor.B Go.Proofs.YtkefcokmghbmhaaDoor.H0 Go.Proofs.YtkefcokmghbmhaaDoor.G1 Go.Proofs.YtkefcokmghbmhaaDoor.F0 Go.Proofs.YtkefcokmghbmhaaDoor.H1 Go.Proofs.YtkefcokmghbmhaaDoor.H2 Go.Proofs.YtkefcokmghbmhaaDoor.H3 Go.Proofs.YtkefcokmghbmhaaDoorW.PrintWords Go.Proofs.YtkefcokmghbmhaaDoorW.PrintLast Go.Proofs.YtkefcokmghbmhaaDoorW.PrintMore
attribute [local go_sem high] field_num_fieldP   -- for this text's walks alone
attribute [local go_sem] max2_int min2_int max_two min_two max_three min_three max_four min_four   -- for this text's walks alone
set_option linter.unusedVariables false
set_option linter.unusedSimpArgs false
attribute [local go_sem high] eqA85
def impl_num_impl_fieldP_root.f (k : Nat) (a0_0 : Int) : Option (Int × Bool) := (impl_prime_impl_fieldP.f).bind fun t164 => ((impl_num_impl_fieldP_power.f a0_0 (IntKind.u64.wrap (Int.tdiv (IntKind.u64.wrap (t164 + 1)) 4))).bind fun t165 => (if (Int.tmod t165 2) = 1 then ((impl_num_impl_fieldP_negative.f t165).bind fun t167 => ((impl_num_impl_fieldP_times.f k t167 t167).bind fun t168 => (some (t167, (t168 == a0_0))))) else ((impl_num_impl_fieldP_times.f k t165 t165).bind fun t169 => (some (t165, (t169 == a0_0))))))
def impl_num_impl_fieldP_root.T1 : Bool × List (List Nat × List Nat) := (true, [([], []), ([], []), ([1], [1]), ([2], [2]), ([0, 3, 1], [0, 3]), ([], []), ([5, 4, 4, 0, 1, 2, 3, 4, 5], [4, 5])])
def impl_num_impl_fieldP_root.B1 : List Nat := [0, 0, 2, 6, 15, 0, 63]
theorem impl_num_impl_fieldP_root.tab1 : rtab .any (opsOf Tryd.f85 1) = impl_num_impl_fieldP_root.T1 := by kernel_rfl
theorem impl_num_impl_fieldP_root.bits1 : waitsOk impl_num_impl_fieldP_root.T1.2 impl_num_impl_fieldP_root.B1 = true := by kernel_rfl
def impl_num_impl_fieldP_root.T4 : Bool × List (List Nat × List Nat) := (true, [([], []), ([], []), ([], []), ([1, 2], [1, 2]), ([], []), ([3, 4], [3, 4]), ([0, 3, 0], [0]), ([5, 6, 0, 1, 2, 3, 4, 5, 6], [5])])
def impl_num_impl_fieldP_root.B4 : List Nat := [0, 0, 0, 6, 0, 30, 15, 127]
theorem impl_num_impl_fieldP_root.tab4 : rtab .any (opsOf Tryd.f85 4) = impl_num_impl_fieldP_root.T4 := by kernel_rfl
theorem impl_num_impl_fieldP_root.bits4 : waitsOk impl_num_impl_fieldP_root.T4.2 impl_num_impl_fieldP_root.B4 = true := by kernel_rfl
set_option maxHeartbeats 8000000 in
set_option maxRecDepth 100000 in
theorem impl_num_impl_fieldP_root.calls (k : Nat) (a0_0 : Int) (r1 : Int) (r2 : Bool) (w : World) (h : impl_num_impl_fieldP_root.f k a0_0 = some (r1, r2)) :
    Calls Tryd.prog 85 #[.agg #[.int .u64 a0_0]] w fun e w' => e = .returned (.tuple #[.agg #[.int .u64 r1], .bool r2]) ∧ Below w.heap.size w w' := by
  have hu85 := Tryd.underlying85
  have HB := Aside0.mk (Below.refl w.heap.size w)
  have H : ((impl_prime_impl_fieldP.f).bind fun t164 => ((impl_num_impl_fieldP_power.f a0_0 (IntKind.u64.wrap (Int.tdiv (IntKind.u64.wrap (t164 + 1)) 4))).bind fun t165 => (if (Int.tmod t165 2) = 1 then ((impl_num_impl_fieldP_negative.f t165).bind fun t167 => ((impl_num_impl_fieldP_times.f k t167 t167).bind fun t168 => (some (t167, (t168 == a0_0))))) else ((impl_num_impl_fieldP_times.f k t165 t165).bind fun t169 => (some (t165, (t169 == a0_0))))))) = some (r1, r2) := h
  clear h
  replace H := Option.bind_eq_some_iff.mp H
  obtain ⟨t164, A20, H⟩ := H
  replace H : ((impl_num_impl_fieldP_power.f a0_0 (IntKind.u64.wrap (Int.tdiv (IntKind.u64.wrap (t164 + 1)) 4))).bind fun t165 => (if (Int.tmod t165 2) = 1 then ((impl_num_impl_fieldP_negative.f t165).bind fun t167 => ((impl_num_impl_fieldP_times.f k t167 t167).bind fun t168 => (some (t167, (t168 == a0_0))))) else ((impl_num_impl_fieldP_times.f k t165 t165).bind fun t169 => (some (t165, (t169 == a0_0)))))) = some (r1, r2) := H
  have A2 := Aside0.mk A20
  clear A20
  replace H := Option.bind_eq_some_iff.mp H
  obtain ⟨t165, A30, H⟩ := H
  replace H : (if (Int.tmod t165 2) = 1 then ((impl_num_impl_fieldP_negative.f t165).bind fun t167 => ((impl_num_impl_fieldP_times.f k t167 t167).bind fun t168 => (some (t167, (t168 == a0_0))))) else ((impl_num_impl_fieldP_times.f k t165 t165).bind fun t169 => (some (t165, (t169 == a0_0))))) = some (r1, r2) := H
  have A3 := Aside0.mk A30
  clear A30
  by_cases c4 : (Int.tmod t165 2) = 1
  · rw [if_pos c4] at H
    have c4b0 : ((Int.tmod t165 2) == 1) = true := beq_iff_eq.mpr c4
    have c4b1 : ((Int.tmod t165 2) != 1) = false := bne_eq_false_iff_eq.mpr c4
    clear c4
    replace H := Option.bind_eq_some_iff.mp H
    obtain ⟨t167, A50, H⟩ := H
    replace H : ((impl_num_impl_fieldP_times.f k t167 t167).bind fun t168 => (some (t167, (t168 == a0_0)))) = some (r1, r2) := H
    have A5 := Aside0.mk A50
    clear A50
    replace H := Option.bind_eq_some_iff.mp H
    obtain ⟨t168, A60, H⟩ := H
    replace H : (some (t167, (t168 == a0_0))) = some (r1, r2) := H
    have A6 := Aside0.mk A60
    clear A60
    simp only [Option.some.injEq, Prod.mk.injEq] at H
    obtain ⟨rfl, rfl⟩ := H
    go_enter Tryd.func85, Tryd.ntmps85
    try go_wp2_with (first | ((with_reducible refine gate_dst (N := 1) rfl ?_); refine box_event ?hg (N := 1) ?hd (cs := #[.int .u64 a0_0]) (t := 85) ?hr ?_; (case hd => rfl); (case hg => rfl); (case hr => first | (go_simp; done) | (go_simp; rfl)); intro gb162 hg w7 hbox hb; have n0_ := Aside0.mk (below_step (by repeat (first | (with_reducible first | exact HB.out | apply below_alloc | apply pw_below_drewN | apply below_drew1) | exact HB.out)) hb); have n1_ := Aside0.mk (hbox); have n2_ := Aside0.mk ((by rw [hg]; exact (below_size (by repeat (first | (with_reducible first | exact HB.out | apply below_alloc | apply pw_below_drewN | apply below_drew1) | exact HB.out))) : w.heap.size ≤ gb162)); have n3_ := Aside0.mk ((by rw [hg]; exact (below_size (by repeat (first | (with_reducible first | exact HB.out | apply below_alloc | apply pw_below_drewN | apply below_drew1) | exact HB.out))) : w.heap.size ≤ gb162)); clear HB; have HB := n0_; have BK162 := n1_; have GW162 := n2_; have GE162 := n3_; clear n0_ n1_ n2_ n3_; clear hb hbox hg) | ((with_reducible refine gate_dst (N := 2) rfl ?_); refine box_event ?hg (N := 2) ?hd (cs := #[.int .u64 0]) (t := 85) ?hr ?_; (case hd => rfl); (case hg => rfl); (case hr => first | (go_simp; done) | (go_simp; rfl)); intro gb163 hg w8 hbox hb; have n0_ := Aside0.mk (blk_below (g := gb162) (o := .cells #[.int .u64 a0_0] 85 (0, 0)) (by (with_reducible repeat (first | refine blk_drewN ?_ _ | refine blk_drew ?_ | refine blk_alloc ?_ _)); exact BK162.out) hb); have n1_ := Aside0.mk (below_step (by repeat (first | (with_reducible first | exact HB.out | apply below_alloc | apply pw_below_drewN | apply below_drew1 | refine below_set ?_ GE162.out) | exact HB.out)) hb); have n2_ := Aside0.mk (hbox); have n3_ := Aside0.mk ((by rw [hg]; exact (below_size (by repeat (first | (with_reducible first | exact HB.out | apply below_alloc | apply pw_below_drewN | apply below_drew1 | refine below_set ?_ GE162.out) | exact HB.out))) : w.heap.size ≤ gb163)); have n4_ := Aside0.mk ((by rw [hg]; exact (below_size (by repeat (first | (with_reducible first | exact HB.out | apply below_alloc | apply pw_below_drewN | apply below_drew1 | refine below_set ?_ GE162.out) | exact HB.out))) : w.heap.size ≤ gb163)); have n5_ := Aside0.mk ((by rw [hg]; exact Nat.ne_of_lt (blk_lt (g := gb162) (o := .cells #[.int .u64 a0_0] 85 (0, 0)) (by (with_reducible repeat (first | refine blk_drewN ?_ _ | refine blk_drew ?_ | refine blk_alloc ?_ _)); exact BK162.out)) : gb162 ≠ gb163)); have n6_ := Aside0.mk ((by rw [hg]; exact Nat.ne_of_gt (blk_lt (g := gb162) (o := .cells #[.int .u64 a0_0] 85 (0, 0)) (by (with_reducible repeat (first | refine blk_drewN ?_ _ | refine blk_drew ?_ | refine blk_alloc ?_ _)); exact BK162.out)) : gb163 ≠ gb162)); clear BK162; clear HB; have BK162 := n0_; have HB := n1_; have BK163 := n2_; have GW163 := n3_; have GE163 := n4_; have NB162_163 := n5_; have NB163_162 := n6_; clear n0_ n1_ n2_ n3_ n4_ n5_ n6_; clear hb hbox hg))
    have n0_ := Aside0.mk (blk_drew BK162.out)
    have n1_ := Aside0.mk (blk_drew BK163.out)
    have n2_ := Aside0.mk (below_drew1 HB.out)
    clear BK162
    clear BK163
    clear HB
    have BK162 := n0_
    have BK163 := n1_
    have HB := n2_
    clear n0_ n1_ n2_
    refine start_ (n := 7) (S := fun w' => True) (ds := []) #[false, false, false, false, false, false, false] (by kernel_rfl) rfl rfl trivial (fun hHeld => ?_); refine with_tabW impl_num_impl_fieldP_root.tab1 impl_num_impl_fieldP_root.bits1 (fun HT_ HW_ => ?_)
    generalize w8.drew = w9 at BK162 BK163 HB hHeld ⊢
    refine inv_at [0, 1, 2, 3, 4, 5, 6] (fun a0_ b a w' => ∃ (gb166 : Nat) (m5_ : Value), a = putSel a0_ b [(0, 5, .agg #[.int .u64 a0_0]), (1, 6, .int .u64 t164), (2, 7, .int .u64 (IntKind.u64.wrap (t164 + 1))), (3, 8, .int .u64 (IntKind.u64.wrap (Int.tdiv (IntKind.u64.wrap (t164 + 1)) 4))), (4, 9, .agg #[.int .u64 t165]), (5, 4, m5_)] ∧ (w'.heap[gb162]? = some (.cells #[.int .u64 a0_0] 85 (0, 0))) ∧ (w'.heap[gb163]? = some (.cells #[.int .u64 0] 85 (0, 0))) ∧ (Below w.heap.size w w') ∧ (b 5 = true → b 6 = false → w'.heap[gb166]? = some (.cells #[.int .u64 0] 85 (0, 0))) ∧ (b 5 = true → w.heap.size ≤ gb166) ∧ (b 5 = true → w.heap.size ≤ gb166) ∧ (b 5 = true → gb162 ≠ gb166) ∧ (b 5 = true → gb166 ≠ gb162) ∧ (b 5 = true → gb163 ≠ gb166) ∧ (b 5 = true → gb166 ≠ gb163) ∧ (b 6 = true → w'.heap[gb166]? = some (.cells #[.int .u64 t165] 85 (0, 0))) ∧ (b 5 = true → (m5_ : Value) = .pointer (some ⟨gb166, 0, none⟩))) HT_.out HW_.out (by kernel_rfl) (by kernel_rfl) ?_ ?_ ?_
    · exact ⟨0, .bool false, by simp only [putSel, Bool.false_eq_true, if_false], BK162.out, BK163.out, HB.out, fun h_ => absurd h_ (by decide), fun h_ => absurd h_ (by decide), fun h_ => absurd h_ (by decide), fun h_ => absurd h_ (by decide), fun h_ => absurd h_ (by decide), fun h_ => absurd h_ (by decide), fun h_ => absurd h_ (by decide), fun h_ => absurd h_ (by decide), fun h_ => absurd h_ (by decide)⟩
    · skip
      clear BK162 BK163 HB
      refine steps_cons ?_ ?_
      · rintro b a w' ⟨gb166, m5_, ha, Q_BK162, Q_BK163, Q_HB, Q_BK166, Q_GW166, Q_GE166, Q_NB162_166, Q_NB166_162, Q_NB163_166, Q_NB166_163, Q_BK166_e6, Q_X5_⟩ hb_ hon hoff
        refine ⟨_, rfl, fun K hK => ?_⟩
        have e1 : a.tmps[1]? = some (.pointer (some ⟨gb162, 0, none⟩)) := by rw [ha]; exact (putSel_off rfl).trans rfl
        replace ha := Aside0.mk ha
        have BK162 := Aside0.mk Q_BK162
        have BK163 := Aside0.mk Q_BK163
        have HB := Aside0.mk Q_HB
        have hc0_ : w'.cell? ⟨gb162, 0, none⟩ = some (.int .u64 a0_0) := (blk_cell BK162.out 0).trans rfl
        refine value_ (w1 := w') (v := .agg #[.int .u64 a0_0]) (by rfl) rfl ?_ ?_
        · go_simp
          (try simp only [i64_w])
          try rfl
        refine hK.out _ _ ⟨gb166, m5_, (by rw [ha.out]; exact putSel_upk 0 hb_ rfl rfl rfl), Q_BK162, Q_BK163, Q_HB, Q_BK166, Q_GW166, Q_GE166, Q_NB162_166, Q_NB166_162, Q_NB163_166, Q_NB166_163, fun h0_ => absurd ((hoff 6 (by kernel_rfl)).symm.trans h0_) (by decide), Q_X5_⟩
      refine steps_cons ?_ ?_
      · rintro b a w' ⟨gb166, m5_, ha, Q_BK162, Q_BK163, Q_HB, Q_BK166, Q_GW166, Q_GE166, Q_NB162_166, Q_NB166_162, Q_NB163_166, Q_NB166_163, Q_BK166_e6, Q_X5_⟩ hb_ hon hoff
        refine ⟨_, rfl, fun K hK => ?_⟩
        replace ha := Aside0.mk ha
        have BK162 := Aside0.mk Q_BK162
        have BK163 := Aside0.mk Q_BK163
        have HB := Aside0.mk Q_HB
        refine goes_ Tryd.func112 (by kernel_rfl) rfl #[] (by rfl) rfl rfl (by first | (simp only [List.map_toArray, List.map_cons, List.map_nil, Act.eval, Array.getD_eq_getD_getElem?, Option.getD_some]; done) | (simp only [List.map_toArray, List.map_cons, List.map_nil, Act.eval, Array.getD_eq_getD_getElem?, Option.getD_some]; rfl)) ?_
        with_reducible refine (impl_prime_impl_fieldP.calls  t164 _ A2.out).mono ?_
        rintro e w10 ⟨rfl, hb⟩
        refine ⟨_, rfl, ?_⟩
        have n0_ := Aside0.mk (blk_below (g := gb162) (o := .cells #[.int .u64 a0_0] 85 (0, 0)) (by (with_reducible repeat (first | refine blk_drewN ?_ _ | refine blk_drew ?_ | refine blk_alloc ?_ _)); exact BK162.out) hb)
        have n1_ := Aside0.mk (blk_below (g := gb163) (o := .cells #[.int .u64 0] 85 (0, 0)) (by (with_reducible repeat (first | refine blk_drewN ?_ _ | refine blk_drew ?_ | refine blk_alloc ?_ _)); exact BK163.out) hb)
        have n2_ := Aside0.mk (below_step (by repeat (first | (with_reducible first | exact HB.out | apply below_alloc | apply pw_below_drewN | apply below_drew1 | refine below_set ?_ GE162.out | refine below_set ?_ GE163.out) | exact HB.out)) hb)
        have z_BK166 := fun (h0_ : b 5 = true) (h1_ : b 6 = false) => (show w10.heap[gb166]? = some (.cells #[.int .u64 0] 85 (0, 0)) from by first | exact (blk_below (g := gb166) (o := .cells #[.int .u64 0] 85 (0, 0)) (by (with_reducible repeat (first | refine blk_drewN ?_ _ | refine blk_drew ?_ | refine blk_alloc ?_ _)); exact (Q_BK166 h0_ h1_)) hb))
        clear BK162
        clear BK163
        clear HB
        have BK162 := n0_
        have BK163 := n1_
        have HB := n2_
        clear n0_ n1_ n2_
        (try clear hb)
        (try clear hb2)
        (try clear hk)
        (try clear hi)
        refine hK.out _ _ ⟨gb166, m5_, (by rw [ha.out]; exact putSel_upk 1 hb_ rfl rfl rfl), (by (with_reducible repeat (first | refine blk_drewN ?_ _ | refine blk_drew ?_ | refine blk_alloc ?_ _)); exact BK162.out), (by (with_reducible repeat (first | refine blk_drewN ?_ _ | refine blk_drew ?_ | refine blk_alloc ?_ _)); exact BK163.out), (by repeat (first | (with_reducible first | exact HB.out | apply below_alloc | apply pw_below_drewN | apply below_drew1 | refine below_set ?_ GE162.out | refine below_set ?_ GE163.out) | exact HB.out)), z_BK166, Q_GW166, Q_GE166, Q_NB162_166, Q_NB166_162, Q_NB163_166, Q_NB166_163, fun h0_ => absurd ((hoff 6 (by kernel_rfl)).symm.trans h0_) (by decide), Q_X5_⟩
      refine steps_cons ?_ ?_
      · rintro b a w' ⟨gb166, m5_, ha, Q_BK162, Q_BK163, Q_HB, Q_BK166, Q_GW166, Q_GE166, Q_NB162_166, Q_NB166_162, Q_NB163_166, Q_NB166_163, Q_BK166_e6, Q_X5_⟩ hb_ hon hoff
        refine ⟨_, rfl, fun K hK => ?_⟩
        have e6 : a.tmps[6]? = some (.int .u64 t164) := by rw [ha]; exact putSel_on (e := (1, 6, .int .u64 t164)) 1 rfl rfl (hon 1 (by kernel_rfl)) rfl
        replace ha := Aside0.mk ha
        have BK162 := Aside0.mk Q_BK162
        have BK163 := Aside0.mk Q_BK163
        have HB := Aside0.mk Q_HB
        refine value_ (w1 := w') (v := .int .u64 (IntKind.u64.wrap (t164 + 1))) (by rfl) rfl ?_ ?_
        · go_simp
          (try simp only [i64_w])
          try rfl
        refine hK.out _ _ ⟨gb166, m5_, (by rw [ha.out]; exact putSel_upk 2 hb_ rfl rfl rfl), Q_BK162, Q_BK163, Q_HB, Q_BK166, Q_GW166, Q_GE166, Q_NB162_166, Q_NB166_162, Q_NB163_166, Q_NB166_163, fun h0_ => absurd ((hoff 6 (by kernel_rfl)).symm.trans h0_) (by decide), Q_X5_⟩
      refine steps_cons ?_ ?_
      · rintro b a w' ⟨gb166, m5_, ha, Q_BK162, Q_BK163, Q_HB, Q_BK166, Q_GW166, Q_GE166, Q_NB162_166, Q_NB166_162, Q_NB163_166, Q_NB166_163, Q_BK166_e6, Q_X5_⟩ hb_ hon hoff
        refine ⟨_, rfl, fun K hK => ?_⟩
        have e7 : a.tmps[7]? = some (.int .u64 (IntKind.u64.wrap (t164 + 1))) := by rw [ha]; exact putSel_on (e := (2, 7, .int .u64 (IntKind.u64.wrap (t164 + 1)))) 2 rfl rfl (hon 2 (by kernel_rfl)) rfl
        replace ha := Aside0.mk ha
        have BK162 := Aside0.mk Q_BK162
        have BK163 := Aside0.mk Q_BK163
        have HB := Aside0.mk Q_HB
        refine value_ (w1 := w') (v := .int .u64 (IntKind.u64.wrap (Int.tdiv (IntKind.u64.wrap (t164 + 1)) 4))) (by rfl) rfl ?_ ?_
        · go_simp
          (try simp only [i64_w])
          try rfl
        refine hK.out _ _ ⟨gb166, m5_, (by rw [ha.out]; exact putSel_upk 3 hb_ rfl rfl rfl), Q_BK162, Q_BK163, Q_HB, Q_BK166, Q_GW166, Q_GE166, Q_NB162_166, Q_NB166_162, Q_NB163_166, Q_NB166_163, fun h0_ => absurd ((hoff 6 (by kernel_rfl)).symm.trans h0_) (by decide), Q_X5_⟩
      refine steps_cons ?_ ?_
      · rintro b a w' ⟨gb166, m5_, ha, Q_BK162, Q_BK163, Q_HB, Q_BK166, Q_GW166, Q_GE166, Q_NB162_166, Q_NB166_162, Q_NB163_166, Q_NB166_163, Q_BK166_e6, Q_X5_⟩ hb_ hon hoff
        refine ⟨_, rfl, fun K hK => ?_⟩
        have e5 : a.tmps[5]? = some (.agg #[.int .u64 a0_0]) := by rw [ha]; exact putSel_on (e := (0, 5, .agg #[.int .u64 a0_0])) 0 rfl rfl (hon 0 (by kernel_rfl)) rfl
        have e8 : a.tmps[8]? = some (.int .u64 (IntKind.u64.wrap (Int.tdiv (IntKind.u64.wrap (t164 + 1)) 4))) := by rw [ha]; exact putSel_on (e := (3, 8, .int .u64 (IntKind.u64.wrap (Int.tdiv (IntKind.u64.wrap (t164 + 1)) 4)))) 3 rfl rfl (hon 3 (by kernel_rfl)) rfl
        replace ha := Aside0.mk ha
        have BK162 := Aside0.mk Q_BK162
        have BK163 := Aside0.mk Q_BK163
        have HB := Aside0.mk Q_HB
        refine goes_ Tryd.func125 (by kernel_rfl) rfl #[.agg #[.int .u64 a0_0], .int .u64 (IntKind.u64.wrap (Int.tdiv (IntKind.u64.wrap (t164 + 1)) 4))] (by rfl) rfl rfl (by first | (simp only [List.map_toArray, List.map_cons, List.map_nil, Act.eval, Array.getD_eq_getD_getElem?, Option.getD_some, e5, e8]; done) | (simp only [List.map_toArray, List.map_cons, List.map_nil, Act.eval, Array.getD_eq_getD_getElem?, Option.getD_some, e5, e8]; rfl)) ?_
        with_reducible refine (impl_num_impl_fieldP_power.calls a0_0 (IntKind.u64.wrap (Int.tdiv (IntKind.u64.wrap (t164 + 1)) 4)) t165 _ A3.out).mono ?_
        rintro e w12 ⟨rfl, hb⟩
        refine ⟨_, rfl, ?_⟩
        have n0_ := Aside0.mk (blk_below (g := gb162) (o := .cells #[.int .u64 a0_0] 85 (0, 0)) (by (with_reducible repeat (first | refine blk_drewN ?_ _ | refine blk_drew ?_ | refine blk_alloc ?_ _)); exact BK162.out) hb)
        have n1_ := Aside0.mk (blk_below (g := gb163) (o := .cells #[.int .u64 0] 85 (0, 0)) (by (with_reducible repeat (first | refine blk_drewN ?_ _ | refine blk_drew ?_ | refine blk_alloc ?_ _)); exact BK163.out) hb)
        have n2_ := Aside0.mk (below_step (by repeat (first | (with_reducible first | exact HB.out | apply below_alloc | apply pw_below_drewN | apply below_drew1 | refine below_set ?_ GE162.out | refine below_set ?_ GE163.out) | exact HB.out)) hb)
        have z_BK166 := fun (h0_ : b 5 = true) (h1_ : b 6 = false) => (show w12.heap[gb166]? = some (.cells #[.int .u64 0] 85 (0, 0)) from by first | exact (blk_below (g := gb166) (o := .cells #[.int .u64 0] 85 (0, 0)) (by (with_reducible repeat (first | refine blk_drewN ?_ _ | refine blk_drew ?_ | refine blk_alloc ?_ _)); exact (Q_BK166 h0_ h1_)) hb))
        clear BK162
        clear BK163
        clear HB
        have BK162 := n0_
        have BK163 := n1_
        have HB := n2_
        clear n0_ n1_ n2_
        (try clear hb)
        (try clear hb2)
        (try clear hk)
        (try clear hi)
        refine hK.out _ _ ⟨gb166, m5_, (by rw [ha.out]; exact putSel_upk 4 hb_ rfl rfl rfl), (by (with_reducible repeat (first | refine blk_drewN ?_ _ | refine blk_drew ?_ | refine blk_alloc ?_ _)); exact BK162.out), (by (with_reducible repeat (first | refine blk_drewN ?_ _ | refine blk_drew ?_ | refine blk_alloc ?_ _)); exact BK163.out), (by repeat (first | (with_reducible first | exact HB.out | apply below_alloc | apply pw_below_drewN | apply below_drew1 | refine below_set ?_ GE162.out | refine below_set ?_ GE163.out) | exact HB.out)), z_BK166, Q_GW166, Q_GE166, Q_NB162_166, Q_NB166_162, Q_NB163_166, Q_NB166_163, fun h0_ => absurd ((hoff 6 (by kernel_rfl)).symm.trans h0_) (by decide), Q_X5_⟩
      refine steps_cons ?_ ?_
      · rintro b a w' ⟨gb166, m5_, ha, Q_BK162, Q_BK163, Q_HB, Q_BK166, Q_GW166, Q_GE166, Q_NB162_166, Q_NB166_162, Q_NB163_166, Q_NB166_163, Q_BK166_e6, Q_X5_⟩ hb_ hon hoff
        refine ⟨_, rfl, fun K hK => ?_⟩
        replace ha := Aside0.mk ha
        have BK162 := Aside0.mk Q_BK162
        have BK163 := Aside0.mk Q_BK163
        have HB := Aside0.mk Q_HB
        refine box_step ?hg (N := 4) ?hd (cs := #[.int .u64 0]) (t := 85) ?hr ?_; (case hd => rfl); (case hg => rfl); (case hr => first | (go_simp; done) | (go_simp; rfl))
        intro gb166 hg w10 hbox hb
        have n0_ := Aside0.mk (blk_below (g := gb162) (o := .cells #[.int .u64 a0_0] 85 (0, 0)) (by (with_reducible repeat (first | refine blk_drewN ?_ _ | refine blk_drew ?_ | refine blk_alloc ?_ _)); exact BK162.out) hb)
        have n1_ := Aside0.mk (blk_below (g := gb163) (o := .cells #[.int .u64 0] 85 (0, 0)) (by (with_reducible repeat (first | refine blk_drewN ?_ _ | refine blk_drew ?_ | refine blk_alloc ?_ _)); exact BK163.out) hb)
        have n2_ := Aside0.mk (below_step (by repeat (first | (with_reducible first | exact HB.out | apply below_alloc | apply pw_below_drewN | apply below_drew1 | refine below_set ?_ GE162.out | refine below_set ?_ GE163.out) | exact HB.out)) hb)
        have n3_ := Aside0.mk (hbox)
        have n4_ := Aside0.mk ((by rw [hg]; exact (below_size (by repeat (first | (with_reducible first | exact HB.out | apply below_alloc | apply pw_below_drewN | apply below_drew1 | refine below_set ?_ GE162.out | refine below_set ?_ GE163.out) | exact HB.out))) : w.heap.size ≤ gb166))
        have n5_ := Aside0.mk ((by rw [hg]; exact (below_size (by repeat (first | (with_reducible first | exact HB.out | apply below_alloc | apply pw_below_drewN | apply below_drew1 | refine below_set ?_ GE162.out | refine below_set ?_ GE163.out) | exact HB.out))) : w.heap.size ≤ gb166))
        have n6_ := Aside0.mk ((by rw [hg]; exact Nat.ne_of_lt (blk_lt (g := gb162) (o := .cells #[.int .u64 a0_0] 85 (0, 0)) (by (with_reducible repeat (first | refine blk_drewN ?_ _ | refine blk_drew ?_ | refine blk_alloc ?_ _)); exact BK162.out)) : gb162 ≠ gb166))
        have n7_ := Aside0.mk ((by rw [hg]; exact Nat.ne_of_gt (blk_lt (g := gb162) (o := .cells #[.int .u64 a0_0] 85 (0, 0)) (by (with_reducible repeat (first | refine blk_drewN ?_ _ | refine blk_drew ?_ | refine blk_alloc ?_ _)); exact BK162.out)) : gb166 ≠ gb162))
        have n8_ := Aside0.mk ((by rw [hg]; exact Nat.ne_of_lt (blk_lt (g := gb163) (o := .cells #[.int .u64 0] 85 (0, 0)) (by (with_reducible repeat (first | refine blk_drewN ?_ _ | refine blk_drew ?_ | refine blk_alloc ?_ _)); exact BK163.out)) : gb163 ≠ gb166))
        have n9_ := Aside0.mk ((by rw [hg]; exact Nat.ne_of_gt (blk_lt (g := gb163) (o := .cells #[.int .u64 0] 85 (0, 0)) (by (with_reducible repeat (first | refine blk_drewN ?_ _ | refine blk_drew ?_ | refine blk_alloc ?_ _)); exact BK163.out)) : gb166 ≠ gb163))
        clear BK162
        clear BK163
        clear HB
        have BK162 := n0_
        have BK163 := n1_
        have HB := n2_
        have BK166 := n3_
        have GW166 := n4_
        have GE166 := n5_
        have NB162_166 := n6_
        have NB166_162 := n7_
        have NB163_166 := n8_
        have NB166_163 := n9_
        clear n0_ n1_ n2_ n3_ n4_ n5_ n6_ n7_ n8_ n9_
        clear hb hbox hg
        refine hK.out _ _ ⟨gb166, (.pointer (some ⟨gb166, 0, none⟩)), (by rw [ha.out]; exact putSel_upk 5 hb_ rfl rfl rfl), (by (with_reducible repeat (first | refine blk_drewN ?_ _ | refine blk_drew ?_ | refine blk_alloc ?_ _)); exact BK162.out), (by (with_reducible repeat (first | refine blk_drewN ?_ _ | refine blk_drew ?_ | refine blk_alloc ?_ _)); exact BK163.out), (by repeat (first | (with_reducible first | exact HB.out | apply below_alloc | apply pw_below_drewN | apply below_drew1 | refine below_set ?_ GE162.out | refine below_set ?_ GE163.out | refine below_set ?_ GE166.out) | exact HB.out)), fun _ _ => (by (with_reducible repeat (first | refine blk_drewN ?_ _ | refine blk_drew ?_ | refine blk_alloc ?_ _)); exact BK166.out), fun _ => GW166.out, fun _ => GE166.out, fun _ => NB162_166.out, fun _ => NB166_162.out, fun _ => NB163_166.out, fun _ => NB166_163.out, fun h0_ => absurd ((hoff 6 (by kernel_rfl)).symm.trans h0_) (by decide), fun _ => rfl⟩
      refine steps_cons ?_ ?_
      · rintro b a w' ⟨gb166, m5_, ha, Q_BK162, Q_BK163, Q_HB, Q_BK166, Q_GW166, Q_GE166, Q_NB162_166, Q_NB166_162, Q_NB163_166, Q_NB166_163, Q_BK166_e6, Q_X5_⟩ hb_ hon hoff
        refine ⟨_, rfl, fun K hK => ?_⟩
        have e4 : a.tmps[4]? = some (m5_) := by rw [ha]; exact putSel_on (e := (5, 4, m5_)) 5 rfl rfl (hon 5 (by kernel_rfl)) rfl
        rw [Q_X5_ (hon 5 (by kernel_rfl))] at e4
        have e9 : a.tmps[9]? = some (.agg #[.int .u64 t165]) := by rw [ha]; exact putSel_on (e := (4, 9, .agg #[.int .u64 t165])) 4 rfl rfl (hon 4 (by kernel_rfl)) rfl
        replace ha := Aside0.mk ha
        have BK162 := Aside0.mk Q_BK162
        have BK163 := Aside0.mk Q_BK163
        have HB := Aside0.mk Q_HB
        have BK166 := Aside0.mk (Q_BK166 (hon 5 (by kernel_rfl)) hb_)
        have GW166 := Aside0.mk (Q_GW166 (hon 5 (by kernel_rfl)))
        have GE166 := Aside0.mk (Q_GE166 (hon 5 (by kernel_rfl)))
        have NB162_166 := Aside0.mk (Q_NB162_166 (hon 5 (by kernel_rfl)))
        have NB166_162 := Aside0.mk (Q_NB166_162 (hon 5 (by kernel_rfl)))
        have NB163_166 := Aside0.mk (Q_NB163_166 (hon 5 (by kernel_rfl)))
        have NB166_163 := Aside0.mk (Q_NB166_163 (hon 5 (by kernel_rfl)))
        have hs14 : w'.cell? ⟨gb166, 0, none⟩ = some (.int .u64 0) := (blk_cell BK166.out 0).trans rfl
        have hfs14 := blk_frozen BK166.out 0
        have hns14_0 := NB162_166.out
        have hns14_1 := NB163_166.out
        have hms14_0 := NB166_162.out
        have hms14_1 := NB166_163.out
        refine skip_ (w1 := ?_) (by rfl) rfl ?_ ?_
        rotate_left
        · go_simp
          rfl
        refine hK.out _ _ ⟨gb166, m5_, (by rw [ha.out]; exact putSel_none (v := undef) rfl), (by (with_reducible repeat (first | refine blk_drewN ?_ _ | refine blk_drew ?_ | refine blk_alloc ?_ _)); refine blk_far ?_ NB162_166.out _; (with_reducible repeat (first | refine blk_drewN ?_ _ | refine blk_drew ?_ | refine blk_alloc ?_ _)); exact BK162.out), (by (with_reducible repeat (first | refine blk_drewN ?_ _ | refine blk_drew ?_ | refine blk_alloc ?_ _)); refine blk_far ?_ NB163_166.out _; (with_reducible repeat (first | refine blk_drewN ?_ _ | refine blk_drew ?_ | refine blk_alloc ?_ _)); exact BK163.out), (by repeat (first | (with_reducible first | exact HB.out | apply below_alloc | apply pw_below_drewN | apply below_drew1 | refine below_set ?_ GE162.out | refine below_set ?_ GE163.out | refine below_set ?_ GE166.out) | exact HB.out)), fun _ h1_ => absurd ((up_self b 6).symm.trans h1_) (by decide), fun _ => GW166.out, fun _ => GE166.out, fun _ => NB162_166.out, fun _ => NB166_162.out, fun _ => NB163_166.out, fun _ => NB166_163.out, fun _ => (by (with_reducible repeat (first | refine blk_drewN ?_ _ | refine blk_drew ?_ | refine blk_alloc ?_ _)); refine blk_put (cs := #[.int .u64 0]) ?_ 0 _ rfl; (with_reducible repeat (first | refine blk_drewN ?_ _ | refine blk_drew ?_ | refine blk_alloc ?_ _)); exact BK166.out), Q_X5_⟩
      exact steps_nil
    rintro b a w14 hall ⟨gb166, m5_, ha, Q_BK162, Q_BK163, Q_HB, Q_BK166, Q_GW166, Q_GE166, Q_NB162_166, Q_NB166_162, Q_NB163_166, Q_NB166_163, Q_BK166_e6, Q_X5_⟩
    clear BK162 BK163 HB
    have hb0_ := hall 0 (by kernel_rfl)
    have hb1_ := hall 1 (by kernel_rfl)
    have hb2_ := hall 2 (by kernel_rfl)
    have hb3_ := hall 3 (by kernel_rfl)
    have hb4_ := hall 4 (by kernel_rfl)
    have hb5_ := hall 5 (by kernel_rfl)
    have hb6_ := hall 6 (by kernel_rfl)
    subst ha
    obtain rfl := Q_X5_ hb5_
    simp only [putSel, hb0_, hb1_, hb2_, hb3_, hb4_, hb5_, hb6_, if_true, Act.put, List.setIfInBounds_toArray, List.set_cons_zero, List.set_cons_succ]
    have BK162 := Aside0.mk Q_BK162
    clear Q_BK162
    have BK163 := Aside0.mk Q_BK163
    clear Q_BK163
    have HB := Aside0.mk Q_HB
    clear Q_HB
    clear Q_BK166
    have GW166 := Aside0.mk (Q_GW166 hb5_)
    clear Q_GW166
    have GE166 := Aside0.mk (Q_GE166 hb5_)
    clear Q_GE166
    have NB162_166 := Aside0.mk (Q_NB162_166 hb5_)
    clear Q_NB162_166
    have NB166_162 := Aside0.mk (Q_NB166_162 hb5_)
    clear Q_NB166_162
    have NB163_166 := Aside0.mk (Q_NB163_166 hb5_)
    clear Q_NB163_166
    have NB166_163 := Aside0.mk (Q_NB166_163 hb5_)
    clear Q_NB166_163
    have BK166 := Aside0.mk (Q_BK166_e6 hb6_)
    clear Q_BK166_e6
    clear hall hb0_ hb1_ hb2_ hb3_ hb4_ hb5_ hb6_
    have hnb15 := NB166_162.out
    have hnc15 := NB162_166.out
    have hnb16 := NB166_163.out
    have hnc16 := NB163_166.out
    have hcz17_0 : w14.cell? ⟨gb166, 0, none⟩ = some (.int .u64 t165) := (blk_cell BK166.out 0).trans rfl
    have hfz17_0 := blk_frozen BK166.out 0
    try go_wp2_with (first | ((with_reducible refine gate_callee (f := 68) rfl ?_); refine goesL_ (some 15) rfl rfl Tryd.func68 (by kernel_rfl) rfl #[.agg #[.int .u64 t165]] rfl (by (try simp only [List.map_toArray, List.map_cons, List.map_nil]); first | done | rfl | (simp only [List.length_drop, List.length_take]; rfl)) ?_; (with_reducible refine (impl_num_impl_fieldP_negative.calls t165 t167 _ A5.out).mono ?_); rintro e w18 ⟨rfl, hb⟩; refine ⟨_, rfl, ?_⟩; have n0_ := Aside0.mk (blk_below (g := gb162) (o := .cells #[.int .u64 a0_0] 85 (0, 0)) (by (with_reducible repeat (first | refine blk_drewN ?_ _ | refine blk_drew ?_ | refine blk_alloc ?_ _)); exact BK162.out) hb); have n1_ := Aside0.mk (blk_below (g := gb163) (o := .cells #[.int .u64 0] 85 (0, 0)) (by (with_reducible repeat (first | refine blk_drewN ?_ _ | refine blk_drew ?_ | refine blk_alloc ?_ _)); exact BK163.out) hb); have n2_ := Aside0.mk (blk_below (g := gb166) (o := .cells #[.int .u64 t165] 85 (0, 0)) (by (with_reducible repeat (first | refine blk_drewN ?_ _ | refine blk_drew ?_ | refine blk_alloc ?_ _)); exact BK166.out) hb); have n3_ := Aside0.mk (below_step (by repeat (first | (with_reducible first | exact HB.out | apply below_alloc | apply pw_below_drewN | apply below_drew1 | refine below_set ?_ GE162.out | refine below_set ?_ GE163.out | refine below_set ?_ GE166.out) | exact HB.out)) hb); clear BK162; clear BK163; clear BK166; clear HB; have BK162 := n0_; have BK163 := n1_; have BK166 := n2_; have HB := n3_; clear n0_ n1_ n2_ n3_; (try clear hb); (try clear hb2); (try clear hk); (try clear hi); have hcz19_0 : w18.cell? ⟨gb166, 0, none⟩ = some (.int .u64 t165) := (blk_cell BK166.out 0).trans rfl; have hfz19_0 := blk_frozen BK166.out 0))
    have n0_ : Aside0 ((w18.setCell ⟨gb166, 0, none⟩ (.int .u64 t167)).heap[gb162]? = some (.cells #[.int .u64 a0_0] 85 (0, 0))) := ⟨by (with_reducible repeat (first | refine blk_drewN ?_ _ | refine blk_drew ?_ | refine blk_alloc ?_ _)); refine blk_far ?_ NB162_166.out _; (with_reducible repeat (first | refine blk_drewN ?_ _ | refine blk_drew ?_ | refine blk_alloc ?_ _)); exact BK162.out⟩
    have n1_ : Aside0 ((w18.setCell ⟨gb166, 0, none⟩ (.int .u64 t167)).heap[gb163]? = some (.cells #[.int .u64 0] 85 (0, 0))) := ⟨by (with_reducible repeat (first | refine blk_drewN ?_ _ | refine blk_drew ?_ | refine blk_alloc ?_ _)); refine blk_far ?_ NB163_166.out _; (with_reducible repeat (first | refine blk_drewN ?_ _ | refine blk_drew ?_ | refine blk_alloc ?_ _)); exact BK163.out⟩
    have n2_ : Aside0 ((w18.setCell ⟨gb166, 0, none⟩ (.int .u64 t167)).heap[gb166]? = some (.cells #[.int .u64 t167] 85 (0, 0))) := ⟨by (with_reducible repeat (first | refine blk_drewN ?_ _ | refine blk_drew ?_ | refine blk_alloc ?_ _)); refine blk_put (cs := #[.int .u64 t165]) ?_ 0 _ rfl; (with_reducible repeat (first | refine blk_drewN ?_ _ | refine blk_drew ?_ | refine blk_alloc ?_ _)); exact BK166.out⟩
    have n3_ : Aside0 (Below w.heap.size w (w18.setCell ⟨gb166, 0, none⟩ (.int .u64 t167))) := ⟨by repeat (first | (with_reducible first | exact HB.out | apply below_alloc | apply pw_below_drewN | apply below_drew1 | refine below_set ?_ GE162.out | refine below_set ?_ GE163.out | refine below_set ?_ GE166.out) | exact HB.out)⟩
    (try clear BK162)
    (try clear BK163)
    (try clear BK166)
    (try clear HB)
    generalize (w18.setCell ⟨gb166, 0, none⟩ (.int .u64 t167)) = w20 at n0_ n1_ n2_ n3_ ⊢
    have BK162 := n0_
    have BK163 := n1_
    have BK166 := n2_
    have HB := n3_
    clear n0_ n1_ n2_ n3_
    have n0_ := Aside0.mk (blk_drew BK162.out)
    have n1_ := Aside0.mk (blk_drew BK163.out)
    have n2_ := Aside0.mk (blk_drew BK166.out)
    have n3_ := Aside0.mk (below_drew1 HB.out)
    clear BK162
    clear BK163
    clear BK166
    clear HB
    have BK162 := n0_
    have BK163 := n1_
    have BK166 := n2_
    have HB := n3_
    clear n0_ n1_ n2_ n3_
    refine start_ (n := 8) (S := fun w' => w'.cell? ⟨gb166, 0, none⟩ = some (.int .u64 t167) ∧ w'.cell? ⟨gb162, 0, none⟩ = some (.int .u64 a0_0)) (ds := []) #[false, false, false, false, false, false, false, false] (by kernel_rfl) rfl rfl ⟨(blk_cell BK166.out 0).trans rfl, (blk_cell BK162.out 0).trans rfl⟩ (fun hHeld => ?_); refine with_tabW impl_num_impl_fieldP_root.tab4 impl_num_impl_fieldP_root.bits4 (fun HT_ HW_ => ?_)
    generalize w20.drew = w21 at BK162 BK163 BK166 HB hHeld ⊢
    refine take_ (i := 0) (N := some 16) (v := ?_) (a' := ?_) #[true, false, false, false, false, false, false, false] rfl rfl (take_ofW HT_.out HW_.out (by kernel_rfl)) (fun _ _ _ h => h) (Or.inl ⟨by rfl, ?_⟩) hHeld ?_ ?_
    rotate_left
    · rintro w' ⟨s0, s1⟩
      go_simp
      with_reducible rfl
    rotate_left
    · simp only [Act.put, List.setIfInBounds_toArray, List.set_cons_zero, List.set_cons_succ, i64_w, i32_w]
      rfl
    refine take_ (i := 1) (N := some 17) (v := ?_) (a' := ?_) #[true, true, false, false, false, false, false, false] rfl rfl (take_ofW HT_.out HW_.out (by kernel_rfl)) (fun _ _ _ h => h) (Or.inl ⟨by rfl, ?_⟩) hHeld ?_ ?_
    rotate_left
    · rintro w' ⟨s0, s1⟩
      go_simp
      with_reducible rfl
    rotate_left
    · simp only [Act.put, List.setIfInBounds_toArray, List.set_cons_zero, List.set_cons_succ, i64_w, i32_w]
      rfl
    refine take_ (i := 2) (N := some 18) (v := ?_) (a' := ?_) #[true, true, true, false, false, false, false, false] rfl rfl (take_ofW HT_.out HW_.out (by kernel_rfl)) (fun _ _ _ h => h) (Or.inl ⟨by rfl, ?_⟩) hHeld ?_ ?_
    rotate_left
    · rintro w' ⟨s0, s1⟩
      go_simp
      with_reducible rfl
    rotate_left
    · simp only [Act.put, List.setIfInBounds_toArray, List.set_cons_zero, List.set_cons_succ, i64_w, i32_w]
      rfl
    refine take_ (i := 4) (N := some 20) (v := ?_) (a' := ?_) #[true, true, true, false, true, false, false, false] rfl rfl (take_ofW HT_.out HW_.out (by kernel_rfl)) (fun _ _ _ h => h) (Or.inl ⟨by rfl, ?_⟩) hHeld ?_ ?_
    rotate_left
    · rintro w' ⟨s0, s1⟩
      go_simp
      with_reducible rfl
    rotate_left
    · simp only [Act.put, List.setIfInBounds_toArray, List.set_cons_zero, List.set_cons_succ, i64_w, i32_w]
      rfl
    refine one_ (i := 3) (N := some 19) #[true, true, true, true, true, false, false, false] rfl rfl (one_of HT_.out (by kernel_rfl)) (by decide) (fun K hK => ?_)
    refine goes_ Tryd.func111 (by kernel_rfl) rfl #[.agg #[.int .u64 t167], .agg #[.int .u64 t167]] (by rfl) rfl rfl (by (try simp only [List.map_toArray, List.map_cons, List.map_nil]); first | done | rfl | (simp only [List.length_drop, List.length_take]; rfl)) ?_
    with_reducible refine (impl_num_impl_fieldP_times.calls k t167 t167 t168 _ A6.out).mono ?_
    rintro e w22 ⟨rfl, hb⟩
    refine ⟨_, rfl, ?_⟩
    have n0_ := Aside0.mk (blk_below (g := gb162) (o := .cells #[.int .u64 a0_0] 85 (0, 0)) (by (with_reducible repeat (first | refine blk_drewN ?_ _ | refine blk_drew ?_ | refine blk_alloc ?_ _)); exact BK162.out) hb)
    have n1_ := Aside0.mk (blk_below (g := gb163) (o := .cells #[.int .u64 0] 85 (0, 0)) (by (with_reducible repeat (first | refine blk_drewN ?_ _ | refine blk_drew ?_ | refine blk_alloc ?_ _)); exact BK163.out) hb)
    have n2_ := Aside0.mk (blk_below (g := gb166) (o := .cells #[.int .u64 t167] 85 (0, 0)) (by (with_reducible repeat (first | refine blk_drewN ?_ _ | refine blk_drew ?_ | refine blk_alloc ?_ _)); exact BK166.out) hb)
    have n3_ := Aside0.mk (below_step (by repeat (first | (with_reducible first | exact HB.out | apply below_alloc | apply pw_below_drewN | apply below_drew1 | refine below_set ?_ GE162.out | refine below_set ?_ GE163.out | refine below_set ?_ GE166.out) | exact HB.out)) hb)
    clear BK162
    clear BK163
    clear BK166
    clear HB
    have BK162 := n0_
    have BK163 := n1_
    have BK166 := n2_
    have HB := n3_
    clear n0_ n1_ n2_ n3_
    (try clear hb)
    (try clear hb2)
    (try clear hk)
    (try clear hi)
    refine hK.out _ _ ⟨(blk_cell BK166.out 0).trans rfl, (blk_cell BK162.out 0).trans rfl⟩ (fun hHeld => ?_)
    clear hK K
    refine norm_ (a' := ?_) ?_ ?_
    rotate_left
    · show Act.put _ (some 19) _ = _
      simp only [Act.put, List.setIfInBounds_toArray, List.set_cons_zero, List.set_cons_succ, i64_w, i32_w]
      rfl
    refine pure_ (i := 5) (N := some 21) (v := ?_) (a' := ?_) #[true, true, true, true, true, true, false, false] rfl rfl (any_of HT_.out (by kernel_rfl)) (fun _ _ _ h => h) (Or.inl ⟨by rfl, ?_⟩) ?_ ?_
    rotate_left
    · intro w'
      go_simp
      with_reducible rfl
    rotate_left
    · simp only [Act.put, List.setIfInBounds_toArray, List.set_cons_zero, List.set_cons_succ, i64_w, i32_w]
      rfl
    refine one_ (i := 6) (N := none) #[true, true, true, true, true, true, true, false] rfl rfl (one_of HT_.out (by kernel_rfl)) (by decide) (fun K hK => ?_)
    have hs23 : w22.cell? ⟨gb163, 0, none⟩ = some (.int .u64 0) := (blk_cell BK163.out 0).trans rfl
    have hfs23 := blk_frozen BK163.out 0
    have hns23_0 := NB162_163.out
    have hns23_2 := NB166_163.out
    have hms23_0 := NB163_162.out
    have hms23_2 := NB163_166.out
    refine skip_ (w1 := ?_) (by rfl) rfl ?_ ?_
    rotate_left
    · go_simp
      rfl
    refine hK.out _ _ ⟨((cell_far (p := ⟨gb163, _, none⟩) NB166_163.out _).trans (hHeld.1)), ((cell_far (p := ⟨gb163, _, none⟩) NB162_163.out _).trans (hHeld.2))⟩ (fun hHeld => ?_)
    clear hK K
    refine pure_ (i := 7) (N := some 3) (v := ?_) (a' := ?_) #[true, true, true, true, true, true, true, true] rfl rfl (any_of HT_.out (by kernel_rfl)) (fun _ _ _ h => h) (Or.inl ⟨by rfl, ?_⟩) ?_ ?_
    rotate_left
    · intro w'
      go_simp
      with_reducible rfl
    rotate_left
    · simp only [Act.put, List.setIfInBounds_toArray, List.set_cons_zero, List.set_cons_succ, i64_w, i32_w]
      rfl
    refine done_ (done_of HT_.out (by kernel_rfl)) ?_
    try go_wp2
    refine bodyPost_ret (results_ct rfl _ _ gb163 85 #[.int .u64 t167] (0, 0) _ rfl (by (with_reducible repeat (first | refine blk_drewN ?_ _ | refine blk_drew ?_ | refine blk_alloc ?_ _)); refine blk_put (cs := #[.int .u64 0]) ?_ 0 _ rfl; (with_reducible repeat (first | refine blk_drewN ?_ _ | refine blk_drew ?_ | refine blk_alloc ?_ _)); exact BK163.out) Tryd.underlying85 rfl (by kernel_rfl)) rfl ?_
    exact ⟨by first | rfl | (simp [errW_none, errW_some] <;> rfl) | (simp [*, errW_none, errW_some] <;> rfl), by repeat (first | (with_reducible first | exact HB.out | apply below_alloc | apply pw_below_drewN | apply below_drew1 | refine below_set ?_ GE162.out | refine below_set ?_ GE163.out | refine below_set ?_ GE166.out) | exact HB.out)⟩
  · rw [if_neg c4] at H
    have c4b0 : ((Int.tmod t165 2) == 1) = false := beq_eq_false_iff_ne.mpr c4
    have c4b1 : ((Int.tmod t165 2) != 1) = true := bne_iff_ne.mpr c4
    replace H := Option.bind_eq_some_iff.mp H
    obtain ⟨t169, A240, H⟩ := H
    replace H : (some (t165, (t169 == a0_0))) = some (r1, r2) := H
    have A24 := Aside0.mk A240
    clear A240
    simp only [Option.some.injEq, Prod.mk.injEq] at H
    obtain ⟨rfl, rfl⟩ := H
    go_enter Tryd.func85, Tryd.ntmps85
    try go_wp2_with (first | ((with_reducible refine gate_dst (N := 1) rfl ?_); refine box_event ?hg (N := 1) ?hd (cs := #[.int .u64 a0_0]) (t := 85) ?hr ?_; (case hd => rfl); (case hg => rfl); (case hr => first | (go_simp; done) | (go_simp; rfl)); intro gb162 hg w25 hbox hb; have n0_ := Aside0.mk (below_step (by repeat (first | (with_reducible first | exact HB.out | apply below_alloc | apply pw_below_drewN | apply below_drew1) | exact HB.out)) hb); have n1_ := Aside0.mk (hbox); have n2_ := Aside0.mk ((by rw [hg]; exact (below_size (by repeat (first | (with_reducible first | exact HB.out | apply below_alloc | apply pw_below_drewN | apply below_drew1) | exact HB.out))) : w.heap.size ≤ gb162)); have n3_ := Aside0.mk ((by rw [hg]; exact (below_size (by repeat (first | (with_reducible first | exact HB.out | apply below_alloc | apply pw_below_drewN | apply below_drew1) | exact HB.out))) : w.heap.size ≤ gb162)); clear HB; have HB := n0_; have BK162 := n1_; have GW162 := n2_; have GE162 := n3_; clear n0_ n1_ n2_ n3_; clear hb hbox hg) | ((with_reducible refine gate_dst (N := 2) rfl ?_); refine box_event ?hg (N := 2) ?hd (cs := #[.int .u64 0]) (t := 85) ?hr ?_; (case hd => rfl); (case hg => rfl); (case hr => first | (go_simp; done) | (go_simp; rfl)); intro gb163 hg w26 hbox hb; have n0_ := Aside0.mk (blk_below (g := gb162) (o := .cells #[.int .u64 a0_0] 85 (0, 0)) (by (with_reducible repeat (first | refine blk_drewN ?_ _ | refine blk_drew ?_ | refine blk_alloc ?_ _)); exact BK162.out) hb); have n1_ := Aside0.mk (below_step (by repeat (first | (with_reducible first | exact HB.out | apply below_alloc | apply pw_below_drewN | apply below_drew1 | refine below_set ?_ GE162.out) | exact HB.out)) hb); have n2_ := Aside0.mk (hbox); have n3_ := Aside0.mk ((by rw [hg]; exact (below_size (by repeat (first | (with_reducible first | exact HB.out | apply below_alloc | apply pw_below_drewN | apply below_drew1 | refine below_set ?_ GE162.out) | exact HB.out))) : w.heap.size ≤ gb163)); have n4_ := Aside0.mk ((by rw [hg]; exact (below_size (by repeat (first | (with_reducible first | exact HB.out | apply below_alloc | apply pw_below_drewN | apply below_drew1 | refine below_set ?_ GE162.out) | exact HB.out))) : w.heap.size ≤ gb163)); have n5_ := Aside0.mk ((by rw [hg]; exact Nat.ne_of_lt (blk_lt (g := gb162) (o := .cells #[.int .u64 a0_0] 85 (0, 0)) (by (with_reducible repeat (first | refine blk_drewN ?_ _ | refine blk_drew ?_ | refine blk_alloc ?_ _)); exact BK162.out)) : gb162 ≠ gb163)); have n6_ := Aside0.mk ((by rw [hg]; exact Nat.ne_of_gt (blk_lt (g := gb162) (o := .cells #[.int .u64 a0_0] 85 (0, 0)) (by (with_reducible repeat (first | refine blk_drewN ?_ _ | refine blk_drew ?_ | refine blk_alloc ?_ _)); exact BK162.out)) : gb163 ≠ gb162)); clear BK162; clear HB; have BK162 := n0_; have HB := n1_; have BK163 := n2_; have GW163 := n3_; have GE163 := n4_; have NB162_163 := n5_; have NB163_162 := n6_; clear n0_ n1_ n2_ n3_ n4_ n5_ n6_; clear hb hbox hg))
    have n0_ := Aside0.mk (blk_drew BK162.out)
    have n1_ := Aside0.mk (blk_drew BK163.out)
    have n2_ := Aside0.mk (below_drew1 HB.out)
    clear BK162
    clear BK163
    clear HB
    have BK162 := n0_
    have BK163 := n1_
    have HB := n2_
    clear n0_ n1_ n2_
    refine start_ (n := 7) (S := fun w' => True) (ds := []) #[false, false, false, false, false, false, false] (by kernel_rfl) rfl rfl trivial (fun hHeld => ?_); refine with_tabW impl_num_impl_fieldP_root.tab1 impl_num_impl_fieldP_root.bits1 (fun HT_ HW_ => ?_)
    generalize w26.drew = w27 at BK162 BK163 HB hHeld ⊢
    refine inv_at [0, 1, 2, 3, 4, 5, 6] (fun a0_ b a w' => ∃ (gb166 : Nat) (m5_ : Value), a = putSel a0_ b [(0, 5, .agg #[.int .u64 a0_0]), (1, 6, .int .u64 t164), (2, 7, .int .u64 (IntKind.u64.wrap (t164 + 1))), (3, 8, .int .u64 (IntKind.u64.wrap (Int.tdiv (IntKind.u64.wrap (t164 + 1)) 4))), (4, 9, .agg #[.int .u64 t165]), (5, 4, m5_)] ∧ (w'.heap[gb162]? = some (.cells #[.int .u64 a0_0] 85 (0, 0))) ∧ (w'.heap[gb163]? = some (.cells #[.int .u64 0] 85 (0, 0))) ∧ (Below w.heap.size w w') ∧ (b 5 = true → b 6 = false → w'.heap[gb166]? = some (.cells #[.int .u64 0] 85 (0, 0))) ∧ (b 5 = true → w.heap.size ≤ gb166) ∧ (b 5 = true → w.heap.size ≤ gb166) ∧ (b 5 = true → gb162 ≠ gb166) ∧ (b 5 = true → gb166 ≠ gb162) ∧ (b 5 = true → gb163 ≠ gb166) ∧ (b 5 = true → gb166 ≠ gb163) ∧ (b 6 = true → w'.heap[gb166]? = some (.cells #[.int .u64 t165] 85 (0, 0))) ∧ (b 5 = true → (m5_ : Value) = .pointer (some ⟨gb166, 0, none⟩))) HT_.out HW_.out (by kernel_rfl) (by kernel_rfl) ?_ ?_ ?_
    · exact ⟨0, .bool false, by simp only [putSel, Bool.false_eq_true, if_false], BK162.out, BK163.out, HB.out, fun h_ => absurd h_ (by decide), fun h_ => absurd h_ (by decide), fun h_ => absurd h_ (by decide), fun h_ => absurd h_ (by decide), fun h_ => absurd h_ (by decide), fun h_ => absurd h_ (by decide), fun h_ => absurd h_ (by decide), fun h_ => absurd h_ (by decide), fun h_ => absurd h_ (by decide)⟩
    · skip
      clear BK162 BK163 HB
      refine steps_cons ?_ ?_
      · rintro b a w' ⟨gb166, m5_, ha, Q_BK162, Q_BK163, Q_HB, Q_BK166, Q_GW166, Q_GE166, Q_NB162_166, Q_NB166_162, Q_NB163_166, Q_NB166_163, Q_BK166_e6, Q_X5_⟩ hb_ hon hoff
        refine ⟨_, rfl, fun K hK => ?_⟩
        have e1 : a.tmps[1]? = some (.pointer (some ⟨gb162, 0, none⟩)) := by rw [ha]; exact (putSel_off rfl).trans rfl
        replace ha := Aside0.mk ha
        have BK162 := Aside0.mk Q_BK162
        have BK163 := Aside0.mk Q_BK163
        have HB := Aside0.mk Q_HB
        have hc0_ : w'.cell? ⟨gb162, 0, none⟩ = some (.int .u64 a0_0) := (blk_cell BK162.out 0).trans rfl
        refine value_ (w1 := w') (v := .agg #[.int .u64 a0_0]) (by rfl) rfl ?_ ?_
        · go_simp
          (try simp only [i64_w])
          try rfl
        refine hK.out _ _ ⟨gb166, m5_, (by rw [ha.out]; exact putSel_upk 0 hb_ rfl rfl rfl), Q_BK162, Q_BK163, Q_HB, Q_BK166, Q_GW166, Q_GE166, Q_NB162_166, Q_NB166_162, Q_NB163_166, Q_NB166_163, fun h0_ => absurd ((hoff 6 (by kernel_rfl)).symm.trans h0_) (by decide), Q_X5_⟩
      refine steps_cons ?_ ?_
      · rintro b a w' ⟨gb166, m5_, ha, Q_BK162, Q_BK163, Q_HB, Q_BK166, Q_GW166, Q_GE166, Q_NB162_166, Q_NB166_162, Q_NB163_166, Q_NB166_163, Q_BK166_e6, Q_X5_⟩ hb_ hon hoff
        refine ⟨_, rfl, fun K hK => ?_⟩
        replace ha := Aside0.mk ha
        have BK162 := Aside0.mk Q_BK162
        have BK163 := Aside0.mk Q_BK163
        have HB := Aside0.mk Q_HB
        refine goes_ Tryd.func112 (by kernel_rfl) rfl #[] (by rfl) rfl rfl (by first | (simp only [List.map_toArray, List.map_cons, List.map_nil, Act.eval, Array.getD_eq_getD_getElem?, Option.getD_some]; done) | (simp only [List.map_toArray, List.map_cons, List.map_nil, Act.eval, Array.getD_eq_getD_getElem?, Option.getD_some]; rfl)) ?_
        with_reducible refine (impl_prime_impl_fieldP.calls  t164 _ A2.out).mono ?_
        rintro e w28 ⟨rfl, hb⟩
        refine ⟨_, rfl, ?_⟩
        have n0_ := Aside0.mk (blk_below (g := gb162) (o := .cells #[.int .u64 a0_0] 85 (0, 0)) (by (with_reducible repeat (first | refine blk_drewN ?_ _ | refine blk_drew ?_ | refine blk_alloc ?_ _)); exact BK162.out) hb)
        have n1_ := Aside0.mk (blk_below (g := gb163) (o := .cells #[.int .u64 0] 85 (0, 0)) (by (with_reducible repeat (first | refine blk_drewN ?_ _ | refine blk_drew ?_ | refine blk_alloc ?_ _)); exact BK163.out) hb)
        have n2_ := Aside0.mk (below_step (by repeat (first | (with_reducible first | exact HB.out | apply below_alloc | apply pw_below_drewN | apply below_drew1 | refine below_set ?_ GE162.out | refine below_set ?_ GE163.out) | exact HB.out)) hb)
        have z_BK166 := fun (h0_ : b 5 = true) (h1_ : b 6 = false) => (show w28.heap[gb166]? = some (.cells #[.int .u64 0] 85 (0, 0)) from by first | exact (blk_below (g := gb166) (o := .cells #[.int .u64 0] 85 (0, 0)) (by (with_reducible repeat (first | refine blk_drewN ?_ _ | refine blk_drew ?_ | refine blk_alloc ?_ _)); exact (Q_BK166 h0_ h1_)) hb))
        clear BK162
        clear BK163
        clear HB
        have BK162 := n0_
        have BK163 := n1_
        have HB := n2_
        clear n0_ n1_ n2_
        (try clear hb)
        (try clear hb2)
        (try clear hk)
        (try clear hi)
        refine hK.out _ _ ⟨gb166, m5_, (by rw [ha.out]; exact putSel_upk 1 hb_ rfl rfl rfl), (by (with_reducible repeat (first | refine blk_drewN ?_ _ | refine blk_drew ?_ | refine blk_alloc ?_ _)); exact BK162.out), (by (with_reducible repeat (first | refine blk_drewN ?_ _ | refine blk_drew ?_ | refine blk_alloc ?_ _)); exact BK163.out), (by repeat (first | (with_reducible first | exact HB.out | apply below_alloc | apply pw_below_drewN | apply below_drew1 | refine below_set ?_ GE162.out | refine below_set ?_ GE163.out) | exact HB.out)), z_BK166, Q_GW166, Q_GE166, Q_NB162_166, Q_NB166_162, Q_NB163_166, Q_NB166_163, fun h0_ => absurd ((hoff 6 (by kernel_rfl)).symm.trans h0_) (by decide), Q_X5_⟩
      refine steps_cons ?_ ?_
      · rintro b a w' ⟨gb166, m5_, ha, Q_BK162, Q_BK163, Q_HB, Q_BK166, Q_GW166, Q_GE166, Q_NB162_166, Q_NB166_162, Q_NB163_166, Q_NB166_163, Q_BK166_e6, Q_X5_⟩ hb_ hon hoff
        refine ⟨_, rfl, fun K hK => ?_⟩
        have e6 : a.tmps[6]? = some (.int .u64 t164) := by rw [ha]; exact putSel_on (e := (1, 6, .int .u64 t164)) 1 rfl rfl (hon 1 (by kernel_rfl)) rfl
        replace ha := Aside0.mk ha
        have BK162 := Aside0.mk Q_BK162
        have BK163 := Aside0.mk Q_BK163
        have HB := Aside0.mk Q_HB
        refine value_ (w1 := w') (v := .int .u64 (IntKind.u64.wrap (t164 + 1))) (by rfl) rfl ?_ ?_
        · go_simp
          (try simp only [i64_w])
          try rfl
        refine hK.out _ _ ⟨gb166, m5_, (by rw [ha.out]; exact putSel_upk 2 hb_ rfl rfl rfl), Q_BK162, Q_BK163, Q_HB, Q_BK166, Q_GW166, Q_GE166, Q_NB162_166, Q_NB166_162, Q_NB163_166, Q_NB166_163, fun h0_ => absurd ((hoff 6 (by kernel_rfl)).symm.trans h0_) (by decide), Q_X5_⟩
      refine steps_cons ?_ ?_
      · rintro b a w' ⟨gb166, m5_, ha, Q_BK162, Q_BK163, Q_HB, Q_BK166, Q_GW166, Q_GE166, Q_NB162_166, Q_NB166_162, Q_NB163_166, Q_NB166_163, Q_BK166_e6, Q_X5_⟩ hb_ hon hoff
        refine ⟨_, rfl, fun K hK => ?_⟩
        have e7 : a.tmps[7]? = some (.int .u64 (IntKind.u64.wrap (t164 + 1))) := by rw [ha]; exact putSel_on (e := (2, 7, .int .u64 (IntKind.u64.wrap (t164 + 1)))) 2 rfl rfl (hon 2 (by kernel_rfl)) rfl
        replace ha := Aside0.mk ha
        have BK162 := Aside0.mk Q_BK162
        have BK163 := Aside0.mk Q_BK163
        have HB := Aside0.mk Q_HB
        refine value_ (w1 := w') (v := .int .u64 (IntKind.u64.wrap (Int.tdiv (IntKind.u64.wrap (t164 + 1)) 4))) (by rfl) rfl ?_ ?_
        · go_simp
          (try simp only [i64_w])
          try rfl
        refine hK.out _ _ ⟨gb166, m5_, (by rw [ha.out]; exact putSel_upk 3 hb_ rfl rfl rfl), Q_BK162, Q_BK163, Q_HB, Q_BK166, Q_GW166, Q_GE166, Q_NB162_166, Q_NB166_162, Q_NB163_166, Q_NB166_163, fun h0_ => absurd ((hoff 6 (by kernel_rfl)).symm.trans h0_) (by decide), Q_X5_⟩
      refine steps_cons ?_ ?_
      · rintro b a w' ⟨gb166, m5_, ha, Q_BK162, Q_BK163, Q_HB, Q_BK166, Q_GW166, Q_GE166, Q_NB162_166, Q_NB166_162, Q_NB163_166, Q_NB166_163, Q_BK166_e6, Q_X5_⟩ hb_ hon hoff
        refine ⟨_, rfl, fun K hK => ?_⟩
        have e5 : a.tmps[5]? = some (.agg #[.int .u64 a0_0]) := by rw [ha]; exact putSel_on (e := (0, 5, .agg #[.int .u64 a0_0])) 0 rfl rfl (hon 0 (by kernel_rfl)) rfl
        have e8 : a.tmps[8]? = some (.int .u64 (IntKind.u64.wrap (Int.tdiv (IntKind.u64.wrap (t164 + 1)) 4))) := by rw [ha]; exact putSel_on (e := (3, 8, .int .u64 (IntKind.u64.wrap (Int.tdiv (IntKind.u64.wrap (t164 + 1)) 4)))) 3 rfl rfl (hon 3 (by kernel_rfl)) rfl
        replace ha := Aside0.mk ha
        have BK162 := Aside0.mk Q_BK162
        have BK163 := Aside0.mk Q_BK163
        have HB := Aside0.mk Q_HB
        refine goes_ Tryd.func125 (by kernel_rfl) rfl #[.agg #[.int .u64 a0_0], .int .u64 (IntKind.u64.wrap (Int.tdiv (IntKind.u64.wrap (t164 + 1)) 4))] (by rfl) rfl rfl (by first | (simp only [List.map_toArray, List.map_cons, List.map_nil, Act.eval, Array.getD_eq_getD_getElem?, Option.getD_some, e5, e8]; done) | (simp only [List.map_toArray, List.map_cons, List.map_nil, Act.eval, Array.getD_eq_getD_getElem?, Option.getD_some, e5, e8]; rfl)) ?_
        with_reducible refine (impl_num_impl_fieldP_power.calls a0_0 (IntKind.u64.wrap (Int.tdiv (IntKind.u64.wrap (t164 + 1)) 4)) t165 _ A3.out).mono ?_
        rintro e w30 ⟨rfl, hb⟩
        refine ⟨_, rfl, ?_⟩
        have n0_ := Aside0.mk (blk_below (g := gb162) (o := .cells #[.int .u64 a0_0] 85 (0, 0)) (by (with_reducible repeat (first | refine blk_drewN ?_ _ | refine blk_drew ?_ | refine blk_alloc ?_ _)); exact BK162.out) hb)
        have n1_ := Aside0.mk (blk_below (g := gb163) (o := .cells #[.int .u64 0] 85 (0, 0)) (by (with_reducible repeat (first | refine blk_drewN ?_ _ | refine blk_drew ?_ | refine blk_alloc ?_ _)); exact BK163.out) hb)
        have n2_ := Aside0.mk (below_step (by repeat (first | (with_reducible first | exact HB.out | apply below_alloc | apply pw_below_drewN | apply below_drew1 | refine below_set ?_ GE162.out | refine below_set ?_ GE163.out) | exact HB.out)) hb)
        have z_BK166 := fun (h0_ : b 5 = true) (h1_ : b 6 = false) => (show w30.heap[gb166]? = some (.cells #[.int .u64 0] 85 (0, 0)) from by first | exact (blk_below (g := gb166) (o := .cells #[.int .u64 0] 85 (0, 0)) (by (with_reducible repeat (first | refine blk_drewN ?_ _ | refine blk_drew ?_ | refine blk_alloc ?_ _)); exact (Q_BK166 h0_ h1_)) hb))
        clear BK162
        clear BK163
        clear HB
        have BK162 := n0_
        have BK163 := n1_
        have HB := n2_
        clear n0_ n1_ n2_
        (try clear hb)
        (try clear hb2)
        (try clear hk)
        (try clear hi)
        refine hK.out _ _ ⟨gb166, m5_, (by rw [ha.out]; exact putSel_upk 4 hb_ rfl rfl rfl), (by (with_reducible repeat (first | refine blk_drewN ?_ _ | refine blk_drew ?_ | refine blk_alloc ?_ _)); exact BK162.out), (by (with_reducible repeat (first | refine blk_drewN ?_ _ | refine blk_drew ?_ | refine blk_alloc ?_ _)); exact BK163.out), (by repeat (first | (with_reducible first | exact HB.out | apply below_alloc | apply pw_below_drewN | apply below_drew1 | refine below_set ?_ GE162.out | refine below_set ?_ GE163.out) | exact HB.out)), z_BK166, Q_GW166, Q_GE166, Q_NB162_166, Q_NB166_162, Q_NB163_166, Q_NB166_163, fun h0_ => absurd ((hoff 6 (by kernel_rfl)).symm.trans h0_) (by decide), Q_X5_⟩
      refine steps_cons ?_ ?_
      · rintro b a w' ⟨gb166, m5_, ha, Q_BK162, Q_BK163, Q_HB, Q_BK166, Q_GW166, Q_GE166, Q_NB162_166, Q_NB166_162, Q_NB163_166, Q_NB166_163, Q_BK166_e6, Q_X5_⟩ hb_ hon hoff
        refine ⟨_, rfl, fun K hK => ?_⟩
        replace ha := Aside0.mk ha
        have BK162 := Aside0.mk Q_BK162
        have BK163 := Aside0.mk Q_BK163
        have HB := Aside0.mk Q_HB
        refine box_step ?hg (N := 4) ?hd (cs := #[.int .u64 0]) (t := 85) ?hr ?_; (case hd => rfl); (case hg => rfl); (case hr => first | (go_simp; done) | (go_simp; rfl))
        intro gb166 hg w28 hbox hb
        have n0_ := Aside0.mk (blk_below (g := gb162) (o := .cells #[.int .u64 a0_0] 85 (0, 0)) (by (with_reducible repeat (first | refine blk_drewN ?_ _ | refine blk_drew ?_ | refine blk_alloc ?_ _)); exact BK162.out) hb)
        have n1_ := Aside0.mk (blk_below (g := gb163) (o := .cells #[.int .u64 0] 85 (0, 0)) (by (with_reducible repeat (first | refine blk_drewN ?_ _ | refine blk_drew ?_ | refine blk_alloc ?_ _)); exact BK163.out) hb)
        have n2_ := Aside0.mk (below_step (by repeat (first | (with_reducible first | exact HB.out | apply below_alloc | apply pw_below_drewN | apply below_drew1 | refine below_set ?_ GE162.out | refine below_set ?_ GE163.out) | exact HB.out)) hb)
        have n3_ := Aside0.mk (hbox)
        have n4_ := Aside0.mk ((by rw [hg]; exact (below_size (by repeat (first | (with_reducible first | exact HB.out | apply below_alloc | apply pw_below_drewN | apply below_drew1 | refine below_set ?_ GE162.out | refine below_set ?_ GE163.out) | exact HB.out))) : w.heap.size ≤ gb166))
        have n5_ := Aside0.mk ((by rw [hg]; exact (below_size (by repeat (first | (with_reducible first | exact HB.out | apply below_alloc | apply pw_below_drewN | apply below_drew1 | refine below_set ?_ GE162.out | refine below_set ?_ GE163.out) | exact HB.out))) : w.heap.size ≤ gb166))
        have n6_ := Aside0.mk ((by rw [hg]; exact Nat.ne_of_lt (blk_lt (g := gb162) (o := .cells #[.int .u64 a0_0] 85 (0, 0)) (by (with_reducible repeat (first | refine blk_drewN ?_ _ | refine blk_drew ?_ | refine blk_alloc ?_ _)); exact BK162.out)) : gb162 ≠ gb166))
        have n7_ := Aside0.mk ((by rw [hg]; exact Nat.ne_of_gt (blk_lt (g := gb162) (o := .cells #[.int .u64 a0_0] 85 (0, 0)) (by (with_reducible repeat (first | refine blk_drewN ?_ _ | refine blk_drew ?_ | refine blk_alloc ?_ _)); exact BK162.out)) : gb166 ≠ gb162))
        have n8_ := Aside0.mk ((by rw [hg]; exact Nat.ne_of_lt (blk_lt (g := gb163) (o := .cells #[.int .u64 0] 85 (0, 0)) (by (with_reducible repeat (first | refine blk_drewN ?_ _ | refine blk_drew ?_ | refine blk_alloc ?_ _)); exact BK163.out)) : gb163 ≠ gb166))
        have n9_ := Aside0.mk ((by rw [hg]; exact Nat.ne_of_gt (blk_lt (g := gb163) (o := .cells #[.int .u64 0] 85 (0, 0)) (by (with_reducible repeat (first | refine blk_drewN ?_ _ | refine blk_drew ?_ | refine blk_alloc ?_ _)); exact BK163.out)) : gb166 ≠ gb163))
        clear BK162
        clear BK163
        clear HB
        have BK162 := n0_
        have BK163 := n1_
        have HB := n2_
        have BK166 := n3_
        have GW166 := n4_
        have GE166 := n5_
        have NB162_166 := n6_
        have NB166_162 := n7_
        have NB163_166 := n8_
        have NB166_163 := n9_
        clear n0_ n1_ n2_ n3_ n4_ n5_ n6_ n7_ n8_ n9_
        clear hb hbox hg
        refine hK.out _ _ ⟨gb166, (.pointer (some ⟨gb166, 0, none⟩)), (by rw [ha.out]; exact putSel_upk 5 hb_ rfl rfl rfl), (by (with_reducible repeat (first | refine blk_drewN ?_ _ | refine blk_drew ?_ | refine blk_alloc ?_ _)); exact BK162.out), (by (with_reducible repeat (first | refine blk_drewN ?_ _ | refine blk_drew ?_ | refine blk_alloc ?_ _)); exact BK163.out), (by repeat (first | (with_reducible first | exact HB.out | apply below_alloc | apply pw_below_drewN | apply below_drew1 | refine below_set ?_ GE162.out | refine below_set ?_ GE163.out | refine below_set ?_ GE166.out) | exact HB.out)), fun _ _ => (by (with_reducible repeat (first | refine blk_drewN ?_ _ | refine blk_drew ?_ | refine blk_alloc ?_ _)); exact BK166.out), fun _ => GW166.out, fun _ => GE166.out, fun _ => NB162_166.out, fun _ => NB166_162.out, fun _ => NB163_166.out, fun _ => NB166_163.out, fun h0_ => absurd ((hoff 6 (by kernel_rfl)).symm.trans h0_) (by decide), fun _ => rfl⟩
      refine steps_cons ?_ ?_
      · rintro b a w' ⟨gb166, m5_, ha, Q_BK162, Q_BK163, Q_HB, Q_BK166, Q_GW166, Q_GE166, Q_NB162_166, Q_NB166_162, Q_NB163_166, Q_NB166_163, Q_BK166_e6, Q_X5_⟩ hb_ hon hoff
        refine ⟨_, rfl, fun K hK => ?_⟩
        have e4 : a.tmps[4]? = some (m5_) := by rw [ha]; exact putSel_on (e := (5, 4, m5_)) 5 rfl rfl (hon 5 (by kernel_rfl)) rfl
        rw [Q_X5_ (hon 5 (by kernel_rfl))] at e4
        have e9 : a.tmps[9]? = some (.agg #[.int .u64 t165]) := by rw [ha]; exact putSel_on (e := (4, 9, .agg #[.int .u64 t165])) 4 rfl rfl (hon 4 (by kernel_rfl)) rfl
        replace ha := Aside0.mk ha
        have BK162 := Aside0.mk Q_BK162
        have BK163 := Aside0.mk Q_BK163
        have HB := Aside0.mk Q_HB
        have BK166 := Aside0.mk (Q_BK166 (hon 5 (by kernel_rfl)) hb_)
        have GW166 := Aside0.mk (Q_GW166 (hon 5 (by kernel_rfl)))
        have GE166 := Aside0.mk (Q_GE166 (hon 5 (by kernel_rfl)))
        have NB162_166 := Aside0.mk (Q_NB162_166 (hon 5 (by kernel_rfl)))
        have NB166_162 := Aside0.mk (Q_NB166_162 (hon 5 (by kernel_rfl)))
        have NB163_166 := Aside0.mk (Q_NB163_166 (hon 5 (by kernel_rfl)))
        have NB166_163 := Aside0.mk (Q_NB166_163 (hon 5 (by kernel_rfl)))
        have hs32 : w'.cell? ⟨gb166, 0, none⟩ = some (.int .u64 0) := (blk_cell BK166.out 0).trans rfl
        have hfs32 := blk_frozen BK166.out 0
        have hns32_0 := NB162_166.out
        have hns32_1 := NB163_166.out
        have hms32_0 := NB166_162.out
        have hms32_1 := NB166_163.out
        refine skip_ (w1 := ?_) (by rfl) rfl ?_ ?_
        rotate_left
        · go_simp
          rfl
        refine hK.out _ _ ⟨gb166, m5_, (by rw [ha.out]; exact putSel_none (v := undef) rfl), (by (with_reducible repeat (first | refine blk_drewN ?_ _ | refine blk_drew ?_ | refine blk_alloc ?_ _)); refine blk_far ?_ NB162_166.out _; (with_reducible repeat (first | refine blk_drewN ?_ _ | refine blk_drew ?_ | refine blk_alloc ?_ _)); exact BK162.out), (by (with_reducible repeat (first | refine blk_drewN ?_ _ | refine blk_drew ?_ | refine blk_alloc ?_ _)); refine blk_far ?_ NB163_166.out _; (with_reducible repeat (first | refine blk_drewN ?_ _ | refine blk_drew ?_ | refine blk_alloc ?_ _)); exact BK163.out), (by repeat (first | (with_reducible first | exact HB.out | apply below_alloc | apply pw_below_drewN | apply below_drew1 | refine below_set ?_ GE162.out | refine below_set ?_ GE163.out | refine below_set ?_ GE166.out) | exact HB.out)), fun _ h1_ => absurd ((up_self b 6).symm.trans h1_) (by decide), fun _ => GW166.out, fun _ => GE166.out, fun _ => NB162_166.out, fun _ => NB166_162.out, fun _ => NB163_166.out, fun _ => NB166_163.out, fun _ => (by (with_reducible repeat (first | refine blk_drewN ?_ _ | refine blk_drew ?_ | refine blk_alloc ?_ _)); refine blk_put (cs := #[.int .u64 0]) ?_ 0 _ rfl; (with_reducible repeat (first | refine blk_drewN ?_ _ | refine blk_drew ?_ | refine blk_alloc ?_ _)); exact BK166.out), Q_X5_⟩
      exact steps_nil
    rintro b a w32 hall ⟨gb166, m5_, ha, Q_BK162, Q_BK163, Q_HB, Q_BK166, Q_GW166, Q_GE166, Q_NB162_166, Q_NB166_162, Q_NB163_166, Q_NB166_163, Q_BK166_e6, Q_X5_⟩
    clear BK162 BK163 HB
    have hb0_ := hall 0 (by kernel_rfl)
    have hb1_ := hall 1 (by kernel_rfl)
    have hb2_ := hall 2 (by kernel_rfl)
    have hb3_ := hall 3 (by kernel_rfl)
    have hb4_ := hall 4 (by kernel_rfl)
    have hb5_ := hall 5 (by kernel_rfl)
    have hb6_ := hall 6 (by kernel_rfl)
    subst ha
    obtain rfl := Q_X5_ hb5_
    simp only [putSel, hb0_, hb1_, hb2_, hb3_, hb4_, hb5_, hb6_, if_true, Act.put, List.setIfInBounds_toArray, List.set_cons_zero, List.set_cons_succ]
    have BK162 := Aside0.mk Q_BK162
    clear Q_BK162
    have BK163 := Aside0.mk Q_BK163
    clear Q_BK163
    have HB := Aside0.mk Q_HB
    clear Q_HB
    clear Q_BK166
    have GW166 := Aside0.mk (Q_GW166 hb5_)
    clear Q_GW166
    have GE166 := Aside0.mk (Q_GE166 hb5_)
    clear Q_GE166
    have NB162_166 := Aside0.mk (Q_NB162_166 hb5_)
    clear Q_NB162_166
    have NB166_162 := Aside0.mk (Q_NB166_162 hb5_)
    clear Q_NB166_162
    have NB163_166 := Aside0.mk (Q_NB163_166 hb5_)
    clear Q_NB163_166
    have NB166_163 := Aside0.mk (Q_NB166_163 hb5_)
    clear Q_NB166_163
    have BK166 := Aside0.mk (Q_BK166_e6 hb6_)
    clear Q_BK166_e6
    clear hall hb0_ hb1_ hb2_ hb3_ hb4_ hb5_ hb6_
    have hnb33 := NB166_162.out
    have hnc33 := NB162_166.out
    have hnb34 := NB166_163.out
    have hnc34 := NB163_166.out
    have hcz35_0 : w32.cell? ⟨gb166, 0, none⟩ = some (.int .u64 t165) := (blk_cell BK166.out 0).trans rfl
    have hfz35_0 := blk_frozen BK166.out 0
    try go_wp2
    have n0_ := Aside0.mk (blk_drew BK162.out)
    have n1_ := Aside0.mk (blk_drew BK163.out)
    have n2_ := Aside0.mk (blk_drew BK166.out)
    have n3_ := Aside0.mk (below_drew1 HB.out)
    clear BK162
    clear BK163
    clear BK166
    clear HB
    have BK162 := n0_
    have BK163 := n1_
    have BK166 := n2_
    have HB := n3_
    clear n0_ n1_ n2_ n3_
    refine start_ (n := 8) (S := fun w' => w'.cell? ⟨gb166, 0, none⟩ = some (.int .u64 t165) ∧ w'.cell? ⟨gb162, 0, none⟩ = some (.int .u64 a0_0)) (ds := []) #[false, false, false, false, false, false, false, false] (by kernel_rfl) rfl rfl ⟨(blk_cell BK166.out 0).trans rfl, (blk_cell BK162.out 0).trans rfl⟩ (fun hHeld => ?_); refine with_tabW impl_num_impl_fieldP_root.tab4 impl_num_impl_fieldP_root.bits4 (fun HT_ HW_ => ?_)
    generalize w32.drew = w36 at BK162 BK163 BK166 HB hHeld ⊢
    refine take_ (i := 0) (N := some 16) (v := ?_) (a' := ?_) #[true, false, false, false, false, false, false, false] rfl rfl (take_ofW HT_.out HW_.out (by kernel_rfl)) (fun _ _ _ h => h) (Or.inl ⟨by rfl, ?_⟩) hHeld ?_ ?_
    rotate_left
    · rintro w' ⟨s0, s1⟩
      go_simp
      with_reducible rfl
    rotate_left
    · simp only [Act.put, List.setIfInBounds_toArray, List.set_cons_zero, List.set_cons_succ, i64_w, i32_w]
      rfl
    refine take_ (i := 1) (N := some 17) (v := ?_) (a' := ?_) #[true, true, false, false, false, false, false, false] rfl rfl (take_ofW HT_.out HW_.out (by kernel_rfl)) (fun _ _ _ h => h) (Or.inl ⟨by rfl, ?_⟩) hHeld ?_ ?_
    rotate_left
    · rintro w' ⟨s0, s1⟩
      go_simp
      with_reducible rfl
    rotate_left
    · simp only [Act.put, List.setIfInBounds_toArray, List.set_cons_zero, List.set_cons_succ, i64_w, i32_w]
      rfl
    refine take_ (i := 2) (N := some 18) (v := ?_) (a' := ?_) #[true, true, true, false, false, false, false, false] rfl rfl (take_ofW HT_.out HW_.out (by kernel_rfl)) (fun _ _ _ h => h) (Or.inl ⟨by rfl, ?_⟩) hHeld ?_ ?_
    rotate_left
    · rintro w' ⟨s0, s1⟩
      go_simp
      with_reducible rfl
    rotate_left
    · simp only [Act.put, List.setIfInBounds_toArray, List.set_cons_zero, List.set_cons_succ, i64_w, i32_w]
      rfl
    refine take_ (i := 4) (N := some 20) (v := ?_) (a' := ?_) #[true, true, true, false, true, false, false, false] rfl rfl (take_ofW HT_.out HW_.out (by kernel_rfl)) (fun _ _ _ h => h) (Or.inl ⟨by rfl, ?_⟩) hHeld ?_ ?_
    rotate_left
    · rintro w' ⟨s0, s1⟩
      go_simp
      with_reducible rfl
    rotate_left
    · simp only [Act.put, List.setIfInBounds_toArray, List.set_cons_zero, List.set_cons_succ, i64_w, i32_w]
      rfl
    refine one_ (i := 3) (N := some 19) #[true, true, true, true, true, false, false, false] rfl rfl (one_of HT_.out (by kernel_rfl)) (by decide) (fun K hK => ?_)
    refine goes_ Tryd.func111 (by kernel_rfl) rfl #[.agg #[.int .u64 t165], .agg #[.int .u64 t165]] (by rfl) rfl rfl (by (try simp only [List.map_toArray, List.map_cons, List.map_nil]); first | done | rfl | (simp only [List.length_drop, List.length_take]; rfl)) ?_
    with_reducible refine (impl_num_impl_fieldP_times.calls k t165 t165 t169 _ A24.out).mono ?_
    rintro e w37 ⟨rfl, hb⟩
    refine ⟨_, rfl, ?_⟩
    have n0_ := Aside0.mk (blk_below (g := gb162) (o := .cells #[.int .u64 a0_0] 85 (0, 0)) (by (with_reducible repeat (first | refine blk_drewN ?_ _ | refine blk_drew ?_ | refine blk_alloc ?_ _)); exact BK162.out) hb)
    have n1_ := Aside0.mk (blk_below (g := gb163) (o := .cells #[.int .u64 0] 85 (0, 0)) (by (with_reducible repeat (first | refine blk_drewN ?_ _ | refine blk_drew ?_ | refine blk_alloc ?_ _)); exact BK163.out) hb)
    have n2_ := Aside0.mk (blk_below (g := gb166) (o := .cells #[.int .u64 t165] 85 (0, 0)) (by (with_reducible repeat (first | refine blk_drewN ?_ _ | refine blk_drew ?_ | refine blk_alloc ?_ _)); exact BK166.out) hb)
    have n3_ := Aside0.mk (below_step (by repeat (first | (with_reducible first | exact HB.out | apply below_alloc | apply pw_below_drewN | apply below_drew1 | refine below_set ?_ GE162.out | refine below_set ?_ GE163.out | refine below_set ?_ GE166.out) | exact HB.out)) hb)
    clear BK162
    clear BK163
    clear BK166
    clear HB
    have BK162 := n0_
    have BK163 := n1_
    have BK166 := n2_
    have HB := n3_
    clear n0_ n1_ n2_ n3_
    (try clear hb)
    (try clear hb2)
    (try clear hk)
    (try clear hi)
    refine hK.out _ _ ⟨(blk_cell BK166.out 0).trans rfl, (blk_cell BK162.out 0).trans rfl⟩ (fun hHeld => ?_)
    clear hK K
    refine norm_ (a' := ?_) ?_ ?_
    rotate_left
    · show Act.put _ (some 19) _ = _
      simp only [Act.put, List.setIfInBounds_toArray, List.set_cons_zero, List.set_cons_succ, i64_w, i32_w]
      rfl
    refine pure_ (i := 5) (N := some 21) (v := ?_) (a' := ?_) #[true, true, true, true, true, true, false, false] rfl rfl (any_of HT_.out (by kernel_rfl)) (fun _ _ _ h => h) (Or.inl ⟨by rfl, ?_⟩) ?_ ?_
    rotate_left
    · intro w'
      go_simp
      with_reducible rfl
    rotate_left
    · simp only [Act.put, List.setIfInBounds_toArray, List.set_cons_zero, List.set_cons_succ, i64_w, i32_w]
      rfl
    refine one_ (i := 6) (N := none) #[true, true, true, true, true, true, true, false] rfl rfl (one_of HT_.out (by kernel_rfl)) (by decide) (fun K hK => ?_)
    have hs38 : w37.cell? ⟨gb163, 0, none⟩ = some (.int .u64 0) := (blk_cell BK163.out 0).trans rfl
    have hfs38 := blk_frozen BK163.out 0
    have hns38_0 := NB162_163.out
    have hns38_2 := NB166_163.out
    have hms38_0 := NB163_162.out
    have hms38_2 := NB163_166.out
    refine skip_ (w1 := ?_) (by rfl) rfl ?_ ?_
    rotate_left
    · go_simp
      rfl
    refine hK.out _ _ ⟨((cell_far (p := ⟨gb163, _, none⟩) NB166_163.out _).trans (hHeld.1)), ((cell_far (p := ⟨gb163, _, none⟩) NB162_163.out _).trans (hHeld.2))⟩ (fun hHeld => ?_)
    clear hK K
    refine pure_ (i := 7) (N := some 3) (v := ?_) (a' := ?_) #[true, true, true, true, true, true, true, true] rfl rfl (any_of HT_.out (by kernel_rfl)) (fun _ _ _ h => h) (Or.inl ⟨by rfl, ?_⟩) ?_ ?_
    rotate_left
    · intro w'
      go_simp
      with_reducible rfl
    rotate_left
    · simp only [Act.put, List.setIfInBounds_toArray, List.set_cons_zero, List.set_cons_succ, i64_w, i32_w]
      rfl
    refine done_ (done_of HT_.out (by kernel_rfl)) ?_
    try go_wp2
    refine bodyPost_ret (results_ct rfl _ _ gb163 85 #[.int .u64 t165] (0, 0) _ rfl (by (with_reducible repeat (first | refine blk_drewN ?_ _ | refine blk_drew ?_ | refine blk_alloc ?_ _)); refine blk_put (cs := #[.int .u64 0]) ?_ 0 _ rfl; (with_reducible repeat (first | refine blk_drewN ?_ _ | refine blk_drew ?_ | refine blk_alloc ?_ _)); exact BK163.out) Tryd.underlying85 rfl (by kernel_rfl)) rfl ?_
    exact ⟨by first | rfl | (simp [errW_none, errW_some] <;> rfl) | (simp [*, errW_none, errW_some] <;> rfl), by repeat (first | (with_reducible first | exact HB.out | apply below_alloc | apply pw_below_drewN | apply below_drew1 | refine below_set ?_ GE162.out | refine below_set ?_ GE163.out | refine below_set ?_ GE166.out) | exact HB.out)⟩

end Go.Proofs.YtkefcokmghbmhaaDoor.C
end
section
namespace Go.Proofs.YtkefcokmghbmhaaDoor.C
open Go.RowKit Go.Proofs.YtkefcokmghbmhaaDoor.B Go.Proofs.YtkefcokmghbmhaaDoor.H0 Go.Proofs.YtkefcokmghbmhaaDoor.G1 Go.Proofs.YtkefcokmghbmhaaDoor.F0 Go.Proofs.YtkefcokmghbmhaaDoor.H1 Go.Proofs.YtkefcokmghbmhaaDoor.H2 Go.Proofs.YtkefcokmghbmhaaDoor.H3 Go.Proofs.YtkefcokmghbmhaaDoor.CD Go.Proofs.YtkefcokmghbmhaaDoor.H4 Go.Proofs.YtkefcokmghbmhaaDoorW.PrintWords Go.Proofs.YtkefcokmghbmhaaDoorW.PrintLast Go.Proofs.YtkefcokmghbmhaaDoorW.PrintMore
attribute [local go_sem high] field_num_fieldP   -- for this text's walks alone
attribute [local go_sem] max2_int min2_int max_two min_two max_three min_three max_four min_four   -- for this text's walks alone
set_option linter.unusedVariables false
set_option linter.unusedSimpArgs false
def impl_GetPoint.j0 : Nat → ByteArray → Int → Int → Bool → Int → Int → Bool → Int → Option (Int × Int × Bool × Bool)
  | 0, _, _, _, _, _, _, _, _ => none
  | k + 1, x0, x4, x5, x34, x81000, x81001, x81002, x177000 => if x34 = true then (some (x81000, x81001, x81002, false)) else (if (Go.bits .and .u64 (x4 / 2305843009213693952) 1) = 1 then ((impl_num_impl_fieldP_negative.f x177000).bind fun t177 => ((impl_PutPoint.f k x5 t177 false).bind fun t179 => (if t179.toList = x0.toList then (some (x5, t177, false, true)) else (some (x81000, x81001, x81002, false))))) else ((impl_PutPoint.f k x5 x177000 false).bind fun t181 => (if t181.toList = x0.toList then (some (x5, x177000, false, true)) else (some (x81000, x81001, x81002, false)))))
def impl_GetPoint.f (k : Nat) (a0 : ByteArray) : Option (Int × Int × Bool × Bool) := if (a0.size : Int) = 8 then ((impl_wordOf.f k a0).bind fun t171 => ((impl_numOf_impl_fieldP.f (Go.bits .and .u64 t171 2305843009213693951)).bind fun t172 => ((impl_curveAt.f k t172).bind fun t173 => ((impl_num_impl_fieldP_root.f k t173).bind fun bt174 => (if (t171 / 4611686018427387904) = 1 then (if (Go.bits .and .u64 t171 2305843009213693951) ≥ 2305843009213693951 then (impl_GetPoint.j0 k a0 t171 (Go.bits .and .u64 t171 2305843009213693951) true 0 0 true bt174.1) else (impl_GetPoint.j0 k a0 t171 (Go.bits .and .u64 t171 2305843009213693951) (!bt174.2) 0 0 true bt174.1)) else (impl_GetPoint.j0 k a0 t171 (Go.bits .and .u64 t171 2305843009213693951) true 0 0 true bt174.1)))))) else (some (0, 0, true, false))
set_option maxHeartbeats 8000000 in
set_option maxRecDepth 100000 in
theorem impl_GetPoint.calls (k : Nat) (a0 : ByteArray) (r1 : Int) (r2 : Int) (r3 : Bool) (r4 : Bool) (w : World) (hG : G w) (h : impl_GetPoint.f k a0 = some (r1, r2, r3, r4)) :
    Calls Tryd.prog 33 #[.string a0] w fun e w' => e = .returned (.tuple #[.agg #[.int .u64 r1, .int .u64 r2, .bool r3], .bool r4]) ∧ Below w.heap.size w w' := by
  have hu26 := Tryd.underlying26
  have hu85 := Tryd.underlying85
  have HB := Aside0.mk (Below.refl w.heap.size w)
  have H : (if (a0.size : Int) = 8 then ((impl_wordOf.f k a0).bind fun t171 => ((impl_numOf_impl_fieldP.f (Go.bits .and .u64 t171 2305843009213693951)).bind fun t172 => ((impl_curveAt.f k t172).bind fun t173 => ((impl_num_impl_fieldP_root.f k t173).bind fun bt174 => (if (t171 / 4611686018427387904) = 1 then (if (Go.bits .and .u64 t171 2305843009213693951) ≥ 2305843009213693951 then (impl_GetPoint.j0 k a0 t171 (Go.bits .and .u64 t171 2305843009213693951) true 0 0 true bt174.1) else (impl_GetPoint.j0 k a0 t171 (Go.bits .and .u64 t171 2305843009213693951) (!bt174.2) 0 0 true bt174.1)) else (impl_GetPoint.j0 k a0 t171 (Go.bits .and .u64 t171 2305843009213693951) true 0 0 true bt174.1)))))) else (some (0, 0, true, false))) = some (r1, r2, r3, r4) := h
  clear h
  obtain ⟨tG0, frG0, hb_⟩ := G_0 hG
  have BK80 := Aside0.mk hb_
  clear hb_
  have HG := Aside0.mk hG
  clear hG
  by_cases c2 : (a0.size : Int) = 8
  · rw [if_pos c2] at H
    have c2b0 : ((a0.size : Int) == 8) = true := beq_iff_eq.mpr c2
    have c2b1 : ((a0.size : Int) != 8) = false := bne_eq_false_iff_eq.mpr c2
    clear c2
    replace H := Option.bind_eq_some_iff.mp H
    obtain ⟨t171, A30, H⟩ := H
    replace H : ((impl_numOf_impl_fieldP.f (Go.bits .and .u64 t171 2305843009213693951)).bind fun t172 => ((impl_curveAt.f k t172).bind fun t173 => ((impl_num_impl_fieldP_root.f k t173).bind fun bt174 => (if (t171 / 4611686018427387904) = 1 then (if (Go.bits .and .u64 t171 2305843009213693951) ≥ 2305843009213693951 then (impl_GetPoint.j0 k a0 t171 (Go.bits .and .u64 t171 2305843009213693951) true 0 0 true bt174.1) else (impl_GetPoint.j0 k a0 t171 (Go.bits .and .u64 t171 2305843009213693951) (!bt174.2) 0 0 true bt174.1)) else (impl_GetPoint.j0 k a0 t171 (Go.bits .and .u64 t171 2305843009213693951) true 0 0 true bt174.1))))) = some (r1, r2, r3, r4) := H
    have A3 := Aside0.mk A30
    clear A30
    replace H := Option.bind_eq_some_iff.mp H
    obtain ⟨t172, A40, H⟩ := H
    replace H : ((impl_curveAt.f k t172).bind fun t173 => ((impl_num_impl_fieldP_root.f k t173).bind fun bt174 => (if (t171 / 4611686018427387904) = 1 then (if (Go.bits .and .u64 t171 2305843009213693951) ≥ 2305843009213693951 then (impl_GetPoint.j0 k a0 t171 (Go.bits .and .u64 t171 2305843009213693951) true 0 0 true bt174.1) else (impl_GetPoint.j0 k a0 t171 (Go.bits .and .u64 t171 2305843009213693951) (!bt174.2) 0 0 true bt174.1)) else (impl_GetPoint.j0 k a0 t171 (Go.bits .and .u64 t171 2305843009213693951) true 0 0 true bt174.1)))) = some (r1, r2, r3, r4) := H
    have A4 := Aside0.mk A40
    clear A40
    replace H := Option.bind_eq_some_iff.mp H
    obtain ⟨t173, A50, H⟩ := H
    replace H : ((impl_num_impl_fieldP_root.f k t173).bind fun bt174 => (if (t171 / 4611686018427387904) = 1 then (if (Go.bits .and .u64 t171 2305843009213693951) ≥ 2305843009213693951 then (impl_GetPoint.j0 k a0 t171 (Go.bits .and .u64 t171 2305843009213693951) true 0 0 true bt174.1) else (impl_GetPoint.j0 k a0 t171 (Go.bits .and .u64 t171 2305843009213693951) (!bt174.2) 0 0 true bt174.1)) else (impl_GetPoint.j0 k a0 t171 (Go.bits .and .u64 t171 2305843009213693951) true 0 0 true bt174.1))) = some (r1, r2, r3, r4) := H
    have A5 := Aside0.mk A50
    clear A50
    replace H := Option.bind_eq_some_iff.mp H
    obtain ⟨⟨t174, t175⟩, A60, H⟩ := H
    replace H : (if (t171 / 4611686018427387904) = 1 then (if (Go.bits .and .u64 t171 2305843009213693951) ≥ 2305843009213693951 then (impl_GetPoint.j0 k a0 t171 (Go.bits .and .u64 t171 2305843009213693951) true 0 0 true t174) else (impl_GetPoint.j0 k a0 t171 (Go.bits .and .u64 t171 2305843009213693951) (!t175) 0 0 true t174)) else (impl_GetPoint.j0 k a0 t171 (Go.bits .and .u64 t171 2305843009213693951) true 0 0 true t174)) = some (r1, r2, r3, r4) := H
    have A6 := Aside0.mk A60
    clear A60
    have HC7 := Aside0.mk H
    clear H
    go_enter Tryd.func33, Tryd.ntmps33
    go_upto_region 6 with (first | ((with_reducible refine gate_dst (N := 2) rfl ?_); refine box_event ?hg (N := 2) ?hd (cs := #[.int .u64 0, .int .u64 0, .bool false]) (t := 26) ?hr ?_; (case hd => rfl); (case hg => rfl); (case hr => first | (go_simp; done) | (go_simp; rfl)); intro gb170 hg w8 hbox hb; have n0_ := Aside0.mk (blk_below (g := 0) (o := .cells #[.int .u64 0, .int .u64 0, .bool true] tG0 frG0) (by (with_reducible repeat (first | refine blk_drewN ?_ _ | refine blk_drew ?_ | refine blk_alloc ?_ _)); exact BK80.out) hb); have n1_ := Aside0.mk (below_step (by repeat (first | (with_reducible first | exact HB.out | apply below_alloc | apply pw_below_drewN | apply below_drew1 | refine below_set ?_ GE80.out) | exact HB.out)) hb); have n2_ := Aside0.mk (hbox); have n3_ := Aside0.mk ((by rw [hg]; exact (below_size (by repeat (first | (with_reducible first | exact HB.out | apply below_alloc | apply pw_below_drewN | apply below_drew1 | refine below_set ?_ GE80.out) | exact HB.out))) : w.heap.size ≤ gb170)); have n4_ := Aside0.mk ((by rw [hg]; exact (below_size (by repeat (first | (with_reducible first | exact HB.out | apply below_alloc | apply pw_below_drewN | apply below_drew1 | refine below_set ?_ GE80.out) | exact HB.out))) : w.heap.size ≤ gb170)); have n5_ := Aside0.mk ((by rw [hg]; exact Nat.ne_of_lt (blk_lt (g := 0) (o := .cells #[.int .u64 0, .int .u64 0, .bool true] tG0 frG0) (by (with_reducible repeat (first | refine blk_drewN ?_ _ | refine blk_drew ?_ | refine blk_alloc ?_ _)); exact BK80.out)) : 0 ≠ gb170)); have n6_ := Aside0.mk ((by rw [hg]; exact Nat.ne_of_gt (blk_lt (g := 0) (o := .cells #[.int .u64 0, .int .u64 0, .bool true] tG0 frG0) (by (with_reducible repeat (first | refine blk_drewN ?_ _ | refine blk_drew ?_ | refine blk_alloc ?_ _)); exact BK80.out)) : gb170 ≠ 0)); clear BK80; clear HB; have BK80 := n0_; have HB := n1_; have BK170 := n2_; have GW170 := n3_; have GE170 := n4_; have NB80_170 := n5_; have NB170_80 := n6_; clear n0_ n1_ n2_ n3_ n4_ n5_ n6_; clear hb hbox hg) | ((with_reducible refine gate_callee (f := 82) rfl ?_); refine goesL_ (some 14) rfl rfl Tryd.func82 (by kernel_rfl) rfl #[.string a0] rfl (by (try simp only [List.map_toArray, List.map_cons, List.map_nil]); first | done | rfl | (simp only [List.length_drop, List.length_take]; rfl)) ?_; (with_reducible refine (impl_wordOf.calls k a0 t171 _ A3.out).mono ?_); rintro e w' ⟨rfl, ⟨nd, rfl⟩⟩; refine ⟨_, rfl, ?_⟩; (try (rw [drewN_self w8]; generalize hq_ : World.drewN w8 _ = w8; have n0_ : Aside0 (w8.heap[gb170]? = some (.cells #[.int .u64 0, .int .u64 0, .bool false] 26 (0, 0))) := ⟨by rw [← hq_]; exact (by (with_reducible repeat (first | refine blk_drewN ?_ _ | refine blk_drew ?_ | refine blk_alloc ?_ _)); exact BK170.out)⟩; have n1_ : Aside0 (w8.heap[0]? = some (.cells #[.int .u64 0, .int .u64 0, .bool true] tG0 frG0)) := ⟨by rw [← hq_]; exact (by (with_reducible repeat (first | refine blk_drewN ?_ _ | refine blk_drew ?_ | refine blk_alloc ?_ _)); exact BK80.out)⟩; have n2_ : Aside0 (Below w.heap.size w w8) := ⟨by rw [← hq_]; exact (by repeat (first | (with_reducible first | exact HB.out | apply below_alloc | apply pw_below_drewN | apply below_drew1 | refine below_set ?_ GE80.out | refine below_set ?_ GE170.out) | exact HB.out))⟩; clear BK170 BK80 HB hq_; have BK170 := n0_; have BK80 := n1_; have HB := n2_; clear n0_ n1_ n2_))) | ((with_reducible refine gate_callee (f := 84) rfl ?_); refine goesL_ (some 19) rfl rfl Tryd.func84 (by kernel_rfl) rfl #[.int .u64 (Go.bits .and .u64 t171 2305843009213693951)] rfl (by (try simp only [List.map_toArray, List.map_cons, List.map_nil]); first | done | rfl | (simp only [List.length_drop, List.length_take]; rfl)) ?_; (with_reducible refine (impl_numOf_impl_fieldP.calls (Go.bits .and .u64 t171 2305843009213693951) t172 _ A4.out).mono ?_); rintro e w9 ⟨rfl, hb⟩; refine ⟨_, rfl, ?_⟩; have n0_ := Aside0.mk (blk_below (g := 0) (o := .cells #[.int .u64 0, .int .u64 0, .bool true] tG0 frG0) (by (with_reducible repeat (first | refine blk_drewN ?_ _ | refine blk_drew ?_ | refine blk_alloc ?_ _)); exact BK80.out) hb); have n1_ := Aside0.mk (blk_below (g := gb170) (o := .cells #[.int .u64 0, .int .u64 0, .bool false] 26 (0, 0)) (by (with_reducible repeat (first | refine blk_drewN ?_ _ | refine blk_drew ?_ | refine blk_alloc ?_ _)); exact BK170.out) hb); have n2_ := Aside0.mk (below_step (by repeat (first | (with_reducible first | exact HB.out | apply below_alloc | apply pw_below_drewN | apply below_drew1 | refine below_set ?_ GE80.out | refine below_set ?_ GE170.out) | exact HB.out)) hb); clear BK80; clear BK170; clear HB; have BK80 := n0_; have BK170 := n1_; have HB := n2_; clear n0_ n1_ n2_; (try clear hb); (try clear hb2); (try clear hk); (try clear hi)) | ((with_reducible refine gate_callee (f := 83) rfl ?_); refine goesL_ (some 20) rfl rfl Tryd.func83 (by kernel_rfl) rfl #[.agg #[.int .u64 t172]] rfl (by (try simp only [List.map_toArray, List.map_cons, List.map_nil]); first | done | rfl | (simp only [List.length_drop, List.length_take]; rfl)) ?_; (with_reducible refine (impl_curveAt.calls k t172 t173 _ A5.out).mono ?_); rintro e w10 ⟨rfl, hb⟩; refine ⟨_, rfl, ?_⟩; have n0_ := Aside0.mk (blk_below (g := 0) (o := .cells #[.int .u64 0, .int .u64 0, .bool true] tG0 frG0) (by (with_reducible repeat (first | refine blk_drewN ?_ _ | refine blk_drew ?_ | refine blk_alloc ?_ _)); exact BK80.out) hb); have n1_ := Aside0.mk (blk_below (g := gb170) (o := .cells #[.int .u64 0, .int .u64 0, .bool false] 26 (0, 0)) (by (with_reducible repeat (first | refine blk_drewN ?_ _ | refine blk_drew ?_ | refine blk_alloc ?_ _)); exact BK170.out) hb); have n2_ := Aside0.mk (below_step (by repeat (first | (with_reducible first | exact HB.out | apply below_alloc | apply pw_below_drewN | apply below_drew1 | refine below_set ?_ GE80.out | refine below_set ?_ GE170.out) | exact HB.out)) hb); clear BK80; clear BK170; clear HB; have BK80 := n0_; have BK170 := n1_; have HB := n2_; clear n0_ n1_ n2_; (try clear hb); (try clear hb2); (try clear hk); (try clear hi)) | ((with_reducible refine gate_callee (f := 85) rfl ?_); refine goesL_ (some 21) rfl rfl Tryd.func85 (by kernel_rfl) rfl #[.agg #[.int .u64 t173]] rfl (by (try simp only [List.map_toArray, List.map_cons, List.map_nil]); first | done | rfl | (simp only [List.length_drop, List.length_take]; rfl)) ?_; (with_reducible refine (impl_num_impl_fieldP_root.calls k t173 t174 t175 _ A6.out).mono ?_); rintro e w11 ⟨rfl, hb⟩; refine ⟨_, rfl, ?_⟩; have n0_ := Aside0.mk (blk_below (g := 0) (o := .cells #[.int .u64 0, .int .u64 0, .bool true] tG0 frG0) (by (with_reducible repeat (first | refine blk_drewN ?_ _ | refine blk_drew ?_ | refine blk_alloc ?_ _)); exact BK80.out) hb); have n1_ := Aside0.mk (blk_below (g := gb170) (o := .cells #[.int .u64 0, .int .u64 0, .bool false] 26 (0, 0)) (by (with_reducible repeat (first | refine blk_drewN ?_ _ | refine blk_drew ?_ | refine blk_alloc ?_ _)); exact BK170.out) hb); have n2_ := Aside0.mk (below_step (by repeat (first | (with_reducible first | exact HB.out | apply below_alloc | apply pw_below_drewN | apply below_drew1 | refine below_set ?_ GE80.out | refine below_set ?_ GE170.out) | exact HB.out)) hb); clear BK80; clear BK170; clear HB; have BK80 := n0_; have BK170 := n1_; have HB := n2_; clear n0_ n1_ n2_; (try clear hb); (try clear hb2); (try clear hk); (try clear hi)) | ((with_reducible refine gate_dst (N := 6) rfl ?_); refine box_event ?hg (N := 6) ?hd (cs := #[.int .u64 0]) (t := 85) ?hr ?_; (case hd => rfl); (case hg => rfl); (case hr => first | (go_simp; done) | (go_simp; rfl)); intro gb176 hg w12 hbox hb; have n0_ := Aside0.mk (blk_below (g := 0) (o := .cells #[.int .u64 0, .int .u64 0, .bool true] tG0 frG0) (by (with_reducible repeat (first | refine blk_drewN ?_ _ | refine blk_drew ?_ | refine blk_alloc ?_ _)); exact BK80.out) hb); have n1_ := Aside0.mk (blk_below (g := gb170) (o := .cells #[.int .u64 0, .int .u64 0, .bool false] 26 (0, 0)) (by (with_reducible repeat (first | refine blk_drewN ?_ _ | refine blk_drew ?_ | refine blk_alloc ?_ _)); exact BK170.out) hb); have n2_ := Aside0.mk (below_step (by repeat (first | (with_reducible first | exact HB.out | apply below_alloc | apply pw_below_drewN | apply below_drew1 | refine below_set ?_ GE80.out | refine below_set ?_ GE170.out) | exact HB.out)) hb); have n3_ := Aside0.mk (hbox); have n4_ := Aside0.mk ((by rw [hg]; exact (below_size (by repeat (first | (with_reducible first | exact HB.out | apply below_alloc | apply pw_below_drewN | apply below_drew1 | refine below_set ?_ GE80.out | refine below_set ?_ GE170.out) | exact HB.out))) : w.heap.size ≤ gb176)); have n5_ := Aside0.mk ((by rw [hg]; exact (below_size (by repeat (first | (with_reducible first | exact HB.out | apply below_alloc | apply pw_below_drewN | apply below_drew1 | refine below_set ?_ GE80.out | refine below_set ?_ GE170.out) | exact HB.out))) : w.heap.size ≤ gb176)); have n6_ := Aside0.mk ((by rw [hg]; exact Nat.ne_of_lt (blk_lt (g := 0) (o := .cells #[.int .u64 0, .int .u64 0, .bool true] tG0 frG0) (by (with_reducible repeat (first | refine blk_drewN ?_ _ | refine blk_drew ?_ | refine blk_alloc ?_ _)); exact BK80.out)) : 0 ≠ gb176)); have n7_ := Aside0.mk ((by rw [hg]; exact Nat.ne_of_gt (blk_lt (g := 0) (o := .cells #[.int .u64 0, .int .u64 0, .bool true] tG0 frG0) (by (with_reducible repeat (first | refine blk_drewN ?_ _ | refine blk_drew ?_ | refine blk_alloc ?_ _)); exact BK80.out)) : gb176 ≠ 0)); have n8_ := Aside0.mk ((by rw [hg]; exact Nat.ne_of_lt (blk_lt (g := gb170) (o := .cells #[.int .u64 0, .int .u64 0, .bool false] 26 (0, 0)) (by (with_reducible repeat (first | refine blk_drewN ?_ _ | refine blk_drew ?_ | refine blk_alloc ?_ _)); exact BK170.out)) : gb170 ≠ gb176)); have n9_ := Aside0.mk ((by rw [hg]; exact Nat.ne_of_gt (blk_lt (g := gb170) (o := .cells #[.int .u64 0, .int .u64 0, .bool false] 26 (0, 0)) (by (with_reducible repeat (first | refine blk_drewN ?_ _ | refine blk_drew ?_ | refine blk_alloc ?_ _)); exact BK170.out)) : gb176 ≠ gb170)); clear BK80; clear BK170; clear HB; have BK80 := n0_; have BK170 := n1_; have HB := n2_; have BK176 := n3_; have GW176 := n4_; have GE176 := n5_; have NB80_176 := n6_; have NB176_80 := n7_; have NB170_176 := n8_; have NB176_170 := n9_; clear n0_ n1_ n2_ n3_ n4_ n5_ n6_ n7_ n8_ n9_; clear hb hbox hg; have hnb13 := NB176_80.out; have hnc13 := NB80_176.out; have hnb14 := NB176_170.out; have hnc14 := NB170_176.out; have hcz15_0 : w12.cell? ⟨gb176, 0, none⟩ = some (.int .u64 0) := (blk_cell BK176.out 0).trans rfl; have hfz15_0 := blk_frozen BK176.out 0))
    (try simp only [Act.put, List.setIfInBounds_toArray, List.set_cons_zero, List.set_cons_succ])
    go_cut [34] (fun v34 wc => ∃ (kq : Nat) (x34_6 : Bool), v34 = .bool x34_6 ∧ Aside0 (impl_GetPoint.j0 kq a0 t171 (Go.bits .and .u64 t171 2305843009213693951) x34_6 0 0 true t174 = some (r1, r2, r3, r4)) ∧ Aside0 (kq ≤ k) ∧ Aside0 (wc.heap[0]? = some (.cells #[.int .u64 0, .int .u64 0, .bool true] tG0 frG0)) ∧ Aside0 (wc.heap[gb170]? = some (.cells #[.int .u64 0, .int .u64 0, .bool false] 26 (0, 0))) ∧ Aside0 (wc.heap[gb176]? = some (.cells #[.int .u64 t174] 85 (0, 0))) ∧ Aside0 (Below w.heap.size w wc))
    case first =>
      have H := HC7.out
      clear HC7
      by_cases c16 : (t171 / 4611686018427387904) = 1
      · rw [if_pos c16] at H
        have c16b0 : ((t171 / 4611686018427387904) == 1) = true := beq_iff_eq.mpr c16
        have c16b1 : ((t171 / 4611686018427387904) != 1) = false := bne_eq_false_iff_eq.mpr c16
        clear c16
        (first | rw [c16b0] | (simp only [i64_w, i32_w]; rw [c16b0]) | skip)
        by_cases c17 : (Go.bits .and .u64 t171 2305843009213693951) ≥ 2305843009213693951
        · rw [if_pos c17] at H
          have c17b0 : decide (2305843009213693951 ≤ (Go.bits .and .u64 t171 2305843009213693951)) = true := decide_eq_true c17
          clear c17
          have H' := Aside0.mk H
          clear H
          go_wp2
          go_meet
          case rel => exact ⟨_, (true), (by first | rfl | (simp; done) | (simp [*]; done)), H', ⟨by first | omega | exact Nat.le_refl _⟩, ⟨by (with_reducible repeat (first | refine blk_drewN ?_ _ | refine blk_drew ?_ | refine blk_alloc ?_ _)); refine blk_farG ?_ NB80_176.out _; (with_reducible repeat (first | refine blk_drewN ?_ _ | refine blk_drew ?_ | refine blk_alloc ?_ _)); exact BK80.out⟩, ⟨by (with_reducible repeat (first | refine blk_drewN ?_ _ | refine blk_drew ?_ | refine blk_alloc ?_ _)); refine blk_far ?_ NB170_176.out _; (with_reducible repeat (first | refine blk_drewN ?_ _ | refine blk_drew ?_ | refine blk_alloc ?_ _)); exact BK170.out⟩, ⟨by (with_reducible repeat (first | refine blk_drewN ?_ _ | refine blk_drew ?_ | refine blk_alloc ?_ _)); refine blk_put (cs := #[.int .u64 0]) ?_ 0 _ rfl; (with_reducible repeat (first | refine blk_drewN ?_ _ | refine blk_drew ?_ | refine blk_alloc ?_ _)); exact BK176.out⟩, ⟨by repeat (first | (with_reducible first | exact HB.out | apply below_alloc | apply pw_below_drewN | apply below_drew1 | refine below_set ?_ GE80.out | refine below_set ?_ GE170.out | refine below_set ?_ GE176.out) | exact HB.out)⟩⟩
        · rw [if_neg c17] at H
          have c17b0 : decide (2305843009213693951 ≤ (Go.bits .and .u64 t171 2305843009213693951)) = false := decide_eq_false c17
          clear c17
          have H' := Aside0.mk H
          clear H
          go_wp2
          go_meet
          case rel => exact ⟨_, (!t175), (by first | rfl | (simp; done) | (simp [*]; done)), H', ⟨by first | omega | exact Nat.le_refl _⟩, ⟨by (with_reducible repeat (first | refine blk_drewN ?_ _ | refine blk_drew ?_ | refine blk_alloc ?_ _)); refine blk_farG ?_ NB80_176.out _; (with_reducible repeat (first | refine blk_drewN ?_ _ | refine blk_drew ?_ | refine blk_alloc ?_ _)); exact BK80.out⟩, ⟨by (with_reducible repeat (first | refine blk_drewN ?_ _ | refine blk_drew ?_ | refine blk_alloc ?_ _)); refine blk_far ?_ NB170_176.out _; (with_reducible repeat (first | refine blk_drewN ?_ _ | refine blk_drew ?_ | refine blk_alloc ?_ _)); exact BK170.out⟩, ⟨by (with_reducible repeat (first | refine blk_drewN ?_ _ | refine blk_drew ?_ | refine blk_alloc ?_ _)); refine blk_put (cs := #[.int .u64 0]) ?_ 0 _ rfl; (with_reducible repeat (first | refine blk_drewN ?_ _ | refine blk_drew ?_ | refine blk_alloc ?_ _)); exact BK176.out⟩, ⟨by repeat (first | (with_reducible first | exact HB.out | apply below_alloc | apply pw_below_drewN | apply below_drew1 | refine below_set ?_ GE80.out | refine below_set ?_ GE170.out | refine below_set ?_ GE176.out) | exact HB.out)⟩⟩
      · rw [if_neg c16] at H
        have c16b0 : ((t171 / 4611686018427387904) == 1) = false := beq_eq_false_iff_ne.mpr c16
        have c16b1 : ((t171 / 4611686018427387904) != 1) = true := bne_iff_ne.mpr c16
        (first | rw [c16b0] | (simp only [i64_w, i32_w]; rw [c16b0]) | skip)
        have H' := Aside0.mk H
        clear H
        go_wp2
        go_meet
        case rel => exact ⟨_, (true), (by first | rfl | (simp; done) | (simp [*]; done)), H', ⟨by first | omega | exact Nat.le_refl _⟩, ⟨by (with_reducible repeat (first | refine blk_drewN ?_ _ | refine blk_drew ?_ | refine blk_alloc ?_ _)); refine blk_farG ?_ NB80_176.out _; (with_reducible repeat (first | refine blk_drewN ?_ _ | refine blk_drew ?_ | refine blk_alloc ?_ _)); exact BK80.out⟩, ⟨by (with_reducible repeat (first | refine blk_drewN ?_ _ | refine blk_drew ?_ | refine blk_alloc ?_ _)); refine blk_far ?_ NB170_176.out _; (with_reducible repeat (first | refine blk_drewN ?_ _ | refine blk_drew ?_ | refine blk_alloc ?_ _)); exact BK170.out⟩, ⟨by (with_reducible repeat (first | refine blk_drewN ?_ _ | refine blk_drew ?_ | refine blk_alloc ?_ _)); refine blk_put (cs := #[.int .u64 0]) ?_ 0 _ rfl; (with_reducible repeat (first | refine blk_drewN ?_ _ | refine blk_drew ?_ | refine blk_alloc ?_ _)); exact BK176.out⟩, ⟨by repeat (first | (with_reducible first | exact HB.out | apply below_alloc | apply pw_below_drewN | apply below_drew1 | refine below_set ?_ GE80.out | refine below_set ?_ GE170.out | refine below_set ?_ GE176.out) | exact HB.out)⟩⟩
    case rest =>
      clear HC7
      try clear c1
      try clear c2
      try clear c2b0
      try clear c2b1
      try clear p2
      try clear c3
      try clear c8
      try clear c13
      try clear c14
      try clear c16
      try clear c16b0
      try clear c16b1
      try clear c17
      try clear c17b0
      try clear hcz15_0
      try clear hfz15_0
      obtain ⟨kq, x34_6, rfl, HA, HJ6, BK80, BK170, BK176, HB⟩ := hcut
      cases kq with
      | zero => exact absurd HA.out (by simp [impl_GetPoint.j0])
      | succ kj6 =>
        have H := HA.out
        clear HA
        simp only [impl_GetPoint.j0] at H
        by_cases c18 : x34_6 = true
        · subst c18
          have H1 : (some (0, 0, true, false)) = some (r1, r2, r3, r4) := by rw [if_pos rfl] at H; exact H
          clear H
          have H := H1
          clear H1
          simp only [Option.some.injEq, Prod.mk.injEq] at H
          obtain ⟨rfl, rfl, rfl, rfl⟩ := H
          have hnb19 := NB80_170.out
          have hnc19 := NB170_80.out
          have hnb20 := NB80_176.out
          have hnc20 := NB176_80.out
          have hcz21_0 : wc.cell? ⟨0, 0, none⟩ = some (.int .u64 0) := (blk_cellG BK80.out 0).trans rfl
          have hcz21_1 : wc.cell? ⟨0, 1, none⟩ = some (.int .u64 0) := (blk_cellG BK80.out 1).trans rfl
          have hcz21_2 : wc.cell? ⟨0, 2, none⟩ = some (.bool true) := (blk_cellG BK80.out 2).trans rfl
          have hfz21_0 := trivial
          have hfz21_1 := trivial
          have hfz21_2 := trivial
          have hnb22 := NB170_176.out
          have hnc22 := NB176_170.out
          have hcz23_0 : wc.cell? ⟨gb170, 0, none⟩ = some (.int .u64 0) := (blk_cell BK170.out 0).trans rfl
          have hcz23_1 : wc.cell? ⟨gb170, 1, none⟩ = some (.int .u64 0) := (blk_cell BK170.out 1).trans rfl
          have hcz23_2 : wc.cell? ⟨gb170, 2, none⟩ = some (.bool false) := (blk_cell BK170.out 2).trans rfl
          have hfz23_0 := blk_frozen BK170.out 0
          have hfz23_1 := blk_frozen BK170.out 1
          have hfz23_2 := blk_frozen BK170.out 2
          go_wp2
          refine bodyPost_ret (results_ct rfl _ _ gb170 26 #[.int .u64 0, .int .u64 0, .bool true] (0, 0) _ rfl (by (with_reducible repeat (first | refine blk_drewN ?_ _ | refine blk_drew ?_ | refine blk_alloc ?_ _)); refine blk_put (cs := #[.int .u64 0, .int .u64 0, .bool false]) ?_ 2 _ rfl; (with_reducible repeat (first | refine blk_drewN ?_ _ | refine blk_drew ?_ | refine blk_alloc ?_ _)); refine blk_put (cs := #[.int .u64 0, .int .u64 0, .bool false]) ?_ 1 _ rfl; (with_reducible repeat (first | refine blk_drewN ?_ _ | refine blk_drew ?_ | refine blk_alloc ?_ _)); refine blk_put (cs := #[.int .u64 0, .int .u64 0, .bool false]) ?_ 0 _ rfl; (with_reducible repeat (first | refine blk_drewN ?_ _ | refine blk_drew ?_ | refine blk_alloc ?_ _)); exact BK170.out) Tryd.underlying26 rfl (by kernel_rfl)) rfl ?_
          exact ⟨by first | rfl | (simp [errW_none, errW_some] <;> rfl) | (simp [*, errW_none, errW_some] <;> rfl), by repeat (first | (with_reducible first | exact HB.out | apply below_alloc | apply pw_below_drewN | apply below_drew1 | refine below_set ?_ GE80.out | refine below_set ?_ GE170.out | refine below_set ?_ GE176.out) | exact HB.out)⟩
        · replace c18 := Bool.eq_false_iff.mpr c18
          subst c18
          have H1 : (if (Go.bits .and .u64 (t171 / 2305843009213693952) 1) = 1 then ((impl_num_impl_fieldP_negative.f t174).bind fun t177 => ((impl_PutPoint.f kj6 (Go.bits .and .u64 t171 2305843009213693951) t177 false).bind fun t179 => (if t179.toList = a0.toList then (some ((Go.bits .and .u64 t171 2305843009213693951), t177, false, true)) else (some (0, 0, true, false))))) else ((impl_PutPoint.f kj6 (Go.bits .and .u64 t171 2305843009213693951) t174 false).bind fun t181 => (if t181.toList = a0.toList then (some ((Go.bits .and .u64 t171 2305843009213693951), t174, false, true)) else (some (0, 0, true, false))))) = some (r1, r2, r3, r4) := by rw [if_neg (show ¬ (false = true) by decide)] at H; exact H
          clear H
          have H := H1
          clear H1
          by_cases c24 : (Go.bits .and .u64 (t171 / 2305843009213693952) 1) = 1
          · rw [if_pos c24] at H
            have c24b0 : ((Go.bits .and .u64 (t171 / 2305843009213693952) 1) == 1) = true := beq_iff_eq.mpr c24
            have c24b1 : ((Go.bits .and .u64 (t171 / 2305843009213693952) 1) != 1) = false := bne_eq_false_iff_eq.mpr c24
            clear c24
            replace H := Option.bind_eq_some_iff.mp H
            obtain ⟨t177, A250, H⟩ := H
            replace H : ((impl_PutPoint.f kj6 (Go.bits .and .u64 t171 2305843009213693951) t177 false).bind fun t179 => (if t179.toList = a0.toList then (some ((Go.bits .and .u64 t171 2305843009213693951), t177, false, true)) else (some (0, 0, true, false)))) = some (r1, r2, r3, r4) := H
            have A25 := Aside0.mk A250
            clear A250
            replace H := Option.bind_eq_some_iff.mp H
            obtain ⟨t179, A260, H⟩ := H
            replace H : (if t179.toList = a0.toList then (some ((Go.bits .and .u64 t171 2305843009213693951), t177, false, true)) else (some (0, 0, true, false))) = some (r1, r2, r3, r4) := H
            have A26 := Aside0.mk A260
            clear A260
            by_cases c27 : t179.toList = a0.toList
            · rw [if_pos c27] at H
              have c27b0 : (t179.toList == a0.toList) = true := beq_iff_eq.mpr c27
              have c27b1 : (t179.toList != a0.toList) = false := bne_eq_false_iff_eq.mpr c27
              clear c27
              simp only [Option.some.injEq, Prod.mk.injEq] at H
              obtain ⟨rfl, rfl, rfl, rfl⟩ := H
              have hnb28 := NB176_80.out
              have hnc28 := NB80_176.out
              have hnb29 := NB176_170.out
              have hnc29 := NB170_176.out
              have hcz30_0 : wc.cell? ⟨gb176, 0, none⟩ = some (.int .u64 t174) := (blk_cell BK176.out 0).trans rfl
              have hfz30_0 := blk_frozen BK176.out 0
              go_wp2_with (first | ((with_reducible refine gate_callee (f := 68) rfl ?_); refine goesL_ (some 41) rfl rfl Tryd.func68 (by kernel_rfl) rfl #[.agg #[.int .u64 t174]] rfl (by (try simp only [List.map_toArray, List.map_cons, List.map_nil]); first | done | rfl | (simp only [List.length_drop, List.length_take]; rfl)) ?_; (with_reducible refine (impl_num_impl_fieldP_negative.calls t174 t177 _ A25.out).mono ?_); rintro e w31 ⟨rfl, hb⟩; refine ⟨_, rfl, ?_⟩; have n0_ := Aside0.mk (blk_below (g := 0) (o := .cells #[.int .u64 0, .int .u64 0, .bool true] tG0 frG0) (by (with_reducible repeat (first | refine blk_drewN ?_ _ | refine blk_drew ?_ | refine blk_alloc ?_ _)); exact BK80.out) hb); have n1_ := Aside0.mk (blk_below (g := gb170) (o := .cells #[.int .u64 0, .int .u64 0, .bool false] 26 (0, 0)) (by (with_reducible repeat (first | refine blk_drewN ?_ _ | refine blk_drew ?_ | refine blk_alloc ?_ _)); exact BK170.out) hb); have n2_ := Aside0.mk (blk_below (g := gb176) (o := .cells #[.int .u64 t174] 85 (0, 0)) (by (with_reducible repeat (first | refine blk_drewN ?_ _ | refine blk_drew ?_ | refine blk_alloc ?_ _)); exact BK176.out) hb); have n3_ := Aside0.mk (below_step (by repeat (first | (with_reducible first | exact HB.out | apply below_alloc | apply pw_below_drewN | apply below_drew1 | refine below_set ?_ GE80.out | refine below_set ?_ GE170.out | refine below_set ?_ GE176.out) | exact HB.out)) hb); clear BK80; clear BK170; clear BK176; clear HB; have BK80 := n0_; have BK170 := n1_; have BK176 := n2_; have HB := n3_; clear n0_ n1_ n2_ n3_; (try clear hb); (try clear hb2); (try clear hk); (try clear hi); have hcz32_0 : w31.cell? ⟨gb176, 0, none⟩ = some (.int .u64 t174) := (blk_cell BK176.out 0).trans rfl; have hfz32_0 := blk_frozen BK176.out 0) | ((with_reducible refine gate_dst (N := 8) rfl ?_); refine box_event ?hg (N := 8) ?hd (cs := #[.int .u64 0, .int .u64 0, .bool false]) (t := 26) ?hr ?_; (case hd => rfl); (case hg => rfl); (case hr => first | (go_simp; done) | (go_simp; rfl)); intro gb178 hg w33 hbox hb; have n0_ := Aside0.mk (blk_below (g := 0) (o := .cells #[.int .u64 0, .int .u64 0, .bool true] tG0 frG0) (by (with_reducible repeat (first | refine blk_drewN ?_ _ | refine blk_drew ?_ | refine blk_alloc ?_ _)); refine blk_farG ?_ NB80_176.out _; (with_reducible repeat (first | refine blk_drewN ?_ _ | refine blk_drew ?_ | refine blk_alloc ?_ _)); exact BK80.out) hb); have n1_ := Aside0.mk (blk_below (g := gb170) (o := .cells #[.int .u64 0, .int .u64 0, .bool false] 26 (0, 0)) (by (with_reducible repeat (first | refine blk_drewN ?_ _ | refine blk_drew ?_ | refine blk_alloc ?_ _)); refine blk_far ?_ NB170_176.out _; (with_reducible repeat (first | refine blk_drewN ?_ _ | refine blk_drew ?_ | refine blk_alloc ?_ _)); exact BK170.out) hb); have n2_ := Aside0.mk (blk_below (g := gb176) (o := .cells #[.int .u64 t177] 85 (0, 0)) (by (with_reducible repeat (first | refine blk_drewN ?_ _ | refine blk_drew ?_ | refine blk_alloc ?_ _)); refine blk_put (cs := #[.int .u64 t174]) ?_ 0 _ rfl; (with_reducible repeat (first | refine blk_drewN ?_ _ | refine blk_drew ?_ | refine blk_alloc ?_ _)); exact BK176.out) hb); have n3_ := Aside0.mk (below_step (by repeat (first | (with_reducible first | exact HB.out | apply below_alloc | apply pw_below_drewN | apply below_drew1 | refine below_set ?_ GE80.out | refine below_set ?_ GE170.out | refine below_set ?_ GE176.out) | exact HB.out)) hb); have n4_ := Aside0.mk (hbox); have n5_ := Aside0.mk ((by rw [hg]; exact (below_size (by repeat (first | (with_reducible first | exact HB.out | apply below_alloc | apply pw_below_drewN | apply below_drew1 | refine below_set ?_ GE80.out | refine below_set ?_ GE170.out | refine below_set ?_ GE176.out) | exact HB.out))) : w.heap.size ≤ gb178)); have n6_ := Aside0.mk ((by rw [hg]; exact (below_size (by repeat (first | (with_reducible first | exact HB.out | apply below_alloc | apply pw_below_drewN | apply below_drew1 | refine below_set ?_ GE80.out | refine below_set ?_ GE170.out | refine below_set ?_ GE176.out) | exact HB.out))) : w.heap.size ≤ gb178)); have n7_ := Aside0.mk ((by rw [hg]; exact Nat.ne_of_lt (blk_lt (g := 0) (o := .cells #[.int .u64 0, .int .u64 0, .bool true] tG0 frG0) (by (with_reducible repeat (first | refine blk_drewN ?_ _ | refine blk_drew ?_ | refine blk_alloc ?_ _)); refine blk_farG ?_ NB80_176.out _; (with_reducible repeat (first | refine blk_drewN ?_ _ | refine blk_drew ?_ | refine blk_alloc ?_ _)); exact BK80.out)) : 0 ≠ gb178)); have n8_ := Aside0.mk ((by rw [hg]; exact Nat.ne_of_gt (blk_lt (g := 0) (o := .cells #[.int .u64 0, .int .u64 0, .bool true] tG0 frG0) (by (with_reducible repeat (first | refine blk_drewN ?_ _ | refine blk_drew ?_ | refine blk_alloc ?_ _)); refine blk_farG ?_ NB80_176.out _; (with_reducible repeat (first | refine blk_drewN ?_ _ | refine blk_drew ?_ | refine blk_alloc ?_ _)); exact BK80.out)) : gb178 ≠ 0)); have n9_ := Aside0.mk ((by rw [hg]; exact Nat.ne_of_lt (blk_lt (g := gb170) (o := .cells #[.int .u64 0, .int .u64 0, .bool false] 26 (0, 0)) (by (with_reducible repeat (first | refine blk_drewN ?_ _ | refine blk_drew ?_ | refine blk_alloc ?_ _)); refine blk_far ?_ NB170_176.out _; (with_reducible repeat (first | refine blk_drewN ?_ _ | refine blk_drew ?_ | refine blk_alloc ?_ _)); exact BK170.out)) : gb170 ≠ gb178)); have n10_ := Aside0.mk ((by rw [hg]; exact Nat.ne_of_gt (blk_lt (g := gb170) (o := .cells #[.int .u64 0, .int .u64 0, .bool false] 26 (0, 0)) (by (with_reducible repeat (first | refine blk_drewN ?_ _ | refine blk_drew ?_ | refine blk_alloc ?_ _)); refine blk_far ?_ NB170_176.out _; (with_reducible repeat (first | refine blk_drewN ?_ _ | refine blk_drew ?_ | refine blk_alloc ?_ _)); exact BK170.out)) : gb178 ≠ gb170)); have n11_ := Aside0.mk ((by rw [hg]; exact Nat.ne_of_lt (blk_lt (g := gb176) (o := .cells #[.int .u64 t177] 85 (0, 0)) (by (with_reducible repeat (first | refine blk_drewN ?_ _ | refine blk_drew ?_ | refine blk_alloc ?_ _)); refine blk_put (cs := #[.int .u64 t174]) ?_ 0 _ rfl; (with_reducible repeat (first | refine blk_drewN ?_ _ | refine blk_drew ?_ | refine blk_alloc ?_ _)); exact BK176.out)) : gb176 ≠ gb178)); have n12_ := Aside0.mk ((by rw [hg]; exact Nat.ne_of_gt (blk_lt (g := gb176) (o := .cells #[.int .u64 t177] 85 (0, 0)) (by (with_reducible repeat (first | refine blk_drewN ?_ _ | refine blk_drew ?_ | refine blk_alloc ?_ _)); refine blk_put (cs := #[.int .u64 t174]) ?_ 0 _ rfl; (with_reducible repeat (first | refine blk_drewN ?_ _ | refine blk_drew ?_ | refine blk_alloc ?_ _)); exact BK176.out)) : gb178 ≠ gb176)); clear BK80; clear BK170; clear BK176; clear HB; have BK80 := n0_; have BK170 := n1_; have BK176 := n2_; have HB := n3_; have BK178 := n4_; have GW178 := n5_; have GE178 := n6_; have NB80_178 := n7_; have NB178_80 := n8_; have NB170_178 := n9_; have NB178_170 := n10_; have NB176_178 := n11_; have NB178_176 := n12_; clear n0_ n1_ n2_ n3_ n4_ n5_ n6_ n7_ n8_ n9_ n10_ n11_ n12_; clear hb hbox hg; have hnb34 := NB178_80.out; have hnc34 := NB80_178.out; have hnb35 := NB178_170.out; have hnc35 := NB170_178.out; have hnb36 := NB178_176.out; have hnc36 := NB176_178.out; have hcz37_0 : w33.cell? ⟨gb178, 0, none⟩ = some (.int .u64 0) := (blk_cell BK178.out 0).trans rfl; have hcz37_1 : w33.cell? ⟨gb178, 1, none⟩ = some (.int .u64 0) := (blk_cell BK178.out 1).trans rfl; have hcz37_2 : w33.cell? ⟨gb178, 2, none⟩ = some (.bool false) := (blk_cell BK178.out 2).trans rfl; have hfz37_0 := blk_frozen BK178.out 0; have hfz37_1 := blk_frozen BK178.out 1; have hfz37_2 := blk_frozen BK178.out 2) | ((with_reducible refine gate_callee (f := 27) rfl ?_); refine goesL_ (some 47) rfl rfl Tryd.func27 (by kernel_rfl) rfl #[.agg #[.int .u64 (Go.bits .and .u64 t171 2305843009213693951), .int .u64 t177, .bool false]] rfl (by (try simp only [List.map_toArray, List.map_cons, List.map_nil]); first | done | rfl | (simp only [List.length_drop, List.length_take]; rfl)) ?_; (with_reducible refine (impl_PutPoint.calls kj6 (Go.bits .and .u64 t171 2305843009213693951) t177 false t179 _ (G_below (by repeat (first | (with_reducible first | exact HB.out | apply below_alloc | apply pw_below_drewN | apply below_drew1 | refine below_set ?_ GE80.out | refine below_set ?_ GE170.out | refine below_set ?_ GE176.out | refine below_set ?_ GE178.out) | exact HB.out)) HG.out) A26.out).mono ?_); rintro e w38 ⟨rfl, hb⟩; refine ⟨_, rfl, ?_⟩; have n0_ := Aside0.mk (blk_below (g := 0) (o := .cells #[.int .u64 0, .int .u64 0, .bool true] tG0 frG0) (by (with_reducible repeat (first | refine blk_drewN ?_ _ | refine blk_drew ?_ | refine blk_alloc ?_ _)); refine blk_farG ?_ NB80_178.out _; (with_reducible repeat (first | refine blk_drewN ?_ _ | refine blk_drew ?_ | refine blk_alloc ?_ _)); refine blk_farG ?_ NB80_178.out _; (with_reducible repeat (first | refine blk_drewN ?_ _ | refine blk_drew ?_ | refine blk_alloc ?_ _)); refine blk_farG ?_ NB80_178.out _; (with_reducible repeat (first | refine blk_drewN ?_ _ | refine blk_drew ?_ | refine blk_alloc ?_ _)); exact BK80.out) hb); have n1_ := Aside0.mk (blk_below (g := gb170) (o := .cells #[.int .u64 0, .int .u64 0, .bool false] 26 (0, 0)) (by (with_reducible repeat (first | refine blk_drewN ?_ _ | refine blk_drew ?_ | refine blk_alloc ?_ _)); refine blk_far ?_ NB170_178.out _; (with_reducible repeat (first | refine blk_drewN ?_ _ | refine blk_drew ?_ | refine blk_alloc ?_ _)); refine blk_far ?_ NB170_178.out _; (with_reducible repeat (first | refine blk_drewN ?_ _ | refine blk_drew ?_ | refine blk_alloc ?_ _)); refine blk_far ?_ NB170_178.out _; (with_reducible repeat (first | refine blk_drewN ?_ _ | refine blk_drew ?_ | refine blk_alloc ?_ _)); exact BK170.out) hb); have n2_ := Aside0.mk (blk_below (g := gb176) (o := .cells #[.int .u64 t177] 85 (0, 0)) (by (with_reducible repeat (first | refine blk_drewN ?_ _ | refine blk_drew ?_ | refine blk_alloc ?_ _)); refine blk_far ?_ NB176_178.out _; (with_reducible repeat (first | refine blk_drewN ?_ _ | refine blk_drew ?_ | refine blk_alloc ?_ _)); refine blk_far ?_ NB176_178.out _; (with_reducible repeat (first | refine blk_drewN ?_ _ | refine blk_drew ?_ | refine blk_alloc ?_ _)); refine blk_far ?_ NB176_178.out _; (with_reducible repeat (first | refine blk_drewN ?_ _ | refine blk_drew ?_ | refine blk_alloc ?_ _)); exact BK176.out) hb); have n3_ := Aside0.mk (blk_below (g := gb178) (o := .cells #[.int .u64 (Go.bits .and .u64 t171 2305843009213693951), .int .u64 t177, .bool false] 26 (0, 0)) (by (with_reducible repeat (first | refine blk_drewN ?_ _ | refine blk_drew ?_ | refine blk_alloc ?_ _)); refine blk_put (cs := #[.int .u64 (Go.bits .and .u64 t171 2305843009213693951), .int .u64 t177, .bool false]) ?_ 2 _ rfl; (with_reducible repeat (first | refine blk_drewN ?_ _ | refine blk_drew ?_ | refine blk_alloc ?_ _)); refine blk_put (cs := #[.int .u64 (Go.bits .and .u64 t171 2305843009213693951), .int .u64 0, .bool false]) ?_ 1 _ rfl; (with_reducible repeat (first | refine blk_drewN ?_ _ | refine blk_drew ?_ | refine blk_alloc ?_ _)); refine blk_put (cs := #[.int .u64 0, .int .u64 0, .bool false]) ?_ 0 _ rfl; (with_reducible repeat (first | refine blk_drewN ?_ _ | refine blk_drew ?_ | refine blk_alloc ?_ _)); exact BK178.out) hb); have n4_ := Aside0.mk (below_step (by repeat (first | (with_reducible first | exact HB.out | apply below_alloc | apply pw_below_drewN | apply below_drew1 | refine below_set ?_ GE80.out | refine below_set ?_ GE170.out | refine below_set ?_ GE176.out | refine below_set ?_ GE178.out) | exact HB.out)) hb); clear BK80; clear BK170; clear BK176; clear BK178; clear HB; have BK80 := n0_; have BK170 := n1_; have BK176 := n2_; have BK178 := n3_; have HB := n4_; clear n0_ n1_ n2_ n3_ n4_; (try clear hb); (try clear hb2); (try clear hk); (try clear hi); have hcz39_0 : w38.cell? ⟨gb178, 0, none⟩ = some (.int .u64 (Go.bits .and .u64 t171 2305843009213693951)) := (blk_cell BK178.out 0).trans rfl; have hcz39_1 : w38.cell? ⟨gb178, 1, none⟩ = some (.int .u64 t177) := (blk_cell BK178.out 1).trans rfl; have hcz39_2 : w38.cell? ⟨gb178, 2, none⟩ = some (.bool false) := (blk_cell BK178.out 2).trans rfl; have hfz39_0 := blk_frozen BK178.out 0; have hfz39_1 := blk_frozen BK178.out 1; have hfz39_2 := blk_frozen BK178.out 2; have hnb40 := NB170_80.out; have hnc40 := NB80_170.out; have hcz41_0 : w38.cell? ⟨gb170, 0, none⟩ = some (.int .u64 0) := (blk_cell BK170.out 0).trans rfl; have hcz41_1 : w38.cell? ⟨gb170, 1, none⟩ = some (.int .u64 0) := (blk_cell BK170.out 1).trans rfl; have hcz41_2 : w38.cell? ⟨gb170, 2, none⟩ = some (.bool false) := (blk_cell BK170.out 2).trans rfl; have hfz41_0 := blk_frozen BK170.out 0; have hfz41_1 := blk_frozen BK170.out 1; have hfz41_2 := blk_frozen BK170.out 2))
              refine bodyPost_ret (results_ct rfl _ _ gb170 26 #[.int .u64 (Go.bits .and .u64 t171 2305843009213693951), .int .u64 t177, .bool false] (0, 0) _ rfl (by (with_reducible repeat (first | refine blk_drewN ?_ _ | refine blk_drew ?_ | refine blk_alloc ?_ _)); refine blk_put (cs := #[.int .u64 (Go.bits .and .u64 t171 2305843009213693951), .int .u64 t177, .bool false]) ?_ 2 _ rfl; (with_reducible repeat (first | refine blk_drewN ?_ _ | refine blk_drew ?_ | refine blk_alloc ?_ _)); refine blk_put (cs := #[.int .u64 (Go.bits .and .u64 t171 2305843009213693951), .int .u64 0, .bool false]) ?_ 1 _ rfl; (with_reducible repeat (first | refine blk_drewN ?_ _ | refine blk_drew ?_ | refine blk_alloc ?_ _)); refine blk_put (cs := #[.int .u64 0, .int .u64 0, .bool false]) ?_ 0 _ rfl; (with_reducible repeat (first | refine blk_drewN ?_ _ | refine blk_drew ?_ | refine blk_alloc ?_ _)); exact BK170.out) Tryd.underlying26 rfl (by kernel_rfl)) rfl ?_
              exact ⟨by first | rfl | (simp [errW_none, errW_some] <;> rfl) | (simp [*, errW_none, errW_some] <;> rfl), by repeat (first | (with_reducible first | exact HB.out | apply below_alloc | apply pw_below_drewN | apply below_drew1 | refine below_set ?_ GE80.out | refine below_set ?_ GE170.out | refine below_set ?_ GE176.out | refine below_set ?_ GE178.out) | exact HB.out)⟩
            · rw [if_neg c27] at H
              have c27b0 : (t179.toList == a0.toList) = false := beq_eq_false_iff_ne.mpr c27
              have c27b1 : (t179.toList != a0.toList) = true := bne_iff_ne.mpr c27
              simp only [Option.some.injEq, Prod.mk.injEq] at H
              obtain ⟨rfl, rfl, rfl, rfl⟩ := H
              have hnb42 := NB176_80.out
              have hnc42 := NB80_176.out
              have hnb43 := NB176_170.out
              have hnc43 := NB170_176.out
              have hcz44_0 : wc.cell? ⟨gb176, 0, none⟩ = some (.int .u64 t174) := (blk_cell BK176.out 0).trans rfl
              have hfz44_0 := blk_frozen BK176.out 0
              go_wp2_with (first | ((with_reducible refine gate_callee (f := 68) rfl ?_); refine goesL_ (some 41) rfl rfl Tryd.func68 (by kernel_rfl) rfl #[.agg #[.int .u64 t174]] rfl (by (try simp only [List.map_toArray, List.map_cons, List.map_nil]); first | done | rfl | (simp only [List.length_drop, List.length_take]; rfl)) ?_; (with_reducible refine (impl_num_impl_fieldP_negative.calls t174 t177 _ A25.out).mono ?_); rintro e w45 ⟨rfl, hb⟩; refine ⟨_, rfl, ?_⟩; have n0_ := Aside0.mk (blk_below (g := 0) (o := .cells #[.int .u64 0, .int .u64 0, .bool true] tG0 frG0) (by (with_reducible repeat (first | refine blk_drewN ?_ _ | refine blk_drew ?_ | refine blk_alloc ?_ _)); exact BK80.out) hb); have n1_ := Aside0.mk (blk_below (g := gb170) (o := .cells #[.int .u64 0, .int .u64 0, .bool false] 26 (0, 0)) (by (with_reducible repeat (first | refine blk_drewN ?_ _ | refine blk_drew ?_ | refine blk_alloc ?_ _)); exact BK170.out) hb); have n2_ := Aside0.mk (blk_below (g := gb176) (o := .cells #[.int .u64 t174] 85 (0, 0)) (by (with_reducible repeat (first | refine blk_drewN ?_ _ | refine blk_drew ?_ | refine blk_alloc ?_ _)); exact BK176.out) hb); have n3_ := Aside0.mk (below_step (by repeat (first | (with_reducible first | exact HB.out | apply below_alloc | apply pw_below_drewN | apply below_drew1 | refine below_set ?_ GE80.out | refine below_set ?_ GE170.out | refine below_set ?_ GE176.out) | exact HB.out)) hb); clear BK80; clear BK170; clear BK176; clear HB; have BK80 := n0_; have BK170 := n1_; have BK176 := n2_; have HB := n3_; clear n0_ n1_ n2_ n3_; (try clear hb); (try clear hb2); (try clear hk); (try clear hi); have hcz46_0 : w45.cell? ⟨gb176, 0, none⟩ = some (.int .u64 t174) := (blk_cell BK176.out 0).trans rfl; have hfz46_0 := blk_frozen BK176.out 0) | ((with_reducible refine gate_dst (N := 8) rfl ?_); refine box_event ?hg (N := 8) ?hd (cs := #[.int .u64 0, .int .u64 0, .bool false]) (t := 26) ?hr ?_; (case hd => rfl); (case hg => rfl); (case hr => first | (go_simp; done) | (go_simp; rfl)); intro gb178 hg w47 hbox hb; have n0_ := Aside0.mk (blk_below (g := 0) (o := .cells #[.int .u64 0, .int .u64 0, .bool true] tG0 frG0) (by (with_reducible repeat (first | refine blk_drewN ?_ _ | refine blk_drew ?_ | refine blk_alloc ?_ _)); refine blk_farG ?_ NB80_176.out _; (with_reducible repeat (first | refine blk_drewN ?_ _ | refine blk_drew ?_ | refine blk_alloc ?_ _)); exact BK80.out) hb); have n1_ := Aside0.mk (blk_below (g := gb170) (o := .cells #[.int .u64 0, .int .u64 0, .bool false] 26 (0, 0)) (by (with_reducible repeat (first | refine blk_drewN ?_ _ | refine blk_drew ?_ | refine blk_alloc ?_ _)); refine blk_far ?_ NB170_176.out _; (with_reducible repeat (first | refine blk_drewN ?_ _ | refine blk_drew ?_ | refine blk_alloc ?_ _)); exact BK170.out) hb); have n2_ := Aside0.mk (blk_below (g := gb176) (o := .cells #[.int .u64 t177] 85 (0, 0)) (by (with_reducible repeat (first | refine blk_drewN ?_ _ | refine blk_drew ?_ | refine blk_alloc ?_ _)); refine blk_put (cs := #[.int .u64 t174]) ?_ 0 _ rfl; (with_reducible repeat (first | refine blk_drewN ?_ _ | refine blk_drew ?_ | refine blk_alloc ?_ _)); exact BK176.out) hb); have n3_ := Aside0.mk (below_step (by repeat (first | (with_reducible first | exact HB.out | apply below_alloc | apply pw_below_drewN | apply below_drew1 | refine below_set ?_ GE80.out | refine below_set ?_ GE170.out | refine below_set ?_ GE176.out) | exact HB.out)) hb); have n4_ := Aside0.mk (hbox); have n5_ := Aside0.mk ((by rw [hg]; exact (below_size (by repeat (first | (with_reducible first | exact HB.out | apply below_alloc | apply pw_below_drewN | apply below_drew1 | refine below_set ?_ GE80.out | refine below_set ?_ GE170.out | refine below_set ?_ GE176.out) | exact HB.out))) : w.heap.size ≤ gb178)); have n6_ := Aside0.mk ((by rw [hg]; exact (below_size (by repeat (first | (with_reducible first | exact HB.out | apply below_alloc | apply pw_below_drewN | apply below_drew1 | refine below_set ?_ GE80.out | refine below_set ?_ GE170.out | refine below_set ?_ GE176.out) | exact HB.out))) : w.heap.size ≤ gb178)); have n7_ := Aside0.mk ((by rw [hg]; exact Nat.ne_of_lt (blk_lt (g := 0) (o := .cells #[.int .u64 0, .int .u64 0, .bool true] tG0 frG0) (by (with_reducible repeat (first | refine blk_drewN ?_ _ | refine blk_drew ?_ | refine blk_alloc ?_ _)); refine blk_farG ?_ NB80_176.out _; (with_reducible repeat (first | refine blk_drewN ?_ _ | refine blk_drew ?_ | refine blk_alloc ?_ _)); exact BK80.out)) : 0 ≠ gb178)); have n8_ := Aside0.mk ((by rw [hg]; exact Nat.ne_of_gt (blk_lt (g := 0) (o := .cells #[.int .u64 0, .int .u64 0, .bool true] tG0 frG0) (by (with_reducible repeat (first | refine blk_drewN ?_ _ | refine blk_drew ?_ | refine blk_alloc ?_ _)); refine blk_farG ?_ NB80_176.out _; (with_reducible repeat (first | refine blk_drewN ?_ _ | refine blk_drew ?_ | refine blk_alloc ?_ _)); exact BK80.out)) : gb178 ≠ 0)); have n9_ := Aside0.mk ((by rw [hg]; exact Nat.ne_of_lt (blk_lt (g := gb170) (o := .cells #[.int .u64 0, .int .u64 0, .bool false] 26 (0, 0)) (by (with_reducible repeat (first | refine blk_drewN ?_ _ | refine blk_drew ?_ | refine blk_alloc ?_ _)); refine blk_far ?_ NB170_176.out _; (with_reducible repeat (first | refine blk_drewN ?_ _ | refine blk_drew ?_ | refine blk_alloc ?_ _)); exact BK170.out)) : gb170 ≠ gb178)); have n10_ := Aside0.mk ((by rw [hg]; exact Nat.ne_of_gt (blk_lt (g := gb170) (o := .cells #[.int .u64 0, .int .u64 0, .bool false] 26 (0, 0)) (by (with_reducible repeat (first | refine blk_drewN ?_ _ | refine blk_drew ?_ | refine blk_alloc ?_ _)); refine blk_far ?_ NB170_176.out _; (with_reducible repeat (first | refine blk_drewN ?_ _ | refine blk_drew ?_ | refine blk_alloc ?_ _)); exact BK170.out)) : gb178 ≠ gb170)); have n11_ := Aside0.mk ((by rw [hg]; exact Nat.ne_of_lt (blk_lt (g := gb176) (o := .cells #[.int .u64 t177] 85 (0, 0)) (by (with_reducible repeat (first | refine blk_drewN ?_ _ | refine blk_drew ?_ | refine blk_alloc ?_ _)); refine blk_put (cs := #[.int .u64 t174]) ?_ 0 _ rfl; (with_reducible repeat (first | refine blk_drewN ?_ _ | refine blk_drew ?_ | refine blk_alloc ?_ _)); exact BK176.out)) : gb176 ≠ gb178)); have n12_ := Aside0.mk ((by rw [hg]; exact Nat.ne_of_gt (blk_lt (g := gb176) (o := .cells #[.int .u64 t177] 85 (0, 0)) (by (with_reducible repeat (first | refine blk_drewN ?_ _ | refine blk_drew ?_ | refine blk_alloc ?_ _)); refine blk_put (cs := #[.int .u64 t174]) ?_ 0 _ rfl; (with_reducible repeat (first | refine blk_drewN ?_ _ | refine blk_drew ?_ | refine blk_alloc ?_ _)); exact BK176.out)) : gb178 ≠ gb176)); clear BK80; clear BK170; clear BK176; clear HB; have BK80 := n0_; have BK170 := n1_; have BK176 := n2_; have HB := n3_; have BK178 := n4_; have GW178 := n5_; have GE178 := n6_; have NB80_178 := n7_; have NB178_80 := n8_; have NB170_178 := n9_; have NB178_170 := n10_; have NB176_178 := n11_; have NB178_176 := n12_; clear n0_ n1_ n2_ n3_ n4_ n5_ n6_ n7_ n8_ n9_ n10_ n11_ n12_; clear hb hbox hg; have hnb48 := NB178_80.out; have hnc48 := NB80_178.out; have hnb49 := NB178_170.out; have hnc49 := NB170_178.out; have hnb50 := NB178_176.out; have hnc50 := NB176_178.out; have hcz51_0 : w47.cell? ⟨gb178, 0, none⟩ = some (.int .u64 0) := (blk_cell BK178.out 0).trans rfl; have hcz51_1 : w47.cell? ⟨gb178, 1, none⟩ = some (.int .u64 0) := (blk_cell BK178.out 1).trans rfl; have hcz51_2 : w47.cell? ⟨gb178, 2, none⟩ = some (.bool false) := (blk_cell BK178.out 2).trans rfl; have hfz51_0 := blk_frozen BK178.out 0; have hfz51_1 := blk_frozen BK178.out 1; have hfz51_2 := blk_frozen BK178.out 2) | ((with_reducible refine gate_callee (f := 27) rfl ?_); refine goesL_ (some 47) rfl rfl Tryd.func27 (by kernel_rfl) rfl #[.agg #[.int .u64 (Go.bits .and .u64 t171 2305843009213693951), .int .u64 t177, .bool false]] rfl (by (try simp only [List.map_toArray, List.map_cons, List.map_nil]); first | done | rfl | (simp only [List.length_drop, List.length_take]; rfl)) ?_; (with_reducible refine (impl_PutPoint.calls kj6 (Go.bits .and .u64 t171 2305843009213693951) t177 false t179 _ (G_below (by repeat (first | (with_reducible first | exact HB.out | apply below_alloc | apply pw_below_drewN | apply below_drew1 | refine below_set ?_ GE80.out | refine below_set ?_ GE170.out | refine below_set ?_ GE176.out | refine below_set ?_ GE178.out) | exact HB.out)) HG.out) A26.out).mono ?_); rintro e w52 ⟨rfl, hb⟩; refine ⟨_, rfl, ?_⟩; have n0_ := Aside0.mk (blk_below (g := 0) (o := .cells #[.int .u64 0, .int .u64 0, .bool true] tG0 frG0) (by (with_reducible repeat (first | refine blk_drewN ?_ _ | refine blk_drew ?_ | refine blk_alloc ?_ _)); refine blk_farG ?_ NB80_178.out _; (with_reducible repeat (first | refine blk_drewN ?_ _ | refine blk_drew ?_ | refine blk_alloc ?_ _)); refine blk_farG ?_ NB80_178.out _; (with_reducible repeat (first | refine blk_drewN ?_ _ | refine blk_drew ?_ | refine blk_alloc ?_ _)); refine blk_farG ?_ NB80_178.out _; (with_reducible repeat (first | refine blk_drewN ?_ _ | refine blk_drew ?_ | refine blk_alloc ?_ _)); exact BK80.out) hb); have n1_ := Aside0.mk (blk_below (g := gb170) (o := .cells #[.int .u64 0, .int .u64 0, .bool false] 26 (0, 0)) (by (with_reducible repeat (first | refine blk_drewN ?_ _ | refine blk_drew ?_ | refine blk_alloc ?_ _)); refine blk_far ?_ NB170_178.out _; (with_reducible repeat (first | refine blk_drewN ?_ _ | refine blk_drew ?_ | refine blk_alloc ?_ _)); refine blk_far ?_ NB170_178.out _; (with_reducible repeat (first | refine blk_drewN ?_ _ | refine blk_drew ?_ | refine blk_alloc ?_ _)); refine blk_far ?_ NB170_178.out _; (with_reducible repeat (first | refine blk_drewN ?_ _ | refine blk_drew ?_ | refine blk_alloc ?_ _)); exact BK170.out) hb); have n2_ := Aside0.mk (blk_below (g := gb176) (o := .cells #[.int .u64 t177] 85 (0, 0)) (by (with_reducible repeat (first | refine blk_drewN ?_ _ | refine blk_drew ?_ | refine blk_alloc ?_ _)); refine blk_far ?_ NB176_178.out _; (with_reducible repeat (first | refine blk_drewN ?_ _ | refine blk_drew ?_ | refine blk_alloc ?_ _)); refine blk_far ?_ NB176_178.out _; (with_reducible repeat (first | refine blk_drewN ?_ _ | refine blk_drew ?_ | refine blk_alloc ?_ _)); refine blk_far ?_ NB176_178.out _; (with_reducible repeat (first | refine blk_drewN ?_ _ | refine blk_drew ?_ | refine blk_alloc ?_ _)); exact BK176.out) hb); have n3_ := Aside0.mk (blk_below (g := gb178) (o := .cells #[.int .u64 (Go.bits .and .u64 t171 2305843009213693951), .int .u64 t177, .bool false] 26 (0, 0)) (by (with_reducible repeat (first | refine blk_drewN ?_ _ | refine blk_drew ?_ | refine blk_alloc ?_ _)); refine blk_put (cs := #[.int .u64 (Go.bits .and .u64 t171 2305843009213693951), .int .u64 t177, .bool false]) ?_ 2 _ rfl; (with_reducible repeat (first | refine blk_drewN ?_ _ | refine blk_drew ?_ | refine blk_alloc ?_ _)); refine blk_put (cs := #[.int .u64 (Go.bits .and .u64 t171 2305843009213693951), .int .u64 0, .bool false]) ?_ 1 _ rfl; (with_reducible repeat (first | refine blk_drewN ?_ _ | refine blk_drew ?_ | refine blk_alloc ?_ _)); refine blk_put (cs := #[.int .u64 0, .int .u64 0, .bool false]) ?_ 0 _ rfl; (with_reducible repeat (first | refine blk_drewN ?_ _ | refine blk_drew ?_ | refine blk_alloc ?_ _)); exact BK178.out) hb); have n4_ := Aside0.mk (below_step (by repeat (first | (with_reducible first | exact HB.out | apply below_alloc | apply pw_below_drewN | apply below_drew1 | refine below_set ?_ GE80.out | refine below_set ?_ GE170.out | refine below_set ?_ GE176.out | refine below_set ?_ GE178.out) | exact HB.out)) hb); clear BK80; clear BK170; clear BK176; clear BK178; clear HB; have BK80 := n0_; have BK170 := n1_; have BK176 := n2_; have BK178 := n3_; have HB := n4_; clear n0_ n1_ n2_ n3_ n4_; (try clear hb); (try clear hb2); (try clear hk); (try clear hi); have hnb53 := NB80_170.out; have hnc53 := NB170_80.out; have hcz54_0 : w52.cell? ⟨0, 0, none⟩ = some (.int .u64 0) := (blk_cellG BK80.out 0).trans rfl; have hcz54_1 : w52.cell? ⟨0, 1, none⟩ = some (.int .u64 0) := (blk_cellG BK80.out 1).trans rfl; have hcz54_2 : w52.cell? ⟨0, 2, none⟩ = some (.bool true) := (blk_cellG BK80.out 2).trans rfl; have hfz54_0 := trivial; have hfz54_1 := trivial; have hfz54_2 := trivial; have hcz55_0 : w52.cell? ⟨gb170, 0, none⟩ = some (.int .u64 0) := (blk_cell BK170.out 0).trans rfl; have hcz55_1 : w52.cell? ⟨gb170, 1, none⟩ = some (.int .u64 0) := (blk_cell BK170.out 1).trans rfl; have hcz55_2 : w52.cell? ⟨gb170, 2, none⟩ = some (.bool false) := (blk_cell BK170.out 2).trans rfl; have hfz55_0 := blk_frozen BK170.out 0; have hfz55_1 := blk_frozen BK170.out 1; have hfz55_2 := blk_frozen BK170.out 2))
              refine bodyPost_ret (results_ct rfl _ _ gb170 26 #[.int .u64 0, .int .u64 0, .bool true] (0, 0) _ rfl (by (with_reducible repeat (first | refine blk_drewN ?_ _ | refine blk_drew ?_ | refine blk_alloc ?_ _)); refine blk_put (cs := #[.int .u64 0, .int .u64 0, .bool false]) ?_ 2 _ rfl; (with_reducible repeat (first | refine blk_drewN ?_ _ | refine blk_drew ?_ | refine blk_alloc ?_ _)); refine blk_put (cs := #[.int .u64 0, .int .u64 0, .bool false]) ?_ 1 _ rfl; (with_reducible repeat (first | refine blk_drewN ?_ _ | refine blk_drew ?_ | refine blk_alloc ?_ _)); refine blk_put (cs := #[.int .u64 0, .int .u64 0, .bool false]) ?_ 0 _ rfl; (with_reducible repeat (first | refine blk_drewN ?_ _ | refine blk_drew ?_ | refine blk_alloc ?_ _)); exact BK170.out) Tryd.underlying26 rfl (by kernel_rfl)) rfl ?_
              exact ⟨by first | rfl | (simp [errW_none, errW_some] <;> rfl) | (simp [*, errW_none, errW_some] <;> rfl), by repeat (first | (with_reducible first | exact HB.out | apply below_alloc | apply pw_below_drewN | apply below_drew1 | refine below_set ?_ GE80.out | refine below_set ?_ GE170.out | refine below_set ?_ GE176.out | refine below_set ?_ GE178.out) | exact HB.out)⟩
          · rw [if_neg c24] at H
            have c24b0 : ((Go.bits .and .u64 (t171 / 2305843009213693952) 1) == 1) = false := beq_eq_false_iff_ne.mpr c24
            have c24b1 : ((Go.bits .and .u64 (t171 / 2305843009213693952) 1) != 1) = true := bne_iff_ne.mpr c24
            replace H := Option.bind_eq_some_iff.mp H
            obtain ⟨t181, A560, H⟩ := H
            replace H : (if t181.toList = a0.toList then (some ((Go.bits .and .u64 t171 2305843009213693951), t174, false, true)) else (some (0, 0, true, false))) = some (r1, r2, r3, r4) := H
            have A56 := Aside0.mk A560
            clear A560
            by_cases c57 : t181.toList = a0.toList
            · rw [if_pos c57] at H
              have c57b0 : (t181.toList == a0.toList) = true := beq_iff_eq.mpr c57
              have c57b1 : (t181.toList != a0.toList) = false := bne_eq_false_iff_eq.mpr c57
              clear c57
              simp only [Option.some.injEq, Prod.mk.injEq] at H
              obtain ⟨rfl, rfl, rfl, rfl⟩ := H
              have hnb58 := NB176_80.out
              have hnc58 := NB80_176.out
              have hnb59 := NB176_170.out
              have hnc59 := NB170_176.out
              have hcz60_0 : wc.cell? ⟨gb176, 0, none⟩ = some (.int .u64 t174) := (blk_cell BK176.out 0).trans rfl
              have hfz60_0 := blk_frozen BK176.out 0
              go_wp2_with (first | ((with_reducible refine gate_dst (N := 8) rfl ?_); refine box_event ?hg (N := 8) ?hd (cs := #[.int .u64 0, .int .u64 0, .bool false]) (t := 26) ?hr ?_; (case hd => rfl); (case hg => rfl); (case hr => first | (go_simp; done) | (go_simp; rfl)); intro gb180 hg w61 hbox hb; have n0_ := Aside0.mk (blk_below (g := 0) (o := .cells #[.int .u64 0, .int .u64 0, .bool true] tG0 frG0) (by (with_reducible repeat (first | refine blk_drewN ?_ _ | refine blk_drew ?_ | refine blk_alloc ?_ _)); exact BK80.out) hb); have n1_ := Aside0.mk (blk_below (g := gb170) (o := .cells #[.int .u64 0, .int .u64 0, .bool false] 26 (0, 0)) (by (with_reducible repeat (first | refine blk_drewN ?_ _ | refine blk_drew ?_ | refine blk_alloc ?_ _)); exact BK170.out) hb); have n2_ := Aside0.mk (blk_below (g := gb176) (o := .cells #[.int .u64 t174] 85 (0, 0)) (by (with_reducible repeat (first | refine blk_drewN ?_ _ | refine blk_drew ?_ | refine blk_alloc ?_ _)); exact BK176.out) hb); have n3_ := Aside0.mk (below_step (by repeat (first | (with_reducible first | exact HB.out | apply below_alloc | apply pw_below_drewN | apply below_drew1 | refine below_set ?_ GE80.out | refine below_set ?_ GE170.out | refine below_set ?_ GE176.out) | exact HB.out)) hb); have n4_ := Aside0.mk (hbox); have n5_ := Aside0.mk ((by rw [hg]; exact (below_size (by repeat (first | (with_reducible first | exact HB.out | apply below_alloc | apply pw_below_drewN | apply below_drew1 | refine below_set ?_ GE80.out | refine below_set ?_ GE170.out | refine below_set ?_ GE176.out) | exact HB.out))) : w.heap.size ≤ gb180)); have n6_ := Aside0.mk ((by rw [hg]; exact (below_size (by repeat (first | (with_reducible first | exact HB.out | apply below_alloc | apply pw_below_drewN | apply below_drew1 | refine below_set ?_ GE80.out | refine below_set ?_ GE170.out | refine below_set ?_ GE176.out) | exact HB.out))) : w.heap.size ≤ gb180)); have n7_ := Aside0.mk ((by rw [hg]; exact Nat.ne_of_lt (blk_lt (g := 0) (o := .cells #[.int .u64 0, .int .u64 0, .bool true] tG0 frG0) (by (with_reducible repeat (first | refine blk_drewN ?_ _ | refine blk_drew ?_ | refine blk_alloc ?_ _)); exact BK80.out)) : 0 ≠ gb180)); have n8_ := Aside0.mk ((by rw [hg]; exact Nat.ne_of_gt (blk_lt (g := 0) (o := .cells #[.int .u64 0, .int .u64 0, .bool true] tG0 frG0) (by (with_reducible repeat (first | refine blk_drewN ?_ _ | refine blk_drew ?_ | refine blk_alloc ?_ _)); exact BK80.out)) : gb180 ≠ 0)); have n9_ := Aside0.mk ((by rw [hg]; exact Nat.ne_of_lt (blk_lt (g := gb170) (o := .cells #[.int .u64 0, .int .u64 0, .bool false] 26 (0, 0)) (by (with_reducible repeat (first | refine blk_drewN ?_ _ | refine blk_drew ?_ | refine blk_alloc ?_ _)); exact BK170.out)) : gb170 ≠ gb180)); have n10_ := Aside0.mk ((by rw [hg]; exact Nat.ne_of_gt (blk_lt (g := gb170) (o := .cells #[.int .u64 0, .int .u64 0, .bool false] 26 (0, 0)) (by (with_reducible repeat (first | refine blk_drewN ?_ _ | refine blk_drew ?_ | refine blk_alloc ?_ _)); exact BK170.out)) : gb180 ≠ gb170)); have n11_ := Aside0.mk ((by rw [hg]; exact Nat.ne_of_lt (blk_lt (g := gb176) (o := .cells #[.int .u64 t174] 85 (0, 0)) (by (with_reducible repeat (first | refine blk_drewN ?_ _ | refine blk_drew ?_ | refine blk_alloc ?_ _)); exact BK176.out)) : gb176 ≠ gb180)); have n12_ := Aside0.mk ((by rw [hg]; exact Nat.ne_of_gt (blk_lt (g := gb176) (o := .cells #[.int .u64 t174] 85 (0, 0)) (by (with_reducible repeat (first | refine blk_drewN ?_ _ | refine blk_drew ?_ | refine blk_alloc ?_ _)); exact BK176.out)) : gb180 ≠ gb176)); clear BK80; clear BK170; clear BK176; clear HB; have BK80 := n0_; have BK170 := n1_; have BK176 := n2_; have HB := n3_; have BK180 := n4_; have GW180 := n5_; have GE180 := n6_; have NB80_180 := n7_; have NB180_80 := n8_; have NB170_180 := n9_; have NB180_170 := n10_; have NB176_180 := n11_; have NB180_176 := n12_; clear n0_ n1_ n2_ n3_ n4_ n5_ n6_ n7_ n8_ n9_ n10_ n11_ n12_; clear hb hbox hg; have hnb62 := NB180_80.out; have hnc62 := NB80_180.out; have hnb63 := NB180_170.out; have hnc63 := NB170_180.out; have hnb64 := NB180_176.out; have hnc64 := NB176_180.out; have hcz65_0 : w61.cell? ⟨gb180, 0, none⟩ = some (.int .u64 0) := (blk_cell BK180.out 0).trans rfl; have hcz65_1 : w61.cell? ⟨gb180, 1, none⟩ = some (.int .u64 0) := (blk_cell BK180.out 1).trans rfl; have hcz65_2 : w61.cell? ⟨gb180, 2, none⟩ = some (.bool false) := (blk_cell BK180.out 2).trans rfl; have hfz65_0 := blk_frozen BK180.out 0; have hfz65_1 := blk_frozen BK180.out 1; have hfz65_2 := blk_frozen BK180.out 2) | ((with_reducible refine gate_callee (f := 27) rfl ?_); refine goesL_ (some 47) rfl rfl Tryd.func27 (by kernel_rfl) rfl #[.agg #[.int .u64 (Go.bits .and .u64 t171 2305843009213693951), .int .u64 t174, .bool false]] rfl (by (try simp only [List.map_toArray, List.map_cons, List.map_nil]); first | done | rfl | (simp only [List.length_drop, List.length_take]; rfl)) ?_; (with_reducible refine (impl_PutPoint.calls kj6 (Go.bits .and .u64 t171 2305843009213693951) t174 false t181 _ (G_below (by repeat (first | (with_reducible first | exact HB.out | apply below_alloc | apply pw_below_drewN | apply below_drew1 | refine below_set ?_ GE80.out | refine below_set ?_ GE170.out | refine below_set ?_ GE176.out | refine below_set ?_ GE180.out) | exact HB.out)) HG.out) A56.out).mono ?_); rintro e w66 ⟨rfl, hb⟩; refine ⟨_, rfl, ?_⟩; have n0_ := Aside0.mk (blk_below (g := 0) (o := .cells #[.int .u64 0, .int .u64 0, .bool true] tG0 frG0) (by (with_reducible repeat (first | refine blk_drewN ?_ _ | refine blk_drew ?_ | refine blk_alloc ?_ _)); refine blk_farG ?_ NB80_180.out _; (with_reducible repeat (first | refine blk_drewN ?_ _ | refine blk_drew ?_ | refine blk_alloc ?_ _)); refine blk_farG ?_ NB80_180.out _; (with_reducible repeat (first | refine blk_drewN ?_ _ | refine blk_drew ?_ | refine blk_alloc ?_ _)); refine blk_farG ?_ NB80_180.out _; (with_reducible repeat (first | refine blk_drewN ?_ _ | refine blk_drew ?_ | refine blk_alloc ?_ _)); exact BK80.out) hb); have n1_ := Aside0.mk (blk_below (g := gb170) (o := .cells #[.int .u64 0, .int .u64 0, .bool false] 26 (0, 0)) (by (with_reducible repeat (first | refine blk_drewN ?_ _ | refine blk_drew ?_ | refine blk_alloc ?_ _)); refine blk_far ?_ NB170_180.out _; (with_reducible repeat (first | refine blk_drewN ?_ _ | refine blk_drew ?_ | refine blk_alloc ?_ _)); refine blk_far ?_ NB170_180.out _; (with_reducible repeat (first | refine blk_drewN ?_ _ | refine blk_drew ?_ | refine blk_alloc ?_ _)); refine blk_far ?_ NB170_180.out _; (with_reducible repeat (first | refine blk_drewN ?_ _ | refine blk_drew ?_ | refine blk_alloc ?_ _)); exact BK170.out) hb); have n2_ := Aside0.mk (blk_below (g := gb176) (o := .cells #[.int .u64 t174] 85 (0, 0)) (by (with_reducible repeat (first | refine blk_drewN ?_ _ | refine blk_drew ?_ | refine blk_alloc ?_ _)); refine blk_far ?_ NB176_180.out _; (with_reducible repeat (first | refine blk_drewN ?_ _ | refine blk_drew ?_ | refine blk_alloc ?_ _)); refine blk_far ?_ NB176_180.out _; (with_reducible repeat (first | refine blk_drewN ?_ _ | refine blk_drew ?_ | refine blk_alloc ?_ _)); refine blk_far ?_ NB176_180.out _; (with_reducible repeat (first | refine blk_drewN ?_ _ | refine blk_drew ?_ | refine blk_alloc ?_ _)); exact BK176.out) hb); have n3_ := Aside0.mk (blk_below (g := gb180) (o := .cells #[.int .u64 (Go.bits .and .u64 t171 2305843009213693951), .int .u64 t174, .bool false] 26 (0, 0)) (by (with_reducible repeat (first | refine blk_drewN ?_ _ | refine blk_drew ?_ | refine blk_alloc ?_ _)); refine blk_put (cs := #[.int .u64 (Go.bits .and .u64 t171 2305843009213693951), .int .u64 t174, .bool false]) ?_ 2 _ rfl; (with_reducible repeat (first | refine blk_drewN ?_ _ | refine blk_drew ?_ | refine blk_alloc ?_ _)); refine blk_put (cs := #[.int .u64 (Go.bits .and .u64 t171 2305843009213693951), .int .u64 0, .bool false]) ?_ 1 _ rfl; (with_reducible repeat (first | refine blk_drewN ?_ _ | refine blk_drew ?_ | refine blk_alloc ?_ _)); refine blk_put (cs := #[.int .u64 0, .int .u64 0, .bool false]) ?_ 0 _ rfl; (with_reducible repeat (first | refine blk_drewN ?_ _ | refine blk_drew ?_ | refine blk_alloc ?_ _)); exact BK180.out) hb); have n4_ := Aside0.mk (below_step (by repeat (first | (with_reducible first | exact HB.out | apply below_alloc | apply pw_below_drewN | apply below_drew1 | refine below_set ?_ GE80.out | refine below_set ?_ GE170.out | refine below_set ?_ GE176.out | refine below_set ?_ GE180.out) | exact HB.out)) hb); clear BK80; clear BK170; clear BK176; clear BK180; clear HB; have BK80 := n0_; have BK170 := n1_; have BK176 := n2_; have BK180 := n3_; have HB := n4_; clear n0_ n1_ n2_ n3_ n4_; (try clear hb); (try clear hb2); (try clear hk); (try clear hi); have hcz67_0 : w66.cell? ⟨gb180, 0, none⟩ = some (.int .u64 (Go.bits .and .u64 t171 2305843009213693951)) := (blk_cell BK180.out 0).trans rfl; have hcz67_1 : w66.cell? ⟨gb180, 1, none⟩ = some (.int .u64 t174) := (blk_cell BK180.out 1).trans rfl; have hcz67_2 : w66.cell? ⟨gb180, 2, none⟩ = some (.bool false) := (blk_cell BK180.out 2).trans rfl; have hfz67_0 := blk_frozen BK180.out 0; have hfz67_1 := blk_frozen BK180.out 1; have hfz67_2 := blk_frozen BK180.out 2; have hnb68 := NB170_80.out; have hnc68 := NB80_170.out; have hcz69_0 : w66.cell? ⟨gb170, 0, none⟩ = some (.int .u64 0) := (blk_cell BK170.out 0).trans rfl; have hcz69_1 : w66.cell? ⟨gb170, 1, none⟩ = some (.int .u64 0) := (blk_cell BK170.out 1).trans rfl; have hcz69_2 : w66.cell? ⟨gb170, 2, none⟩ = some (.bool false) := (blk_cell BK170.out 2).trans rfl; have hfz69_0 := blk_frozen BK170.out 0; have hfz69_1 := blk_frozen BK170.out 1; have hfz69_2 := blk_frozen BK170.out 2))
              refine bodyPost_ret (results_ct rfl _ _ gb170 26 #[.int .u64 (Go.bits .and .u64 t171 2305843009213693951), .int .u64 t174, .bool false] (0, 0) _ rfl (by (with_reducible repeat (first | refine blk_drewN ?_ _ | refine blk_drew ?_ | refine blk_alloc ?_ _)); refine blk_put (cs := #[.int .u64 (Go.bits .and .u64 t171 2305843009213693951), .int .u64 t174, .bool false]) ?_ 2 _ rfl; (with_reducible repeat (first | refine blk_drewN ?_ _ | refine blk_drew ?_ | refine blk_alloc ?_ _)); refine blk_put (cs := #[.int .u64 (Go.bits .and .u64 t171 2305843009213693951), .int .u64 0, .bool false]) ?_ 1 _ rfl; (with_reducible repeat (first | refine blk_drewN ?_ _ | refine blk_drew ?_ | refine blk_alloc ?_ _)); refine blk_put (cs := #[.int .u64 0, .int .u64 0, .bool false]) ?_ 0 _ rfl; (with_reducible repeat (first | refine blk_drewN ?_ _ | refine blk_drew ?_ | refine blk_alloc ?_ _)); exact BK170.out) Tryd.underlying26 rfl (by kernel_rfl)) rfl ?_
              exact ⟨by first | rfl | (simp [errW_none, errW_some] <;> rfl) | (simp [*, errW_none, errW_some] <;> rfl), by repeat (first | (with_reducible first | exact HB.out | apply below_alloc | apply pw_below_drewN | apply below_drew1 | refine below_set ?_ GE80.out | refine below_set ?_ GE170.out | refine below_set ?_ GE176.out | refine below_set ?_ GE180.out) | exact HB.out)⟩
            · rw [if_neg c57] at H
              have c57b0 : (t181.toList == a0.toList) = false := beq_eq_false_iff_ne.mpr c57
              have c57b1 : (t181.toList != a0.toList) = true := bne_iff_ne.mpr c57
              simp only [Option.some.injEq, Prod.mk.injEq] at H
              obtain ⟨rfl, rfl, rfl, rfl⟩ := H
              have hnb70 := NB176_80.out
              have hnc70 := NB80_176.out
              have hnb71 := NB176_170.out
              have hnc71 := NB170_176.out
              have hcz72_0 : wc.cell? ⟨gb176, 0, none⟩ = some (.int .u64 t174) := (blk_cell BK176.out 0).trans rfl
              have hfz72_0 := blk_frozen BK176.out 0
              go_wp2_with (first | ((with_reducible refine gate_dst (N := 8) rfl ?_); refine box_event ?hg (N := 8) ?hd (cs := #[.int .u64 0, .int .u64 0, .bool false]) (t := 26) ?hr ?_; (case hd => rfl); (case hg => rfl); (case hr => first | (go_simp; done) | (go_simp; rfl)); intro gb180 hg w73 hbox hb; have n0_ := Aside0.mk (blk_below (g := 0) (o := .cells #[.int .u64 0, .int .u64 0, .bool true] tG0 frG0) (by (with_reducible repeat (first | refine blk_drewN ?_ _ | refine blk_drew ?_ | refine blk_alloc ?_ _)); exact BK80.out) hb); have n1_ := Aside0.mk (blk_below (g := gb170) (o := .cells #[.int .u64 0, .int .u64 0, .bool false] 26 (0, 0)) (by (with_reducible repeat (first | refine blk_drewN ?_ _ | refine blk_drew ?_ | refine blk_alloc ?_ _)); exact BK170.out) hb); have n2_ := Aside0.mk (blk_below (g := gb176) (o := .cells #[.int .u64 t174] 85 (0, 0)) (by (with_reducible repeat (first | refine blk_drewN ?_ _ | refine blk_drew ?_ | refine blk_alloc ?_ _)); exact BK176.out) hb); have n3_ := Aside0.mk (below_step (by repeat (first | (with_reducible first | exact HB.out | apply below_alloc | apply pw_below_drewN | apply below_drew1 | refine below_set ?_ GE80.out | refine below_set ?_ GE170.out | refine below_set ?_ GE176.out) | exact HB.out)) hb); have n4_ := Aside0.mk (hbox); have n5_ := Aside0.mk ((by rw [hg]; exact (below_size (by repeat (first | (with_reducible first | exact HB.out | apply below_alloc | apply pw_below_drewN | apply below_drew1 | refine below_set ?_ GE80.out | refine below_set ?_ GE170.out | refine below_set ?_ GE176.out) | exact HB.out))) : w.heap.size ≤ gb180)); have n6_ := Aside0.mk ((by rw [hg]; exact (below_size (by repeat (first | (with_reducible first | exact HB.out | apply below_alloc | apply pw_below_drewN | apply below_drew1 | refine below_set ?_ GE80.out | refine below_set ?_ GE170.out | refine below_set ?_ GE176.out) | exact HB.out))) : w.heap.size ≤ gb180)); have n7_ := Aside0.mk ((by rw [hg]; exact Nat.ne_of_lt (blk_lt (g := 0) (o := .cells #[.int .u64 0, .int .u64 0, .bool true] tG0 frG0) (by (with_reducible repeat (first | refine blk_drewN ?_ _ | refine blk_drew ?_ | refine blk_alloc ?_ _)); exact BK80.out)) : 0 ≠ gb180)); have n8_ := Aside0.mk ((by rw [hg]; exact Nat.ne_of_gt (blk_lt (g := 0) (o := .cells #[.int .u64 0, .int .u64 0, .bool true] tG0 frG0) (by (with_reducible repeat (first | refine blk_drewN ?_ _ | refine blk_drew ?_ | refine blk_alloc ?_ _)); exact BK80.out)) : gb180 ≠ 0)); have n9_ := Aside0.mk ((by rw [hg]; exact Nat.ne_of_lt (blk_lt (g := gb170) (o := .cells #[.int .u64 0, .int .u64 0, .bool false] 26 (0, 0)) (by (with_reducible repeat (first | refine blk_drewN ?_ _ | refine blk_drew ?_ | refine blk_alloc ?_ _)); exact BK170.out)) : gb170 ≠ gb180)); have n10_ := Aside0.mk ((by rw [hg]; exact Nat.ne_of_gt (blk_lt (g := gb170) (o := .cells #[.int .u64 0, .int .u64 0, .bool false] 26 (0, 0)) (by (with_reducible repeat (first | refine blk_drewN ?_ _ | refine blk_drew ?_ | refine blk_alloc ?_ _)); exact BK170.out)) : gb180 ≠ gb170)); have n11_ := Aside0.mk ((by rw [hg]; exact Nat.ne_of_lt (blk_lt (g := gb176) (o := .cells #[.int .u64 t174] 85 (0, 0)) (by (with_reducible repeat (first | refine blk_drewN ?_ _ | refine blk_drew ?_ | refine blk_alloc ?_ _)); exact BK176.out)) : gb176 ≠ gb180)); have n12_ := Aside0.mk ((by rw [hg]; exact Nat.ne_of_gt (blk_lt (g := gb176) (o := .cells #[.int .u64 t174] 85 (0, 0)) (by (with_reducible repeat (first | refine blk_drewN ?_ _ | refine blk_drew ?_ | refine blk_alloc ?_ _)); exact BK176.out)) : gb180 ≠ gb176)); clear BK80; clear BK170; clear BK176; clear HB; have BK80 := n0_; have BK170 := n1_; have BK176 := n2_; have HB := n3_; have BK180 := n4_; have GW180 := n5_; have GE180 := n6_; have NB80_180 := n7_; have NB180_80 := n8_; have NB170_180 := n9_; have NB180_170 := n10_; have NB176_180 := n11_; have NB180_176 := n12_; clear n0_ n1_ n2_ n3_ n4_ n5_ n6_ n7_ n8_ n9_ n10_ n11_ n12_; clear hb hbox hg; have hnb74 := NB180_80.out; have hnc74 := NB80_180.out; have hnb75 := NB180_170.out; have hnc75 := NB170_180.out; have hnb76 := NB180_176.out; have hnc76 := NB176_180.out; have hcz77_0 : w73.cell? ⟨gb180, 0, none⟩ = some (.int .u64 0) := (blk_cell BK180.out 0).trans rfl; have hcz77_1 : w73.cell? ⟨gb180, 1, none⟩ = some (.int .u64 0) := (blk_cell BK180.out 1).trans rfl; have hcz77_2 : w73.cell? ⟨gb180, 2, none⟩ = some (.bool false) := (blk_cell BK180.out 2).trans rfl; have hfz77_0 := blk_frozen BK180.out 0; have hfz77_1 := blk_frozen BK180.out 1; have hfz77_2 := blk_frozen BK180.out 2) | ((with_reducible refine gate_callee (f := 27) rfl ?_); refine goesL_ (some 47) rfl rfl Tryd.func27 (by kernel_rfl) rfl #[.agg #[.int .u64 (Go.bits .and .u64 t171 2305843009213693951), .int .u64 t174, .bool false]] rfl (by (try simp only [List.map_toArray, List.map_cons, List.map_nil]); first | done | rfl | (simp only [List.length_drop, List.length_take]; rfl)) ?_; (with_reducible refine (impl_PutPoint.calls kj6 (Go.bits .and .u64 t171 2305843009213693951) t174 false t181 _ (G_below (by repeat (first | (with_reducible first | exact HB.out | apply below_alloc | apply pw_below_drewN | apply below_drew1 | refine below_set ?_ GE80.out | refine below_set ?_ GE170.out | refine below_set ?_ GE176.out | refine below_set ?_ GE180.out) | exact HB.out)) HG.out) A56.out).mono ?_); rintro e w78 ⟨rfl, hb⟩; refine ⟨_, rfl, ?_⟩; have n0_ := Aside0.mk (blk_below (g := 0) (o := .cells #[.int .u64 0, .int .u64 0, .bool true] tG0 frG0) (by (with_reducible repeat (first | refine blk_drewN ?_ _ | refine blk_drew ?_ | refine blk_alloc ?_ _)); refine blk_farG ?_ NB80_180.out _; (with_reducible repeat (first | refine blk_drewN ?_ _ | refine blk_drew ?_ | refine blk_alloc ?_ _)); refine blk_farG ?_ NB80_180.out _; (with_reducible repeat (first | refine blk_drewN ?_ _ | refine blk_drew ?_ | refine blk_alloc ?_ _)); refine blk_farG ?_ NB80_180.out _; (with_reducible repeat (first | refine blk_drewN ?_ _ | refine blk_drew ?_ | refine blk_alloc ?_ _)); exact BK80.out) hb); have n1_ := Aside0.mk (blk_below (g := gb170) (o := .cells #[.int .u64 0, .int .u64 0, .bool false] 26 (0, 0)) (by (with_reducible repeat (first | refine blk_drewN ?_ _ | refine blk_drew ?_ | refine blk_alloc ?_ _)); refine blk_far ?_ NB170_180.out _; (with_reducible repeat (first | refine blk_drewN ?_ _ | refine blk_drew ?_ | refine blk_alloc ?_ _)); refine blk_far ?_ NB170_180.out _; (with_reducible repeat (first | refine blk_drewN ?_ _ | refine blk_drew ?_ | refine blk_alloc ?_ _)); refine blk_far ?_ NB170_180.out _; (with_reducible repeat (first | refine blk_drewN ?_ _ | refine blk_drew ?_ | refine blk_alloc ?_ _)); exact BK170.out) hb); have n2_ := Aside0.mk (blk_below (g := gb176) (o := .cells #[.int .u64 t174] 85 (0, 0)) (by (with_reducible repeat (first | refine blk_drewN ?_ _ | refine blk_drew ?_ | refine blk_alloc ?_ _)); refine blk_far ?_ NB176_180.out _; (with_reducible repeat (first | refine blk_drewN ?_ _ | refine blk_drew ?_ | refine blk_alloc ?_ _)); refine blk_far ?_ NB176_180.out _; (with_reducible repeat (first | refine blk_drewN ?_ _ | refine blk_drew ?_ | refine blk_alloc ?_ _)); refine blk_far ?_ NB176_180.out _; (with_reducible repeat (first | refine blk_drewN ?_ _ | refine blk_drew ?_ | refine blk_alloc ?_ _)); exact BK176.out) hb); have n3_ := Aside0.mk (blk_below (g := gb180) (o := .cells #[.int .u64 (Go.bits .and .u64 t171 2305843009213693951), .int .u64 t174, .bool false] 26 (0, 0)) (by (with_reducible repeat (first | refine blk_drewN ?_ _ | refine blk_drew ?_ | refine blk_alloc ?_ _)); refine blk_put (cs := #[.int .u64 (Go.bits .and .u64 t171 2305843009213693951), .int .u64 t174, .bool false]) ?_ 2 _ rfl; (with_reducible repeat (first | refine blk_drewN ?_ _ | refine blk_drew ?_ | refine blk_alloc ?_ _)); refine blk_put (cs := #[.int .u64 (Go.bits .and .u64 t171 2305843009213693951), .int .u64 0, .bool false]) ?_ 1 _ rfl; (with_reducible repeat (first | refine blk_drewN ?_ _ | refine blk_drew ?_ | refine blk_alloc ?_ _)); refine blk_put (cs := #[.int .u64 0, .int .u64 0, .bool false]) ?_ 0 _ rfl; (with_reducible repeat (first | refine blk_drewN ?_ _ | refine blk_drew ?_ | refine blk_alloc ?_ _)); exact BK180.out) hb); have n4_ := Aside0.mk (below_step (by repeat (first | (with_reducible first | exact HB.out | apply below_alloc | apply pw_below_drewN | apply below_drew1 | refine below_set ?_ GE80.out | refine below_set ?_ GE170.out | refine below_set ?_ GE176.out | refine below_set ?_ GE180.out) | exact HB.out)) hb); clear BK80; clear BK170; clear BK176; clear BK180; clear HB; have BK80 := n0_; have BK170 := n1_; have BK176 := n2_; have BK180 := n3_; have HB := n4_; clear n0_ n1_ n2_ n3_ n4_; (try clear hb); (try clear hb2); (try clear hk); (try clear hi); have hnb79 := NB80_170.out; have hnc79 := NB170_80.out; have hcz80_0 : w78.cell? ⟨0, 0, none⟩ = some (.int .u64 0) := (blk_cellG BK80.out 0).trans rfl; have hcz80_1 : w78.cell? ⟨0, 1, none⟩ = some (.int .u64 0) := (blk_cellG BK80.out 1).trans rfl; have hcz80_2 : w78.cell? ⟨0, 2, none⟩ = some (.bool true) := (blk_cellG BK80.out 2).trans rfl; have hfz80_0 := trivial; have hfz80_1 := trivial; have hfz80_2 := trivial; have hcz81_0 : w78.cell? ⟨gb170, 0, none⟩ = some (.int .u64 0) := (blk_cell BK170.out 0).trans rfl; have hcz81_1 : w78.cell? ⟨gb170, 1, none⟩ = some (.int .u64 0) := (blk_cell BK170.out 1).trans rfl; have hcz81_2 : w78.cell? ⟨gb170, 2, none⟩ = some (.bool false) := (blk_cell BK170.out 2).trans rfl; have hfz81_0 := blk_frozen BK170.out 0; have hfz81_1 := blk_frozen BK170.out 1; have hfz81_2 := blk_frozen BK170.out 2))
              refine bodyPost_ret (results_ct rfl _ _ gb170 26 #[.int .u64 0, .int .u64 0, .bool true] (0, 0) _ rfl (by (with_reducible repeat (first | refine blk_drewN ?_ _ | refine blk_drew ?_ | refine blk_alloc ?_ _)); refine blk_put (cs := #[.int .u64 0, .int .u64 0, .bool false]) ?_ 2 _ rfl; (with_reducible repeat (first | refine blk_drewN ?_ _ | refine blk_drew ?_ | refine blk_alloc ?_ _)); refine blk_put (cs := #[.int .u64 0, .int .u64 0, .bool false]) ?_ 1 _ rfl; (with_reducible repeat (first | refine blk_drewN ?_ _ | refine blk_drew ?_ | refine blk_alloc ?_ _)); refine blk_put (cs := #[.int .u64 0, .int .u64 0, .bool false]) ?_ 0 _ rfl; (with_reducible repeat (first | refine blk_drewN ?_ _ | refine blk_drew ?_ | refine blk_alloc ?_ _)); exact BK170.out) Tryd.underlying26 rfl (by kernel_rfl)) rfl ?_
              exact ⟨by first | rfl | (simp [errW_none, errW_some] <;> rfl) | (simp [*, errW_none, errW_some] <;> rfl), by repeat (first | (with_reducible first | exact HB.out | apply below_alloc | apply pw_below_drewN | apply below_drew1 | refine below_set ?_ GE80.out | refine below_set ?_ GE170.out | refine below_set ?_ GE176.out | refine below_set ?_ GE180.out) | exact HB.out)⟩
  · rw [if_neg c2] at H
    have c2b0 : ((a0.size : Int) == 8) = false := beq_eq_false_iff_ne.mpr c2
    have c2b1 : ((a0.size : Int) != 8) = true := bne_iff_ne.mpr c2
    simp only [Option.some.injEq, Prod.mk.injEq] at H
    obtain ⟨rfl, rfl, rfl, rfl⟩ := H
    go_enter Tryd.func33, Tryd.ntmps33
    go_wp2_with (first | ((with_reducible refine gate_dst (N := 2) rfl ?_); refine box_event ?hg (N := 2) ?hd (cs := #[.int .u64 0, .int .u64 0, .bool false]) (t := 26) ?hr ?_; (case hd => rfl); (case hg => rfl); (case hr => first | (go_simp; done) | (go_simp; rfl)); intro gb170 hg w82 hbox hb; have n0_ := Aside0.mk (blk_below (g := 0) (o := .cells #[.int .u64 0, .int .u64 0, .bool true] tG0 frG0) (by (with_reducible repeat (first | refine blk_drewN ?_ _ | refine blk_drew ?_ | refine blk_alloc ?_ _)); exact BK80.out) hb); have n1_ := Aside0.mk (below_step (by repeat (first | (with_reducible first | exact HB.out | apply below_alloc | apply pw_below_drewN | apply below_drew1 | refine below_set ?_ GE80.out) | exact HB.out)) hb); have n2_ := Aside0.mk (hbox); have n3_ := Aside0.mk ((by rw [hg]; exact (below_size (by repeat (first | (with_reducible first | exact HB.out | apply below_alloc | apply pw_below_drewN | apply below_drew1 | refine below_set ?_ GE80.out) | exact HB.out))) : w.heap.size ≤ gb170)); have n4_ := Aside0.mk ((by rw [hg]; exact (below_size (by repeat (first | (with_reducible first | exact HB.out | apply below_alloc | apply pw_below_drewN | apply below_drew1 | refine below_set ?_ GE80.out) | exact HB.out))) : w.heap.size ≤ gb170)); have n5_ := Aside0.mk ((by rw [hg]; exact Nat.ne_of_lt (blk_lt (g := 0) (o := .cells #[.int .u64 0, .int .u64 0, .bool true] tG0 frG0) (by (with_reducible repeat (first | refine blk_drewN ?_ _ | refine blk_drew ?_ | refine blk_alloc ?_ _)); exact BK80.out)) : 0 ≠ gb170)); have n6_ := Aside0.mk ((by rw [hg]; exact Nat.ne_of_gt (blk_lt (g := 0) (o := .cells #[.int .u64 0, .int .u64 0, .bool true] tG0 frG0) (by (with_reducible repeat (first | refine blk_drewN ?_ _ | refine blk_drew ?_ | refine blk_alloc ?_ _)); exact BK80.out)) : gb170 ≠ 0)); clear BK80; clear HB; have BK80 := n0_; have HB := n1_; have BK170 := n2_; have GW170 := n3_; have GE170 := n4_; have NB80_170 := n5_; have NB170_80 := n6_; clear n0_ n1_ n2_ n3_ n4_ n5_ n6_; clear hb hbox hg; have hnb83 := NB80_170.out; have hnc83 := NB170_80.out; have hcz84_0 : w82.cell? ⟨0, 0, none⟩ = some (.int .u64 0) := (blk_cellG BK80.out 0).trans rfl; have hcz84_1 : w82.cell? ⟨0, 1, none⟩ = some (.int .u64 0) := (blk_cellG BK80.out 1).trans rfl; have hcz84_2 : w82.cell? ⟨0, 2, none⟩ = some (.bool true) := (blk_cellG BK80.out 2).trans rfl; have hfz84_0 := trivial; have hfz84_1 := trivial; have hfz84_2 := trivial; have hcz85_0 : w82.cell? ⟨gb170, 0, none⟩ = some (.int .u64 0) := (blk_cell BK170.out 0).trans rfl; have hcz85_1 : w82.cell? ⟨gb170, 1, none⟩ = some (.int .u64 0) := (blk_cell BK170.out 1).trans rfl; have hcz85_2 : w82.cell? ⟨gb170, 2, none⟩ = some (.bool false) := (blk_cell BK170.out 2).trans rfl; have hfz85_0 := blk_frozen BK170.out 0; have hfz85_1 := blk_frozen BK170.out 1; have hfz85_2 := blk_frozen BK170.out 2))
    refine bodyPost_ret (results_ct rfl _ _ gb170 26 #[.int .u64 0, .int .u64 0, .bool true] (0, 0) _ rfl (by (with_reducible repeat (first | refine blk_drewN ?_ _ | refine blk_drew ?_ | refine blk_alloc ?_ _)); refine blk_put (cs := #[.int .u64 0, .int .u64 0, .bool false]) ?_ 2 _ rfl; (with_reducible repeat (first | refine blk_drewN ?_ _ | refine blk_drew ?_ | refine blk_alloc ?_ _)); refine blk_put (cs := #[.int .u64 0, .int .u64 0, .bool false]) ?_ 1 _ rfl; (with_reducible repeat (first | refine blk_drewN ?_ _ | refine blk_drew ?_ | refine blk_alloc ?_ _)); refine blk_put (cs := #[.int .u64 0, .int .u64 0, .bool false]) ?_ 0 _ rfl; (with_reducible repeat (first | refine blk_drewN ?_ _ | refine blk_drew ?_ | refine blk_alloc ?_ _)); exact BK170.out) Tryd.underlying26 rfl (by kernel_rfl)) rfl ?_
    exact ⟨by first | rfl | (simp [errW_none, errW_some] <;> rfl) | (simp [*, errW_none, errW_some] <;> rfl), by repeat (first | (with_reducible first | exact HB.out | apply below_alloc | apply pw_below_drewN | apply below_drew1 | refine below_set ?_ GE80.out | refine below_set ?_ GE170.out) | exact HB.out)⟩

end Go.Proofs.YtkefcokmghbmhaaDoor.C
end
