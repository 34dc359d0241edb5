/- PowMod: the walk of the loop over the exponent's bits; what it gives is a fold over them. -/
import Derived.Test.YtekobmjfodhmaaaH1
import Derived.Test.YtekobmjfodhmaaaP1
namespace Go.Proofs.Ytekobmjfodhmaaa.H2
open Go.RowKit Go.Shelf Go.Proofs.YtekobmjfodhmaaaW.PrintWords Go.Proofs.YtekobmjfodhmaaaW.PrintLast Go.Proofs.YtekobmjfodhmaaaW.PrintMore Go.Proofs.Ytekobmjfodhmaaa.H0 Go.Proofs.Ytekobmjfodhmaaa.H1 Go.Proofs.Ytekobmjfodhmaaa.B
attribute [local go_sem] Oper.semAt_some

/-- the product modulo m; 0 for m 0 -/
def mm (x y m : Int) : Int := if m = 0 then 0 else x * y % m
theorem mm_range {x y m : Int} (h : 0 ≤ m) (hm : m < 18446744073709551616) : 0 ≤ mm x y m ∧ mm x y m < 18446744073709551616 := by
  unfold mm
  by_cases h0 : m = 0
  · rw [if_pos h0]; omega
  · rw [if_neg h0]
    have := Int.emod_nonneg (x * y) h0
    have := Int.emod_lt_of_pos (x * y) (show 0 < m by omega)
    omega
theorem mm_calls (x y m : Int) (w : World) (hx0 : 0 ≤ x) (hx : x < 18446744073709551616) (hy0 : 0 ≤ y) (hy : y < 18446744073709551616) (hm0 : 0 ≤ m) (hm : m < 18446744073709551616) :
    Calls Try.prog 5 #[.int .u64 x, .int .u64 y, .int .u64 m] w fun e w' => e = .returned (.int .u64 (mm x y m)) ∧ Drawn0 w w' :=
  impl_MulMod.calls 10 x y m _ w (Pure.mulmod x y m hx0 hx hy0 hy hm0 hm (by omega))

/-- one bit's step -/
def pst (a m r : Int) (b : Bool) : Int := if b then mm (mm r r m) a m else mm r r m
def pfold (a m : Int) (bs : List Bool) : Int := bs.foldl (pst a m) (1 % m)
theorem pfold_snoc (a m : Int) (bs : List Bool) (b : Bool) : pfold a m (bs ++ [b]) = pst a m (pfold a m bs) b := by simp [pfold]
theorem pfold_range {a m : Int} (h : 0 ≤ m) (hm : m < 18446744073709551616) (h0 : m ≠ 0) : ∀ (bs : List Bool) (r : Int), 0 ≤ r → r < 18446744073709551616 → 0 ≤ bs.foldl (pst a m) r ∧ bs.foldl (pst a m) r < 18446744073709551616
  | [], r, h1, h2 => ⟨h1, h2⟩
  | b :: bs, r, h1, h2 => by
    have := mm_range (x := r) (y := r) h hm
    have := mm_range (x := mm r r m) (y := a) h hm
    apply pfold_range h hm h0 bs
    · unfold pst; split <;> omega
    · unfold pst; split <;> omega

def impl_PowMod.f (a e m : Int) : Option Int :=
  if 0 ≤ a ∧ a < 18446744073709551616 ∧ 0 ≤ e ∧ e < 18446744073709551616 ∧ 0 ≤ m ∧ m < 18446744073709551616 then some (if m = 0 then 0 else pfold a m (bitsOf e)) else none

set_option maxRecDepth 100000 in
set_option maxHeartbeats 4000000 in
theorem impl_PowMod.calls (a e m r : Int) (w : World) (h : impl_PowMod.f a e m = some r) :
    Calls Try.prog 7 #[.int .u64 a, .int .u64 e, .int .u64 m] w fun en w' => en = .returned (.int .u64 r) ∧ Below w.heap.size w w' := by
  unfold impl_PowMod.f at h
  split at h
  case isFalse => cases h
  rename_i hh
  obtain ⟨ha0, ha1, he0, he1, hm0, hm1⟩ := hh
  obtain rfl := Option.some.inj h
  clear h
  refine (callsIn_wide (n := 5)).1 ?_
  refine callsIn_of_wp_marks Try.func7 rfl trivial ?_ rfl
  simp only [Try.ntmps7, List.size_toArray, List.length_cons, List.length_nil, Nat.reduceAdd, Nat.reduceSub, Array.replicate_succ, Array.replicate_zero, List.push_toArray, List.append_toArray, List.nil_append, List.cons_append]
  by_cases hz : m = 0
  · subst hz
    gi_wp2
    exact ⟨_, results_tmp rfl _ _ _, rfl, ((Below.refl _ w).alloc (Nat.le_refl _) _).alloc (by simp) _⟩
  · have hzb : (m == 0) = false := by simpa using hz
    gi_wp2_with (refine ⟨trivial, ?_⟩; gi_at_call 22; refine (callsIn_wide.2 (highBits_any e _)).mono ?_; rintro en w' ⟨rfl, rfl⟩)
    have hb0 : Boxed (((w.alloc (.cells #[.int .u64 a] 23)).alloc (.cells #[.int .u64 m] 23)).alloc (.cells #[.int .u64 (1 % m)] 23)) w.heap.size 23 (.int .u64 a) := ((Boxed.new w _ _).alloc _).alloc _
    have hb1 : Boxed (((w.alloc (.cells #[.int .u64 a] 23)).alloc (.cells #[.int .u64 m] 23)).alloc (.cells #[.int .u64 (1 % m)] 23)) (w.heap.size + 1) 23 (.int .u64 m) := by
      have := Boxed.new (w.alloc (.cells #[.int .u64 a] 23)) 23 (.int .u64 m)
      rw [World.size_alloc] at this
      exact this.alloc _
    have hb2 : Boxed (((w.alloc (.cells #[.int .u64 a] 23)).alloc (.cells #[.int .u64 m] 23)).alloc (.cells #[.int .u64 (1 % m)] 23)) (w.heap.size + 1 + 1) 23 (.int .u64 (1 % m)) := by
      have := Boxed.new ((w.alloc (.cells #[.int .u64 a] 23)).alloc (.cells #[.int .u64 m] 23)) 23 (.int .u64 (1 % m))
      simpa only [World.size_alloc] using this
    have hB0 : Below w.heap.size w (((w.alloc (.cells #[.int .u64 a] 23)).alloc (.cells #[.int .u64 m] 23)).alloc (.cells #[.int .u64 (1 % m)] 23)) :=
      (((Below.refl _ w).alloc (Nat.le_refl _) _).alloc (by simp) _).alloc (by simp; omega) _
    have hsz : (((w.alloc (.cells #[.int .u64 a] 23)).alloc (.cells #[.int .u64 m] 23)).alloc (.cells #[.int .u64 (1 % m)] 23)).heap.size = w.heap.size + 1 + 1 + 1 := by simp only [World.size_alloc]
    generalize (((w.alloc (.cells #[.int .u64 a] 23)).alloc (.cells #[.int .u64 m] 23)).alloc (.cells #[.int .u64 (1 % m)] 23)) = W1 at *
    have hbe : Boxed (W1.alloc (.cells #[.int .u64 e] 23)) (w.heap.size + 1 + 1 + 1) 23 (.int .u64 e) := by
      have := Boxed.new W1 23 (.int .u64 e); rwa [hsz] at this
    refine wpIn_rangeFunc_ownF rfl (by omega) (gf := 29) (lb := #[.pointer (some ⟨w.heap.size + 1 + 1 + 1, 0, none⟩)]) rfl trivial (enters_of Try.func29 (by kernel_rfl) rfl)
      (bits_stops (w.heap.size + 1 + 1 + 1) 23 e he0 (by omega) _ hbe) keepBox_t (keepBox_b (by simp [hsz])) (Below.refl _ _) (fun _ => rfl)
      (fun pre W => (Boxed W w.heap.size 23 (.int .u64 a) ∧ Boxed W (w.heap.size + 1) 23 (.int .u64 m) ∧ Boxed W (w.heap.size + 1 + 1) 23 (.int .u64 (pfold a m pre)) ∧ Boxed W (w.heap.size + 1 + 1 + 1) 23 (.int .u64 e)) ∧ Below w.heap.size w W)
      (fun _ _ _ => False)
      (OwnFrom.and (Own.from (fun s A B row hs hg hr => ⟨boxed_own _ _ (fun _ : List Bool => Value.int .u64 a) s A B row hs.1 hg hr, boxed_own _ _ (fun _ : List Bool => Value.int .u64 m) s A B row hs.2.1 hg hr, boxed_own _ _ (fun s => Value.int .u64 (pfold a m s)) s A B row hs.2.2.1 hg hr, boxed_own _ _ (fun _ : List Bool => Value.int .u64 e) s A B row hs.2.2.2 hg hr⟩) _) (ownFrom_below (Nat.le_refl _) (by simp [hsz]; omega)))
      (fun _ _ _ _ _ hs _ _ => hs)
      ⟨⟨hb0.alloc _, hb1.alloc _, hb2.alloc _, hbe⟩, hB0.alloc (by omega) _⟩
      (fun x => { tmps := #[.int .u64 a, .int .u64 e, .int .u64 m, .pointer (some ⟨w.heap.size, 0, none⟩), undef, .pointer (some ⟨w.heap.size + 1, 0, none⟩), .int .u64 0, .pointer (some ⟨w.heap.size + 1 + 1, 0, none⟩), .bool x, .int .u64 m, .bool false, .int .u64 m, .int .u64 (1 % m), .int .u64 e, .func (.func 29) #[] #[.pointer (some ⟨w.heap.size + 1 + 1 + 1, 0, none⟩)], .bool x, undef, undef, undef, undef, undef, undef, undef, undef, undef, undef], defers := [] }) ?assign ?body ?done ?stop
    case assign =>
      intro l x W K hK
      gi_wp2
      exact hK
    case body =>
      rintro l pre x W ⟨⟨hA, hM, hO, hE⟩, hB⟩ _
      have hWs := hE.lt
      have hr0 := pfold_range (a := a) hm0 hm1 hz pre (1 % m) (Int.emod_nonneg _ hz) (by have := Int.emod_lt_of_pos 1 (show 0 < m by omega); omega)
      change 0 ≤ pfold a m pre ∧ pfold a m pre < 18446744073709551616 at hr0
      have hr1 := mm_range (x := pfold a m pre) (y := pfold a m pre) hm0 hm1
      have hAc := hA.cell
      have hMc := hM.cell
      have hOc := hO.cell
      have hOf := hO.frozen
      have hs := pfold_snoc a m pre x
      cases x with
      | false =>
        gi_wp2_with (refine ⟨trivial, ?_⟩; gi_at_call 5; refine (CallsIn.inRound l (callsIn_wide.2 (mm_calls (pfold a m pre) (pfold a m pre) m _ hr0.1 hr0.2 hr0.1 hr0.2 hm0 hm1))).mono ?_; rintro en w' ⟨rfl, ⟨⟨n1, rfl⟩⟩⟩)
        have hg := gb_set (gb_drewN (gb_refl W (some (w.heap.size + 1 + 1))) n1) (.int .u64 (mm (pfold a m pre) (pfold a m pre) m))
        refine ⟨keeps_of_gb hO hg, keepBox_of_gb hg hWs (by omega), ⟨hA.kept hg (by simp; omega), hM.kept hg (by simp), ?_, hE.kept hg (by simp)⟩, below_of_gb hB hg hB.size (by omega)⟩
        rw [hs]
        exact (boxed_drewN hO n1).set _
      | true =>
        gi_wp2_with (refine ⟨trivial, ?_⟩; gi_at_call 5; first | ((with_reducible refine (CallsIn.inRound l (callsIn_wide.2 (mm_calls (pfold a m pre) (pfold a m pre) m _ hr0.1 hr0.2 hr0.1 hr0.2 hm0 hm1))).mono ?_); rintro en w' ⟨rfl, ⟨⟨n1, rfl⟩⟩⟩) | ((with_reducible refine (CallsIn.inRound l (callsIn_wide.2 (mm_calls (mm (pfold a m pre) (pfold a m pre) m) a m _ hr1.1 hr1.2 ha0 ha1 hm0 hm1))).mono ?_); rintro en w' ⟨rfl, ⟨⟨n2, rfl⟩⟩⟩))
        have hg := gb_set (gb_drewN (gb_set (gb_drewN (gb_refl W (some (w.heap.size + 1 + 1))) n1) (.int .u64 (mm (pfold a m pre) (pfold a m pre) m))) n2) (.int .u64 (mm (mm (pfold a m pre) (pfold a m pre) m) a m))
        refine ⟨keeps_of_gb hO hg, keepBox_of_gb hg hWs (by omega), ⟨hA.kept hg (by simp; omega), hM.kept hg (by simp), ?_, hE.kept hg (by simp)⟩, below_of_gb hB hg hB.size (by omega)⟩
        rw [hs]
        exact (boxed_drewN ((boxed_drewN hO n1).set _) n2).set _
    case done =>
      rintro D ys W hD rfl ⟨⟨_, _, hO, _⟩, hB⟩ hK
      have hOc := hO.cell
      gi_wp2
      refine ⟨by simp, .inl ⟨_, _, rfl, run_takeDeferred hK, ?_⟩⟩
      exact ⟨_, results_tmp rfl _ _ _, rfl, hB.trans (belowK_b (w := w) (Nat.le_refl _) W D _ _ (by simp [hsz] at hD; omega) hK rfl rfl)⟩
    case stop =>
      rintro D c pre W _ _ h _
      exact h.elim
end Go.Proofs.Ytekobmjfodhmaaa.H2
