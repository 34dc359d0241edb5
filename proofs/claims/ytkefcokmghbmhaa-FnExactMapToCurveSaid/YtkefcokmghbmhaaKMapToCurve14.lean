/- What the proof of FnExactMapToCurve leans on, part 14: cut out of the texts of this claim's making by a program (wip/tools/pack.py). -/
import Derived.Test.YtkefcokmghbmhaaKMapToCurve0
import Derived.Test.YtkefcokmghbmhaaKMapToCurve9
import Derived.Test.YtkefcokmghbmhaaKMapToCurve10
import Derived.Test.YtkefcokmghbmhaaKMapToCurve11
import Derived.Test.YtkefcokmghbmhaaKMapToCurve12
import Derived.Test.YtkefcokmghbmhaaKMapToCurve13
import Derived.OpenShut
section
namespace Go.Proofs.Ytkefcokmghbmhaa.MC
open Go Go.RowKit Go.Proofs.YtkefcokmghbmhaaW.PrintWords Go.Proofs.YtkefcokmghbmhaaW.PrintLast Go.Proofs.YtkefcokmghbmhaaW.PrintMore Go.Proofs.Ytkefcokmghbmhaa.H0 Go.Proofs.Ytkefcokmghbmhaa.H1 Go.Proofs.Ytkefcokmghbmhaa.H2 Go.Proofs.Ytkefcokmghbmhaa.H3 Go.Proofs.Ytkefcokmghbmhaa.CR Go.Proofs.Ytkefcokmghbmhaa.C2 Go.Proofs.Ytkefcokmghbmhaa.B Go.Proofs.Ytkefcokmghbmhaa.C Go.Proofs.Ytkefcokmghbmhaa.G0
set_option linter.unusedVariables false
set_option linter.unusedSimpArgs false
/-- the code of MapToCurve, and what stands behind a label -/
noncomputable def c0 : Code := match Try.f5.body with | some (.seq _ (.scope c)) => c | _ => .skip
noncomputable def behind (l : Nat) : Code := match findLabel c0 l with | some (.seq _ x) => x | _ => .skip
theorem find0 : findLabel c0 0 = some (.seq .skip (behind 0)) := by kernel_rfl
theorem find1 : findLabel c0 1 = some (.seq .skip (behind 1)) := by kernel_rfl
theorem find2 : findLabel c0 2 = some (.seq .skip (behind 2)) := by kernel_rfl

def ng (y : Int) : Int := if y = 0 then 0 else 2305843009213693951 - y
theorem in_ng {y : Int} (h : In y) : In (ng y) := by have := h.1; have := h.2; unfold In ng; split <;> omega
theorem neg_c {y : Int} (hy : In y) (w : World) : Calls Try.prog 15 #[.agg #[.int .u64 y]] w fun e w' => e = .returned (.agg #[.int .u64 (ng y)]) ∧ Below w.heap.size w w' :=
  impl_num_impl_fieldP_negative.calls y _ w (Pure.negative_P y hy.1 hy.2)
/-- the candidate for a root, told by what the program's power gives -/
def rq (x : Int) : Int := (impl_num_impl_fieldP_power.f x 576460752303423488).getD 0
def ry (x : Int) : Int := Pure.even (rq x)
def rk (x : Int) : Bool := tm (rq x) (rq x) == x
def iv (x : Int) : Int := (impl_num_impl_fieldP_inverse.f x).getD 0
theorem rq_eq {x : Int} (hx : In x) : rq x = x ^ 576460752303423488 % 2305843009213693951 := by
  unfold rq
  rw [Pure.power_P x 576460752303423488 hx.1 (by have := hx.2; omega) (by decide) (by decide), show Int.toNat 576460752303423488 = 576460752303423488 from by decide]; rfl
theorem root_c {x : Int} (hx : In x) (w : World) : Calls Try.prog 18 #[.agg #[.int .u64 x]] w fun e w' => e = .returned (.tuple #[.agg #[.int .u64 (ry x)], .bool (rk x)]) ∧ Below w.heap.size w w' :=
  impl_num_impl_fieldP_root.calls 10 x _ _ w (by rw [Pure.root_P x hx.1 (by have := hx.2; omega) (by omega), ← rq_eq hx]; rfl)
theorem in_ry {x : Int} (hx : In x) : In (ry x) := by
  have h0 := Int.emod_nonneg (x ^ 576460752303423488) (show (2305843009213693951 : Int) ≠ 0 by decide)
  have h1 := Int.emod_lt_of_pos (x ^ 576460752303423488) (show (0 : Int) < 2305843009213693951 by decide)
  unfold ry; rw [rq_eq hx]
  generalize x ^ 576460752303423488 % 2305843009213693951 = r at *
  unfold In Pure.even; split <;> omega
theorem inv_eq {x : Int} (hx : In x) : impl_num_impl_fieldP_inverse.f x = some (iv x) := by
  unfold iv; rw [Pure.inverse_P x hx.1 (by have := hx.2; omega)]; rfl
theorem in_iv {x : Int} (hx : In x) : In (iv x) := by
  unfold iv; rw [Pure.inverse_P x hx.1 (by have := hx.2; omega)]
  exact ⟨Int.emod_nonneg _ (by decide), Int.emod_lt_of_pos _ (by decide)⟩
theorem inv_c {x : Int} (hx : In x) (w : World) : Calls Try.prog 16 #[.agg #[.int .u64 x]] w fun e w' => e = .returned (.agg #[.int .u64 (iv x)]) ∧ Below w.heap.size w w' :=
  impl_num_impl_fieldP_inverse.calls x _ w (inv_eq hx)
theorem in_rhs (x : Int) : In (Pure.rhs x) := by unfold In Pure.rhs; omega
theorem curve_c {x : Int} (hx : In x) (w : World) : Calls Try.prog 17 #[.agg #[.int .u64 x]] w fun e w' => e = .returned (.agg #[.int .u64 (Pure.rhs x)]) ∧ Below w.heap.size w w' :=
  impl_curveAt.calls 10 x _ w (Pure.curveAt_P x hx.1 hx.2 (by omega))

theorem set3 {W : World} {r : Nat} {u1 u2 u3 a b c : Value} (h : W.heap[r]? = some (.cells #[u1, u2, u3] 24 (0, 0))) : (((W.setCell ⟨r, 0, none⟩ a).setCell ⟨r, 1, none⟩ b).setCell ⟨r, 2, none⟩ c).heap[r]? = some (.cells #[a, b, c] 24 (0, 0)) := by
  have h0 := heap_setCell_same W r 0 _ 24 a h
  have h1 := heap_setCell_same _ r 1 _ 24 b h0
  have h2 := heap_setCell_same _ r 2 _ 24 c h1
  simpa using h2
theorem far1 {W : World} {g r : Nat} {v : Value} {o : Obj} (h : W.heap[r]? = some o) (n : r ≠ g) : (W.setCell ⟨g, 0, none⟩ v).heap[r]? = some o := (Below.heap_setCell _ _ _ _ (fun e => n (by simp [e]))).trans h

theorem store_num' {oi : Oper} {ρ : Operand → Value} {w : World} (x y : Operand) (hop : oi.op = .store 34 x y) (g : Nat) {a : Int} (hx : ρ x = .pointer (some ⟨g, 0, none⟩)) (hy : ρ y = .agg #[.int .u64 a]) {u : Value} (hb : w.heap[g]? = some (.cells #[u] 34 (0, 0))) :
    ∃ w1, (execOp ρ oi).run Try.prog w = .ok .skip w1 ∧ w1.heap[g]? = some (.cells #[.int .u64 a] 34 (0, 0)) ∧ w.grownBy w1 (some g) :=
  ⟨_, store_num x y hop g hx hy hb, heap_set_cells hb, grownBy_setCell' w g _⟩
theorem new4_0 (w : World) (a b c d : Obj) : ((((w.alloc a).alloc b).alloc c).alloc d).heap[w.heap.size]? = some a := by
  rw [heap_alloc_old _ _ (by simp <;> omega), heap_alloc_old _ _ (by simp <;> omega), heap_alloc_old _ _ (by simp), heap_alloc_new]
theorem new4_1 (w : World) (a b c d : Obj) : ((((w.alloc a).alloc b).alloc c).alloc d).heap[w.heap.size + 1]? = some b := by
  rw [heap_alloc_old _ _ (by simp <;> omega), heap_alloc_old _ _ (by simp)]
  have := heap_alloc_new (w.alloc a) b; rwa [World.size_alloc] at this
theorem new4_2 (w : World) (a b c d : Obj) : ((((w.alloc a).alloc b).alloc c).alloc d).heap[w.heap.size + 1 + 1]? = some c := by
  rw [heap_alloc_old _ _ (by simp)]
  have := heap_alloc_new ((w.alloc a).alloc b) c; simpa only [World.size_alloc] using this
theorem new4_3 (w : World) (a b c d : Obj) : ((((w.alloc a).alloc b).alloc c).alloc d).heap[w.heap.size + 1 + 1 + 1]? = some d := by
  have := heap_alloc_new (((w.alloc a).alloc b).alloc c) d; simpa only [World.size_alloc] using this
theorem newB4 (w : World) (a b c d : Obj) : Below w.heap.size w ((((w.alloc a).alloc b).alloc c).alloc d) :=
  ((((Below.refl _ w).alloc (Nat.le_refl _) _).alloc (by simp) _).alloc (by simp <;> omega) _).alloc (by simp <;> omega) _
theorem new2_0 (w : World) (o1 o2 : Obj) : ((w.alloc o1).alloc o2).heap[w.heap.size]? = some o1 := by rw [heap_alloc_old _ _ (by simp), heap_alloc_new]
theorem new2_1 (w : World) (o1 o2 : Obj) : ((w.alloc o1).alloc o2).heap[w.heap.size + 1]? = some o2 := by
  have := heap_alloc_new (w.alloc o1) o2; rwa [World.size_alloc] at this
theorem newB2 (w : World) (o1 o2 : Obj) : Below w.heap.size w ((w.alloc o1).alloc o2) := ((Below.refl _ w).alloc (Nat.le_refl _) _).alloc (by simp) _
theorem i_lit (n : Int) (h : 0 ≤ n := by decide) (h' : n < 2305843009213693951 := by decide) : In n := ⟨h, h'⟩

/-- what the end gives -/
def yy (u y : Int) : Int := if u % 2 = 1 then ng y else y

set_option maxRecDepth 100000 in
set_option maxHeartbeats 4000000 in
theorem found {w W : World} {x y u : Int} (hu : In u) (hy : In y) {gr gw gx gy : Nat} {s0 s1 s4 s5 s6 s7 s8 s11 s12 s13 s14 s15 s16 s17 s18 s19 s20 s21 s22 s23 s24 s25 s26 s27 s28 s29 s30 s31 s32 s33 s34 s35 s36 s37 s38 s39 s40 s41 s42 s43 s44 s45 s46 s47 s48 s49 s50 s51 s52 s53 s54 s55 s56 s57 s58 s59 s60 s61 s62 s63 s64 s65 s66 s67 s68 s69 s70 s71 s72 : Value}
    (hr : W.heap[gr]? = some (.cells #[.int .u64 0, .int .u64 0, .bool false] 24 (0, 0))) (hw_ : W.heap[gw]? = some (.cells #[.int .u64 u] 34 (0, 0)))
    (hx_ : W.heap[gx]? = some (.cells #[.int .u64 x] 34 (0, 0))) (hy_ : W.heap[gy]? = some (.cells #[.int .u64 y] 34 (0, 0)))
    (n1 : gr ≠ gy) (n2 : gx ≠ gy) (n3 : gr ≠ gx) (l1 : w.heap.size ≤ gr) (l2 : w.heap.size ≤ gy) (hB : Below w.heap.size w W)
    {Q : Exit → Act → World → Prop} (hQ : ∀ a W', a.eval (.tmp 2) = .pointer (some ⟨gr, 0, none⟩) → a.defers = [] → W'.heap[gr]? = some (.cells #[.int .u64 x, .int .u64 (yy u y), .bool false] 24 (0, 0)) → Below w.heap.size w W' → Q .ret a W') :
    (behind 2).wp Try.prog Q { tmps := List.toArray (s0 :: s1 :: .pointer (some ⟨gr, 0, none⟩) :: .pointer (some ⟨gw, 0, none⟩) :: s4 :: s5 :: s6 :: s7 :: s8 :: .pointer (some ⟨gx, 0, none⟩) :: .pointer (some ⟨gy, 0, none⟩) :: s11 :: s12 :: s13 :: s14 :: s15 :: s16 :: s17 :: s18 :: s19 :: s20 :: s21 :: s22 :: s23 :: s24 :: s25 :: s26 :: s27 :: s28 :: s29 :: s30 :: s31 :: s32 :: s33 :: s34 :: s35 :: s36 :: s37 :: s38 :: s39 :: s40 :: s41 :: s42 :: s43 :: s44 :: s45 :: s46 :: s47 :: s48 :: s49 :: s50 :: s51 :: s52 :: s53 :: s54 :: s55 :: s56 :: s57 :: s58 :: s59 :: s60 :: s61 :: s62 :: s63 :: s64 :: s65 :: s66 :: s67 :: s68 :: s69 :: s70 :: s71 :: s72 :: []), defers := [] } W := by
  have huN := Try.underlying34
  have huP := Try.underlying24
  have cu : W.cell? ⟨gw, 0, none⟩ = some (.int .u64 u) := (blk_cell hw_ 0).trans rfl
  have cx : W.cell? ⟨gx, 0, none⟩ = some (.int .u64 x) := (blk_cell hx_ 0).trans rfl
  have cy : W.cell? ⟨gy, 0, none⟩ = some (.int .u64 y) := (blk_cell hy_ 0).trans rfl
  have cr0 : W.cell? ⟨gr, 0, none⟩ = some (.int .u64 0) := (blk_cell hr 0).trans rfl
  have cr1 : W.cell? ⟨gr, 1, none⟩ = some (.int .u64 0) := (blk_cell hr 1).trans rfl
  have cr2 : W.cell? ⟨gr, 2, none⟩ = some (.bool false) := (blk_cell hr 2).trans rfl
  have fr0 : W.frozen? ⟨gr, 0, none⟩ = false := frozen_of_row W gr 0 _ _ hr
  have fr1 : W.frozen? ⟨gr, 1, none⟩ = false := frozen_of_row W gr 1 _ _ hr
  have fr2 : W.frozen? ⟨gr, 2, none⟩ = false := frozen_of_row W gr 2 _ _ hr
  have fy : W.frozen? ⟨gy, 0, none⟩ = false := frozen_of_row W gy 0 _ _ hy_
  have hr' := Aside0.mk hr
  have hx' := Aside0.mk hx_
  have hy' := Aside0.mk hy_
  have hB' := Aside0.mk hB
  have hQ' := Aside0.mk hQ
  clear hr hx_ hy_ hw_ hB hQ
  have hm : Int.tmod u 2 = u % 2 := Int.tmod_eq_emod_of_nonneg hu.1
  by_cases c : u % 2 = 1
  · have c1 : (Int.tmod u 2 == 1) = true := by rw [hm]; simpa using c
    have ey : yy u y = ng y := if_pos c
    rw [ey] at hQ'
    clear c hm ey
    unfold behind c0 Try.f5
    simp only [findLabel]
    go_wp2_with (go_at_call 15; (with_reducible refine (neg_c hy _).mono ?_); rintro e w2 ⟨rfl, hb2⟩; have hr2 := (hb2.block _ (lt_of_heap hr'.out)).trans hr'.out; have hx2 := (hb2.block _ (lt_of_heap hx'.out)).trans hx'.out; have hy2 := (hb2.block _ (lt_of_heap hy'.out)).trans hy'.out; have hB2 := Aside0.mk (hB'.out.trans (hb2.mono hB'.out.size)); have dx : w2.cell? ⟨gx, 0, none⟩ = some (.int .u64 x) := (blk_cell hx2 0).trans rfl; have dy : w2.cell? ⟨gy, 0, none⟩ = some (.int .u64 y) := (blk_cell hy2 0).trans rfl; have dr0 : w2.cell? ⟨gr, 0, none⟩ = some (.int .u64 0) := (blk_cell hr2 0).trans rfl; have dr1 : w2.cell? ⟨gr, 1, none⟩ = some (.int .u64 0) := (blk_cell hr2 1).trans rfl; have dr2 : w2.cell? ⟨gr, 2, none⟩ = some (.bool false) := (blk_cell hr2 2).trans rfl; have er0 : w2.frozen? ⟨gr, 0, none⟩ = false := frozen_of_row w2 gr 0 _ _ hr2; have er1 : w2.frozen? ⟨gr, 1, none⟩ = false := frozen_of_row w2 gr 1 _ _ hr2; have er2 : w2.frozen? ⟨gr, 2, none⟩ = false := frozen_of_row w2 gr 2 _ _ hr2; have ey : w2.frozen? ⟨gy, 0, none⟩ = false := frozen_of_row w2 gy 0 _ _ hy2; replace hr2 := Aside0.mk hr2; replace hx2 := Aside0.mk hx2; replace hy2 := Aside0.mk hy2; clear hb2)
    refine hQ'.out _ _ rfl rfl (set3 (far1 hr2.out n1)) ?_
    exact (((hB2.out.setCell l2 _).setCell l1 _).setCell l1 _).setCell l1 _
  · have c1 : (Int.tmod u 2 == 1) = false := by rw [hm]; simpa using c
    have ey : yy u y = y := if_neg c
    rw [ey] at hQ'
    clear c hm ey
    unfold behind c0 Try.f5
    simp only [findLabel]
    go_wp2
    refine hQ'.out _ _ rfl rfl (set3 hr'.out) ?_
    exact ((hB'.out.setCell l1 _).setCell l1 _).setCell l1 _
/-- the x that has a root, and the root there -/
def fx (z x : Int) : Int := if rk (Pure.rhs x) = true then x else tm z x
def fy (z x : Int) : Int := ry (Pure.rhs (fx z x))

set_option maxRecDepth 100000 in
set_option maxHeartbeats 8000000 in
theorem first {w W : World} {x z u : Int} (hu : In u) (hx : In x) (hz : In z) {gr gw gz gx gy : Nat} {s0 s1 s4 s5 s6 s8 s11 s12 s13 s14 s15 s16 s17 s18 s19 s20 s21 s22 s23 s24 s25 s26 s27 s28 s29 s30 s31 s32 s33 s34 s35 s36 s37 s38 s39 s40 s41 s42 s43 s44 s45 s46 s47 s48 s49 s50 s51 s52 s53 s54 s55 s56 s57 s58 s59 s60 s61 s62 s63 s64 s65 s66 s67 s68 s69 s70 s71 s72 : Value} {y0 : Int}
    (Hgr : W.heap[gr]? = some (.cells #[.int .u64 0, .int .u64 0, .bool false] 24 (0, 0))) (Hgw : W.heap[gw]? = some (.cells #[.int .u64 u] 34 (0, 0))) (Hgz : W.heap[gz]? = some (.cells #[.int .u64 z] 34 (0, 0)))
    (Hgx : W.heap[gx]? = some (.cells #[.int .u64 x] 34 (0, 0))) (Hgy : W.heap[gy]? = some (.cells #[.int .u64 y0] 34 (0, 0)))
    (n1 : gr ≠ gy) (n2 : gx ≠ gy) (n3 : gr ≠ gx) (n4 : gw ≠ gy) (n5 : gz ≠ gy) (n6 : gw ≠ gx) (n7 : gz ≠ gx) (l1 : w.heap.size ≤ gr) (l2 : w.heap.size ≤ gy) (l3 : w.heap.size ≤ gx) (hB : Below w.heap.size w W)
    {Q Q' : Exit → Act → World → Prop} (hQ : ∀ a W', a.eval (.tmp 2) = .pointer (some ⟨gr, 0, none⟩) → a.defers = [] → W'.heap[gr]? = some (.cells #[.int .u64 (fx z x), .int .u64 (yy u (fy z x)), .bool false] 24 (0, 0)) → Below w.heap.size w W' → Q .ret a W')
    (hQ' : ∀ a W', a.eval (.tmp 2) = .pointer (some ⟨gr, 0, none⟩) → a.defers = [] → W'.heap[gr]? = some (.cells #[.int .u64 (fx z x), .int .u64 (yy u (fy z x)), .bool false] 24 (0, 0)) → Below w.heap.size w W' → Q' .ret a W') :
    (behind 1).wp Try.prog (fwd Try.prog c0 Q' Q) { tmps := List.toArray (s0 :: s1 :: .pointer (some ⟨gr, 0, none⟩) :: .pointer (some ⟨gw, 0, none⟩) :: s4 :: s5 :: s6 :: .pointer (some ⟨gz, 0, none⟩) :: s8 :: .pointer (some ⟨gx, 0, none⟩) :: .pointer (some ⟨gy, 0, none⟩) :: s11 :: s12 :: s13 :: s14 :: s15 :: s16 :: s17 :: s18 :: s19 :: s20 :: s21 :: s22 :: s23 :: s24 :: s25 :: s26 :: s27 :: s28 :: s29 :: s30 :: s31 :: s32 :: s33 :: s34 :: s35 :: s36 :: s37 :: s38 :: s39 :: s40 :: s41 :: s42 :: s43 :: s44 :: s45 :: s46 :: s47 :: s48 :: s49 :: s50 :: s51 :: s52 :: s53 :: s54 :: s55 :: s56 :: s57 :: s58 :: s59 :: s60 :: s61 :: s62 :: s63 :: s64 :: s65 :: s66 :: s67 :: s68 :: s69 :: s70 :: s71 :: s72 :: []), defers := [] } W := by
  have huN := Try.underlying34
  have huP := Try.underlying24
  replace hQ := Aside0.mk hQ
  replace hQ' := Aside0.mk hQ'
  replace hB := Aside0.mk hB
  replace Hgr := Aside0.mk Hgr
  replace Hgw := Aside0.mk Hgw
  replace Hgz := Aside0.mk Hgz
  replace Hgx := Aside0.mk Hgx
  replace Hgy := Aside0.mk Hgy
  unfold behind c0 Try.f5
  simp only [findLabel]
  refine wp_seq_k fun K hK => ?_
  replace hK := Aside0.mk hK
  have cgx0_W : W.cell? ⟨gx, 0, none⟩ = some (.int .u64 x) := (blk_cell Hgx.out 0).trans rfl
  have fgx0_W : W.frozen? ⟨gx, 0, none⟩ = false := frozen_of_row W gx 0 _ _ Hgx.out
  have cgy0_W : W.cell? ⟨gy, 0, none⟩ = some (.int .u64 y0) := (blk_cell Hgy.out 0).trans rfl
  have fgy0_W : W.frozen? ⟨gy, 0, none⟩ = false := frozen_of_row W gy 0 _ _ Hgy.out
  go_wp2_with (first | (go_at_call 17; (with_reducible refine (curve_c hx _).mono ?_); rintro e w2 ⟨rfl, hb_⟩; have Ngr : w2.heap[gr]? = some (.cells #[.int .u64 0, .int .u64 0, .bool false] 24 (0, 0)) := (hb_.block _ (lt_of_heap Hgr.out)).trans Hgr.out; have Ngw : w2.heap[gw]? = some (.cells #[.int .u64 u] 34 (0, 0)) := (hb_.block _ (lt_of_heap Hgw.out)).trans Hgw.out; have Ngz : w2.heap[gz]? = some (.cells #[.int .u64 z] 34 (0, 0)) := (hb_.block _ (lt_of_heap Hgz.out)).trans Hgz.out; have Ngx : w2.heap[gx]? = some (.cells #[.int .u64 x] 34 (0, 0)) := (hb_.block _ (lt_of_heap Hgx.out)).trans Hgx.out; have Ngy : w2.heap[gy]? = some (.cells #[.int .u64 y0] 34 (0, 0)) := (hb_.block _ (lt_of_heap Hgy.out)).trans Hgy.out; clear Hgr Hgw Hgz Hgx Hgy; have Hgr := Aside0.mk Ngr; have Hgw := Aside0.mk Ngw; have Hgz := Aside0.mk Ngz; have Hgx := Aside0.mk Ngx; have Hgy := Aside0.mk Ngy; clear Ngr Ngw Ngz Ngx Ngy; have hB1 := Aside0.mk (hB.out.trans (hb_.mono hB.out.size)); clear hB; have hB := hB1; clear hB1; clear hb_; have cgx0_w2 : w2.cell? ⟨gx, 0, none⟩ = some (.int .u64 x) := (blk_cell Hgx.out 0).trans rfl; have fgx0_w2 : w2.frozen? ⟨gx, 0, none⟩ = false := frozen_of_row w2 gx 0 _ _ Hgx.out; have cgy0_w2 : w2.cell? ⟨gy, 0, none⟩ = some (.int .u64 y0) := (blk_cell Hgy.out 0).trans rfl; have fgy0_w2 : w2.frozen? ⟨gy, 0, none⟩ = false := frozen_of_row w2 gy 0 _ _ Hgy.out) | (go_at_call 18; (with_reducible refine (root_c (in_rhs x) _).mono ?_); rintro e w3 ⟨rfl, hb_⟩; have Ngr : w3.heap[gr]? = some (.cells #[.int .u64 0, .int .u64 0, .bool false] 24 (0, 0)) := (hb_.block _ (lt_of_heap Hgr.out)).trans Hgr.out; have Ngw : w3.heap[gw]? = some (.cells #[.int .u64 u] 34 (0, 0)) := (hb_.block _ (lt_of_heap Hgw.out)).trans Hgw.out; have Ngz : w3.heap[gz]? = some (.cells #[.int .u64 z] 34 (0, 0)) := (hb_.block _ (lt_of_heap Hgz.out)).trans Hgz.out; have Ngx : w3.heap[gx]? = some (.cells #[.int .u64 x] 34 (0, 0)) := (hb_.block _ (lt_of_heap Hgx.out)).trans Hgx.out; have Ngy : w3.heap[gy]? = some (.cells #[.int .u64 y0] 34 (0, 0)) := (hb_.block _ (lt_of_heap Hgy.out)).trans Hgy.out; clear Hgr Hgw Hgz Hgx Hgy; have Hgr := Aside0.mk Ngr; have Hgw := Aside0.mk Ngw; have Hgz := Aside0.mk Ngz; have Hgx := Aside0.mk Ngx; have Hgy := Aside0.mk Ngy; clear Ngr Ngw Ngz Ngx Ngy; have hB1 := Aside0.mk (hB.out.trans (hb_.mono hB.out.size)); clear hB; have hB := hB1; clear hB1; clear hb_; have cgx0_w3 : w3.cell? ⟨gx, 0, none⟩ = some (.int .u64 x) := (blk_cell Hgx.out 0).trans rfl; have fgx0_w3 : w3.frozen? ⟨gx, 0, none⟩ = false := frozen_of_row w3 gx 0 _ _ Hgx.out; have cgy0_w3 : w3.cell? ⟨gy, 0, none⟩ = some (.int .u64 y0) := (blk_cell Hgy.out 0).trans rfl; have fgy0_w3 : w3.frozen? ⟨gy, 0, none⟩ = false := frozen_of_row w3 gy 0 _ _ Hgy.out))
  refine hK.out _ _ ?_
  clear hK K
  clear cgx0_W fgx0_W cgy0_W fgy0_W
  clear cgx0_w2 fgx0_w2 cgy0_w2 fgy0_w2
  clear cgx0_w3 fgx0_w3 cgy0_w3 fgy0_w3
  have Ngr : (w3.setCell ⟨gy, 0, none⟩ (.int .u64 (ry (Pure.rhs x)))).heap[gr]? = some (.cells #[.int .u64 0, .int .u64 0, .bool false] 24 (0, 0)) := far1 Hgr.out (n1)
  have Ngw : (w3.setCell ⟨gy, 0, none⟩ (.int .u64 (ry (Pure.rhs x)))).heap[gw]? = some (.cells #[.int .u64 u] 34 (0, 0)) := far1 Hgw.out (n4)
  have Ngz : (w3.setCell ⟨gy, 0, none⟩ (.int .u64 (ry (Pure.rhs x)))).heap[gz]? = some (.cells #[.int .u64 z] 34 (0, 0)) := far1 Hgz.out (n5)
  have Ngx : (w3.setCell ⟨gy, 0, none⟩ (.int .u64 (ry (Pure.rhs x)))).heap[gx]? = some (.cells #[.int .u64 x] 34 (0, 0)) := far1 Hgx.out (n2)
  have Ngy : (w3.setCell ⟨gy, 0, none⟩ (.int .u64 (ry (Pure.rhs x)))).heap[gy]? = some (.cells #[.int .u64 (ry (Pure.rhs x))] 34 (0, 0)) := heap_set_cells Hgy.out
  have hB1 : Below w.heap.size w (w3.setCell ⟨gy, 0, none⟩ (.int .u64 (ry (Pure.rhs x)))) := hB.out.setCell l2 _
  clear hB Hgr Hgw Hgz Hgx Hgy
  generalize w3.setCell ⟨gy, 0, none⟩ (.int .u64 (ry (Pure.rhs x))) = V1 at *
  have Hgr := Aside0.mk Ngr
  have Hgw := Aside0.mk Ngw
  have Hgz := Aside0.mk Ngz
  have Hgx := Aside0.mk Ngx
  have Hgy := Aside0.mk Ngy
  have hB := Aside0.mk hB1
  clear hB1 Ngr Ngw Ngz Ngx Ngy
  refine wp_seq ?_
  by_cases hk : rk (Pure.rhs x) = true
  · have e1 : fx z x = x := if_pos hk
    have e2 : fy z x = ry (Pure.rhs x) := by unfold fy; rw [e1]
    rw [e1, e2] at hQ'
    rw [hk]
    clear hk e1 e2 hQ
    skip
    refine wp_seq_k fun K hK => ?_
    replace hK := Aside0.mk hK
    go_wp2
    refine hK.out _ _ ?_
    clear hK K
    refine wp_cond_true rfl ?_
    refine wp_goto ?_
    dsimp only [Exit.then]
    refine fwd_go find2 ?_
    refine wp_seq ?_
    refine wp_skip ?_
    dsimp only [Exit.then]
    exact found hu (in_ry (in_rhs _)) Hgr.out Hgw.out Hgx.out Hgy.out n1 n2 n3 l1 l2 hB.out hQ'.out
  · have e1 : fx z x = tm z x := if_neg hk
    have e2 : fy z x = ry (Pure.rhs (tm z x)) := by unfold fy; rw [e1]
    rw [e1, e2] at hQ
    have hk' : rk (Pure.rhs x) = false := by simpa using hk
    rw [hk']
    clear hk hk' e1 e2 hQ'
    refine wp_seq_k fun K hK => ?_
    replace hK := Aside0.mk hK
    go_wp2
    refine hK.out _ _ ?_
    clear hK K
    refine wp_cond_false rfl ?_
    refine wp_skip ?_
    dsimp only [Exit.then]
    refine wp_seq_k fun K hK => ?_
    replace hK := Aside0.mk hK
    have cgz0_V1 : V1.cell? ⟨gz, 0, none⟩ = some (.int .u64 z) := (blk_cell Hgz.out 0).trans rfl
    have fgz0_V1 : V1.frozen? ⟨gz, 0, none⟩ = false := frozen_of_row V1 gz 0 _ _ Hgz.out
    have cgx0_V1 : V1.cell? ⟨gx, 0, none⟩ = some (.int .u64 x) := (blk_cell Hgx.out 0).trans rfl
    have fgx0_V1 : V1.frozen? ⟨gx, 0, none⟩ = false := frozen_of_row V1 gx 0 _ _ Hgx.out
    go_wp2_with (go_at_call 13; (with_reducible refine (times_c hz hx _).mono ?_); rintro e w4 ⟨rfl, hb_⟩; have Ngr : w4.heap[gr]? = some (.cells #[.int .u64 0, .int .u64 0, .bool false] 24 (0, 0)) := (hb_.block _ (lt_of_heap Hgr.out)).trans Hgr.out; have Ngw : w4.heap[gw]? = some (.cells #[.int .u64 u] 34 (0, 0)) := (hb_.block _ (lt_of_heap Hgw.out)).trans Hgw.out; have Ngz : w4.heap[gz]? = some (.cells #[.int .u64 z] 34 (0, 0)) := (hb_.block _ (lt_of_heap Hgz.out)).trans Hgz.out; have Ngx : w4.heap[gx]? = some (.cells #[.int .u64 x] 34 (0, 0)) := (hb_.block _ (lt_of_heap Hgx.out)).trans Hgx.out; have Ngy : w4.heap[gy]? = some (.cells #[.int .u64 (ry (Pure.rhs x))] 34 (0, 0)) := (hb_.block _ (lt_of_heap Hgy.out)).trans Hgy.out; clear Hgr Hgw Hgz Hgx Hgy; have Hgr := Aside0.mk Ngr; have Hgw := Aside0.mk Ngw; have Hgz := Aside0.mk Ngz; have Hgx := Aside0.mk Ngx; have Hgy := Aside0.mk Ngy; clear Ngr Ngw Ngz Ngx Ngy; have hB1 := Aside0.mk (hB.out.trans (hb_.mono hB.out.size)); clear hB; have hB := hB1; clear hB1; clear hb_; have cgz0_w4 : w4.cell? ⟨gz, 0, none⟩ = some (.int .u64 z) := (blk_cell Hgz.out 0).trans rfl; have fgz0_w4 : w4.frozen? ⟨gz, 0, none⟩ = false := frozen_of_row w4 gz 0 _ _ Hgz.out; have cgx0_w4 : w4.cell? ⟨gx, 0, none⟩ = some (.int .u64 x) := (blk_cell Hgx.out 0).trans rfl; have fgx0_w4 : w4.frozen? ⟨gx, 0, none⟩ = false := frozen_of_row w4 gx 0 _ _ Hgx.out)
    refine hK.out _ _ ?_
    clear hK K
    clear cgz0_V1 fgz0_V1 cgx0_V1 fgx0_V1
    clear cgz0_w4 fgz0_w4 cgx0_w4 fgx0_w4
    have Ngr : (w4.setCell ⟨gx, 0, none⟩ (.int .u64 (tm z x))).heap[gr]? = some (.cells #[.int .u64 0, .int .u64 0, .bool false] 24 (0, 0)) := far1 Hgr.out (n3)
    have Ngw : (w4.setCell ⟨gx, 0, none⟩ (.int .u64 (tm z x))).heap[gw]? = some (.cells #[.int .u64 u] 34 (0, 0)) := far1 Hgw.out (n6)
    have Ngz : (w4.setCell ⟨gx, 0, none⟩ (.int .u64 (tm z x))).heap[gz]? = some (.cells #[.int .u64 z] 34 (0, 0)) := far1 Hgz.out (n7)
    have Ngx : (w4.setCell ⟨gx, 0, none⟩ (.int .u64 (tm z x))).heap[gx]? = some (.cells #[.int .u64 (tm z x)] 34 (0, 0)) := heap_set_cells Hgx.out
    have Ngy : (w4.setCell ⟨gx, 0, none⟩ (.int .u64 (tm z x))).heap[gy]? = some (.cells #[.int .u64 (ry (Pure.rhs x))] 34 (0, 0)) := far1 Hgy.out (n2.symm)
    have hB1 : Below w.heap.size w (w4.setCell ⟨gx, 0, none⟩ (.int .u64 (tm z x))) := hB.out.setCell l3 _
    clear hB Hgr Hgw Hgz Hgx Hgy
    generalize w4.setCell ⟨gx, 0, none⟩ (.int .u64 (tm z x)) = V2 at *
    have Hgr := Aside0.mk Ngr
    have Hgw := Aside0.mk Ngw
    have Hgz := Aside0.mk Ngz
    have Hgx := Aside0.mk Ngx
    have Hgy := Aside0.mk Ngy
    have hB := Aside0.mk hB1
    clear hB1 Ngr Ngw Ngz Ngx Ngy
    refine wp_seq_k fun K hK => ?_
    replace hK := Aside0.mk hK
    have cgx0_V2 : V2.cell? ⟨gx, 0, none⟩ = some (.int .u64 (tm z x)) := (blk_cell Hgx.out 0).trans rfl
    have fgx0_V2 : V2.frozen? ⟨gx, 0, none⟩ = false := frozen_of_row V2 gx 0 _ _ Hgx.out
    have cgy0_V2 : V2.cell? ⟨gy, 0, none⟩ = some (.int .u64 (ry (Pure.rhs x))) := (blk_cell Hgy.out 0).trans rfl
    have fgy0_V2 : V2.frozen? ⟨gy, 0, none⟩ = false := frozen_of_row V2 gy 0 _ _ Hgy.out
    go_wp2_with (first | (go_at_call 17; (with_reducible refine (curve_c (in_tm z x) _).mono ?_); rintro e w5 ⟨rfl, hb_⟩; have Ngr : w5.heap[gr]? = some (.cells #[.int .u64 0, .int .u64 0, .bool false] 24 (0, 0)) := (hb_.block _ (lt_of_heap Hgr.out)).trans Hgr.out; have Ngw : w5.heap[gw]? = some (.cells #[.int .u64 u] 34 (0, 0)) := (hb_.block _ (lt_of_heap Hgw.out)).trans Hgw.out; have Ngz : w5.heap[gz]? = some (.cells #[.int .u64 z] 34 (0, 0)) := (hb_.block _ (lt_of_heap Hgz.out)).trans Hgz.out; have Ngx : w5.heap[gx]? = some (.cells #[.int .u64 (tm z x)] 34 (0, 0)) := (hb_.block _ (lt_of_heap Hgx.out)).trans Hgx.out; have Ngy : w5.heap[gy]? = some (.cells #[.int .u64 (ry (Pure.rhs x))] 34 (0, 0)) := (hb_.block _ (lt_of_heap Hgy.out)).trans Hgy.out; clear Hgr Hgw Hgz Hgx Hgy; have Hgr := Aside0.mk Ngr; have Hgw := Aside0.mk Ngw; have Hgz := Aside0.mk Ngz; have Hgx := Aside0.mk Ngx; have Hgy := Aside0.mk Ngy; clear Ngr Ngw Ngz Ngx Ngy; have hB1 := Aside0.mk (hB.out.trans (hb_.mono hB.out.size)); clear hB; have hB := hB1; clear hB1; clear hb_; have cgx0_w5 : w5.cell? ⟨gx, 0, none⟩ = some (.int .u64 (tm z x)) := (blk_cell Hgx.out 0).trans rfl; have fgx0_w5 : w5.frozen? ⟨gx, 0, none⟩ = false := frozen_of_row w5 gx 0 _ _ Hgx.out; have cgy0_w5 : w5.cell? ⟨gy, 0, none⟩ = some (.int .u64 (ry (Pure.rhs x))) := (blk_cell Hgy.out 0).trans rfl; have fgy0_w5 : w5.frozen? ⟨gy, 0, none⟩ = false := frozen_of_row w5 gy 0 _ _ Hgy.out) | (go_at_call 18; (with_reducible refine (root_c (in_rhs (tm z x)) _).mono ?_); rintro e w6 ⟨rfl, hb_⟩; have Ngr : w6.heap[gr]? = some (.cells #[.int .u64 0, .int .u64 0, .bool false] 24 (0, 0)) := (hb_.block _ (lt_of_heap Hgr.out)).trans Hgr.out; have Ngw : w6.heap[gw]? = some (.cells #[.int .u64 u] 34 (0, 0)) := (hb_.block _ (lt_of_heap Hgw.out)).trans Hgw.out; have Ngz : w6.heap[gz]? = some (.cells #[.int .u64 z] 34 (0, 0)) := (hb_.block _ (lt_of_heap Hgz.out)).trans Hgz.out; have Ngx : w6.heap[gx]? = some (.cells #[.int .u64 (tm z x)] 34 (0, 0)) := (hb_.block _ (lt_of_heap Hgx.out)).trans Hgx.out; have Ngy : w6.heap[gy]? = some (.cells #[.int .u64 (ry (Pure.rhs x))] 34 (0, 0)) := (hb_.block _ (lt_of_heap Hgy.out)).trans Hgy.out; clear Hgr Hgw Hgz Hgx Hgy; have Hgr := Aside0.mk Ngr; have Hgw := Aside0.mk Ngw; have Hgz := Aside0.mk Ngz; have Hgx := Aside0.mk Ngx; have Hgy := Aside0.mk Ngy; clear Ngr Ngw Ngz Ngx Ngy; have hB1 := Aside0.mk (hB.out.trans (hb_.mono hB.out.size)); clear hB; have hB := hB1; clear hB1; clear hb_; have cgx0_w6 : w6.cell? ⟨gx, 0, none⟩ = some (.int .u64 (tm z x)) := (blk_cell Hgx.out 0).trans rfl; have fgx0_w6 : w6.frozen? ⟨gx, 0, none⟩ = false := frozen_of_row w6 gx 0 _ _ Hgx.out; have cgy0_w6 : w6.cell? ⟨gy, 0, none⟩ = some (.int .u64 (ry (Pure.rhs x))) := (blk_cell Hgy.out 0).trans rfl; have fgy0_w6 : w6.frozen? ⟨gy, 0, none⟩ = false := frozen_of_row w6 gy 0 _ _ Hgy.out))
    refine hK.out _ _ ?_
    clear hK K
    clear cgx0_V2 fgx0_V2 cgy0_V2 fgy0_V2
    clear cgx0_w5 fgx0_w5 cgy0_w5 fgy0_w5
    clear cgx0_w6 fgx0_w6 cgy0_w6 fgy0_w6
    have Ngr : (w6.setCell ⟨gy, 0, none⟩ (.int .u64 (ry (Pure.rhs (tm z x))))).heap[gr]? = some (.cells #[.int .u64 0, .int .u64 0, .bool false] 24 (0, 0)) := far1 Hgr.out (n1)
    have Ngw : (w6.setCell ⟨gy, 0, none⟩ (.int .u64 (ry (Pure.rhs (tm z x))))).heap[gw]? = some (.cells #[.int .u64 u] 34 (0, 0)) := far1 Hgw.out (n4)
    have Ngz : (w6.setCell ⟨gy, 0, none⟩ (.int .u64 (ry (Pure.rhs (tm z x))))).heap[gz]? = some (.cells #[.int .u64 z] 34 (0, 0)) := far1 Hgz.out (n5)
    have Ngx : (w6.setCell ⟨gy, 0, none⟩ (.int .u64 (ry (Pure.rhs (tm z x))))).heap[gx]? = some (.cells #[.int .u64 (tm z x)] 34 (0, 0)) := far1 Hgx.out (n2)
    have Ngy : (w6.setCell ⟨gy, 0, none⟩ (.int .u64 (ry (Pure.rhs (tm z x))))).heap[gy]? = some (.cells #[.int .u64 (ry (Pure.rhs (tm z x)))] 34 (0, 0)) := heap_set_cells Hgy.out
    have hB1 : Below w.heap.size w (w6.setCell ⟨gy, 0, none⟩ (.int .u64 (ry (Pure.rhs (tm z x))))) := hB.out.setCell l2 _
    clear hB Hgr Hgw Hgz Hgx Hgy
    generalize w6.setCell ⟨gy, 0, none⟩ (.int .u64 (ry (Pure.rhs (tm z x)))) = V3 at *
    have Hgr := Aside0.mk Ngr
    have Hgw := Aside0.mk Ngw
    have Hgz := Aside0.mk Ngz
    have Hgx := Aside0.mk Ngx
    have Hgy := Aside0.mk Ngy
    have hB := Aside0.mk hB1
    clear hB1 Ngr Ngw Ngz Ngx Ngy
    refine wp_seq ?_
    refine wp_label ?_
    dsimp only [Exit.then]
    exact found hu (in_ry (in_rhs _)) Hgr.out Hgw.out Hgx.out Hgy.out n1 n2 n3 l1 l2 hB.out hQ.out
/-- zu, t and the first x -/
def wN (u : Int) : Int := u % 2305843009213693951
def zN (u : Int) : Int := tm (tm 2305843009213693949 (wN u)) (wN u)
def tN (u : Int) : Int := ad (tm (zN u) (zN u)) (zN u)
def xN (u : Int) : Int := if tN u = 0 then tm 111 (iv (tm 2305843009213693949 2305843009213693948)) else tm (tm (ng 111) (iv 2305843009213693948)) (ad 1 (iv (tN u)))
theorem in_wN (u : Int) : In (wN u) := by unfold In wN; omega
theorem of_c {u : Int} (h0 : 0 ≤ u) (w : World) : Calls Try.prog 12 #[.int .u64 u] w fun e w' => e = .returned (.agg #[.int .u64 (wN u)]) ∧ Below w.heap.size w w' := numOf_fieldP u h0 w
theorem tab5_3 : rtab .any (opsOf Try.f5 3) = (rtab .any (opsOf Try.f5 3)) := rfl
theorem bits5_3 : waitsOk (rtab .any (opsOf Try.f5 3)).2 [0, 0, 3, 0, 15, 0, 63] = true := by kernel_rfl
theorem tab5_4 : rtab .any (opsOf Try.f5 4) = (rtab .any (opsOf Try.f5 4)) := rfl
theorem bits5_4 : waitsOk (rtab .any (opsOf Try.f5 4)).2 [0, 0, 3, 0, 15, 0, 63] = true := by kernel_rfl
theorem tab5_8 : rtab .any (opsOf Try.f5 8) = (rtab .any (opsOf Try.f5 8)) := rfl
theorem bits5_8 : waitsOk (rtab .any (opsOf Try.f5 8)).2 [0, 1, 0, 7, 15, 0, 0, 95, 255, 511, 1023] = true := by kernel_rfl
theorem tab5_9 : rtab .any (opsOf Try.f5 9) = (rtab .any (opsOf Try.f5 9)) := rfl
theorem bits5_9 : waitsOk (rtab .any (opsOf Try.f5 9)).2 [0, 0, 0, 6, 14, 31, 63] = true := by kernel_rfl
set_option maxRecDepth 100000 in
set_option maxHeartbeats 8000000 in
theorem all {u : Int} (h0 : 0 ≤ u) (h1 : u < 18446744073709551616) {w V0 : World} {gr : Nat} (Hgr : V0.heap[gr]? = some (.cells #[.int .u64 0, .int .u64 0, .bool false] 24 (0, 0))) (l1 : w.heap.size ≤ gr) (hB : Below w.heap.size w V0)
    {Q : Exit → Act → World → Prop} (hQ : ∀ a W', a.eval (.tmp 2) = .pointer (some ⟨gr, 0, none⟩) → a.defers = [] → W'.heap[gr]? = some (.cells #[.int .u64 (fx (zN u) (xN u)), .int .u64 (yy (wN u) (fy (zN u) (xN u))), .bool false] 24 (0, 0)) → Below w.heap.size w W' → Q .ret a W') :
    c0.wp Try.prog (fwd Try.prog c0 (fwd Try.prog c0 (fwd Try.prog c0 (Exit.noGoto Q) Q) Q) Q) { tmps := List.toArray (.int .u64 u :: undef :: .pointer (some ⟨gr, 0, none⟩) :: undef :: undef :: undef :: undef :: undef :: undef :: undef :: undef :: undef :: undef :: undef :: undef :: undef :: undef :: undef :: undef :: undef :: undef :: undef :: undef :: undef :: undef :: undef :: undef :: undef :: undef :: undef :: undef :: undef :: undef :: undef :: undef :: undef :: undef :: undef :: undef :: undef :: undef :: undef :: undef :: undef :: undef :: undef :: undef :: undef :: undef :: undef :: undef :: undef :: undef :: undef :: undef :: undef :: undef :: undef :: undef :: undef :: undef :: undef :: undef :: undef :: undef :: undef :: undef :: undef :: undef :: undef :: undef :: undef :: undef :: []), defers := [] } V0 := by
  have huN := Try.underlying34
  have huP := Try.underlying24
  replace hQ := Aside0.mk hQ
  replace hB := Aside0.mk hB
  replace Hgr := Aside0.mk Hgr
  obtain ⟨F, hF⟩ : ∃ F, F = fwd Try.prog c0 (fwd Try.prog c0 (fwd Try.prog c0 (Exit.noGoto Q) Q) Q) Q := ⟨_, rfl⟩
  rw [← hF]
  replace hF := Aside0.mk hF
  unfold c0 Try.f5
  dsimp only
  refine wp_seq_k fun K hK => ?_
  replace hK := Aside0.mk hK
  go_wp2_with (go_at_call 12; (with_reducible refine (of_c h0 _).mono ?_); rintro e w1 ⟨rfl, hb_⟩; have Ngr : w1.heap[gr]? = some (.cells #[.int .u64 0, .int .u64 0, .bool false] 24 (0, 0)) := (hb_.block _ (lt_of_heap Hgr.out)).trans Hgr.out; clear Hgr; have Hgr := Aside0.mk Ngr; clear Ngr; have hB1 := Aside0.mk (hB.out.trans (hb_.mono hB.out.size)); clear hB; have hB := hB1; clear hB1; clear hb_; have cgr0_w1 : w1.cell? ⟨gr, 0, none⟩ = some (.int .u64 0) := (blk_cell Hgr.out 0).trans rfl; have fgr0_w1 : w1.frozen? ⟨gr, 0, none⟩ = false := frozen_of_row w1 gr 0 _ _ Hgr.out; have cgr1_w1 : w1.cell? ⟨gr, 1, none⟩ = some (.int .u64 0) := (blk_cell Hgr.out 1).trans rfl; have fgr1_w1 : w1.frozen? ⟨gr, 1, none⟩ = false := frozen_of_row w1 gr 1 _ _ Hgr.out; have cgr2_w1 : w1.cell? ⟨gr, 2, none⟩ = some (.bool false) := (blk_cell Hgr.out 2).trans rfl; have fgr2_w1 : w1.frozen? ⟨gr, 2, none⟩ = false := frozen_of_row w1 gr 2 _ _ Hgr.out)
  refine hK.out _ _ ?_
  clear hK K
  refine wp_seq_k fun K hK => ?_
  replace hK := Aside0.mk hK
  go_wp2
  refine hK.out _ _ ?_
  clear hK K
  have hq0 := lt_of_heap Hgr.out
  have hq1 := hB.out.size
  have Ngr := ((newB4 w1 _ _ _ _).block gr hq0 : (((((w1.alloc (.cells #[.int .u64 (wN u)] 34)).alloc (.cells #[.int .u64 2305843009213693949] 34)).alloc (.cells #[.int .u64 2305843009213693948] 34)).alloc (.cells #[.int .u64 111] 34))).heap[gr]? = _).trans Hgr.out
  have Ngw : (((((w1.alloc (.cells #[.int .u64 (wN u)] 34)).alloc (.cells #[.int .u64 2305843009213693949] 34)).alloc (.cells #[.int .u64 2305843009213693948] 34)).alloc (.cells #[.int .u64 111] 34))).heap[w1.heap.size]? = some (.cells #[.int .u64 (wN u)] 34 (0, 0)) := new4_0 _ _ _ _ _
  have Ngz : (((((w1.alloc (.cells #[.int .u64 (wN u)] 34)).alloc (.cells #[.int .u64 2305843009213693949] 34)).alloc (.cells #[.int .u64 2305843009213693948] 34)).alloc (.cells #[.int .u64 111] 34))).heap[w1.heap.size + 1]? = some (.cells #[.int .u64 (2305843009213693949)] 34 (0, 0)) := new4_1 _ _ _ _ _
  have Nga : (((((w1.alloc (.cells #[.int .u64 (wN u)] 34)).alloc (.cells #[.int .u64 2305843009213693949] 34)).alloc (.cells #[.int .u64 2305843009213693948] 34)).alloc (.cells #[.int .u64 111] 34))).heap[w1.heap.size + 1 + 1]? = some (.cells #[.int .u64 (2305843009213693948)] 34 (0, 0)) := new4_2 _ _ _ _ _
  have Ngb : (((((w1.alloc (.cells #[.int .u64 (wN u)] 34)).alloc (.cells #[.int .u64 2305843009213693949] 34)).alloc (.cells #[.int .u64 2305843009213693948] 34)).alloc (.cells #[.int .u64 111] 34))).heap[w1.heap.size + 1 + 1 + 1]? = some (.cells #[.int .u64 (111)] 34 (0, 0)) := new4_3 _ _ _ _ _
  have hB1 : Below w.heap.size w (((((w1.alloc (.cells #[.int .u64 (wN u)] 34)).alloc (.cells #[.int .u64 2305843009213693949] 34)).alloc (.cells #[.int .u64 2305843009213693948] 34)).alloc (.cells #[.int .u64 111] 34))) := hB.out.trans ((newB4 w1 _ _ _ _).mono hq1)
  clear hB Hgr
  generalize (((((w1.alloc (.cells #[.int .u64 (wN u)] 34)).alloc (.cells #[.int .u64 2305843009213693949] 34)).alloc (.cells #[.int .u64 2305843009213693948] 34)).alloc (.cells #[.int .u64 111] 34))) = V1 at *
  generalize w1.heap.size = gw at *
  have hB := hB1
  clear hB1
  refine wp_seq_k fun K hK => ?_
  obtain ⟨t19, et19⟩ : ∃ t, t = tm 2305843009213693949 (wN u) := ⟨_, rfl⟩
  have it19 : In t19 := by rw [et19]; exact in_tm _ _
  obtain ⟨t21, et21⟩ : ∃ t, t = tm t19 (wN u) := ⟨_, rfl⟩
  have it21 : In t21 := by rw [et21]; exact in_tm _ _
  obtain ⟨W1, eW1⟩ : ∃ W_, W_ = V1.drew := ⟨_, rfl⟩
  replace Ngr := (show W1.heap[gr]? = V1.heap[gr]? by rw [eW1]; rfl).trans Ngr
  replace Ngw := (show W1.heap[gw]? = V1.heap[gw]? by rw [eW1]; rfl).trans Ngw
  replace Ngz := (show W1.heap[gw + 1]? = V1.heap[gw + 1]? by rw [eW1]; rfl).trans Ngz
  replace Nga := (show W1.heap[gw + 1 + 1]? = V1.heap[gw + 1 + 1]? by rw [eW1]; rfl).trans Nga
  replace Ngb := (show W1.heap[gw + 1 + 1 + 1]? = V1.heap[gw + 1 + 1 + 1]? by rw [eW1]; rfl).trans Ngb
  replace hB : Below w.heap.size w W1 := by rw [eW1]; exact below_drew' hB
  have hr0_ := lt_of_heap Ngr
  have hr1_ := lt_of_heap Ngw
  have hr2_ := lt_of_heap Ngz
  have hr3_ := lt_of_heap Nga
  have hr4_ := lt_of_heap Ngb
  let c : Cfg := ⟨{ tmps := List.toArray (.int .u64 u :: undef :: .pointer (some ⟨gr, 0, none⟩) :: .pointer (some ⟨gw, 0, none⟩) :: .pointer (some ⟨gw + 1, 0, none⟩) :: .pointer (some ⟨gw + 1 + 1, 0, none⟩) :: .pointer (some ⟨gw + 1 + 1 + 1, 0, none⟩) :: undef :: undef :: undef :: undef :: undef :: .int .u64 u :: .agg #[.int .u64 (wN u)] :: .agg #[.int .u64 2305843009213693949] :: .agg #[.int .u64 2305843009213693948] :: .agg #[.int .u64 111] :: undef :: undef :: undef :: undef :: undef :: undef :: undef :: undef :: undef :: undef :: undef :: undef :: undef :: undef :: undef :: undef :: undef :: undef :: undef :: undef :: undef :: undef :: undef :: undef :: undef :: undef :: undef :: undef :: undef :: undef :: undef :: undef :: undef :: undef :: undef :: undef :: undef :: undef :: undef :: undef :: undef :: undef :: undef :: undef :: undef :: undef :: undef :: undef :: undef :: undef :: undef :: undef :: undef :: undef :: undef :: undef :: []), defers := [] }, W1, none, fun G => [(0, 17, .agg #[.int .u64 2305843009213693949]), (1, 18, .agg #[.int .u64 (wN u)]), (2, 19, .agg #[.int .u64 t19]), (3, 20, .agg #[.int .u64 (wN u)]), (4, 21, .agg #[.int .u64 t21]), (5, 7, .pointer (some ⟨G 5, 0, none⟩))], [(5, 6, .int .u64 t21)], 34, []⟩
  refine drawn_region (IB c) (n := 7) rfl rfl tab5_3 bits5_3 (by kernel_rfl) (by kernel_rfl) (by rw [← eW1]; exact (start_IB c (by intro x hx; cases hx))) ?_ (end_IB c (by intro G e he; exact List.all_eq_true.1 (show ((c.L G).all fun e => (List.range 7).contains e.1) = true from rfl) e he) (by intro e he; have := List.all_eq_true.1 (show (c.E.all fun e => (List.range 7).contains e.1 && (List.range 7).contains e.2.1) = true from rfl) e he; simpa using this) (by intro x hx; exact List.all_eq_true.1 (show (c.R.all fun x => (List.range 7).contains x.1) = true from rfl) x hx) ?_)
  · show ∀ i ∈ [0, 1, 2, 3, 4, 5, 6], StepAt _ _ _ _ _ (IB c) i
    refine steps_cons (step_val c 0 0 _ 17 (.agg #[.int .u64 2305843009213693949]) rfl rfl rfl (fun _ => rfl) (fun _ => rfl) rfl rfl (fun G b w_ hon hg => load_num (.tmp 4) rfl (gw + 1) 0 (eval_of ((putSel_off rfl).trans rfl)) ((old_cell hg Ngz nofun 0).trans rfl))) ?_
    refine steps_cons (step_val c 1 1 _ 18 (.agg #[.int .u64 (wN u)]) rfl rfl rfl (fun _ => rfl) (fun _ => rfl) rfl rfl (fun G b w_ hon hg => load_num (.tmp 3) rfl (gw) 0 (eval_of ((putSel_off rfl).trans rfl)) ((old_cell hg Ngw nofun 0).trans rfl))) ?_
    refine steps_cons (step_call c 2 2 _ 19 (.agg #[.int .u64 t19]) rfl rfl rfl (fun _ => rfl) (fun _ => rfl) rfl rfl Try.func13 rfl rfl rfl #[.agg #[.int .u64 2305843009213693949], .agg #[.int .u64 (wN u)]] (fun G b hon => by rw [show (#[.tmp 17, .tmp 18] : Array Operand).map (putSel c.a0 b (c.L G)).eval = #[(putSel c.a0 b (c.L G)).eval (.tmp 17), (putSel c.a0 b (c.L G)).eval (.tmp 18)] from by simp only [List.map_toArray, List.map_cons, List.map_nil], show (putSel c.a0 b (c.L G)).eval (.tmp 17) = .agg #[.int .u64 2305843009213693949] from (eval_of (putSel_on (e := (0, 17, .agg #[.int .u64 2305843009213693949])) 0 rfl rfl (hon 0 rfl) rfl)), show (putSel c.a0 b (c.L G)).eval (.tmp 18) = .agg #[.int .u64 (wN u)] from (eval_of (putSel_on (e := (1, 18, .agg #[.int .u64 (wN u)])) 1 rfl rfl (hon 1 rfl) rfl))]) (fun w_ => by rw [et19]; exact times_c (i_lit 2305843009213693949) (in_wN u) w_)) ?_
    refine steps_cons (step_val c 3 3 _ 20 (.agg #[.int .u64 (wN u)]) rfl rfl rfl (fun _ => rfl) (fun _ => rfl) rfl rfl (fun G b w_ hon hg => load_num (.tmp 3) rfl (gw) 0 (eval_of ((putSel_off rfl).trans rfl)) ((old_cell hg Ngw nofun 0).trans rfl))) ?_
    refine steps_cons (step_call c 4 4 _ 21 (.agg #[.int .u64 t21]) rfl rfl rfl (fun _ => rfl) (fun _ => rfl) rfl rfl Try.func13 rfl rfl rfl #[.agg #[.int .u64 t19], .agg #[.int .u64 (wN u)]] (fun G b hon => by rw [show (#[.tmp 19, .tmp 20] : Array Operand).map (putSel c.a0 b (c.L G)).eval = #[(putSel c.a0 b (c.L G)).eval (.tmp 19), (putSel c.a0 b (c.L G)).eval (.tmp 20)] from by simp only [List.map_toArray, List.map_cons, List.map_nil], show (putSel c.a0 b (c.L G)).eval (.tmp 19) = .agg #[.int .u64 t19] from (eval_of (putSel_on (e := (2, 19, .agg #[.int .u64 t19])) 2 rfl rfl (hon 2 rfl) rfl)), show (putSel c.a0 b (c.L G)).eval (.tmp 20) = .agg #[.int .u64 (wN u)] from (eval_of (putSel_on (e := (3, 20, .agg #[.int .u64 (wN u)])) 3 rfl rfl (hon 3 rfl) rfl))]) (fun w_ => by rw [et21]; exact times_c it19 (in_wN u) w_)) ?_
    refine steps_cons (step_alloc c 5 5 6 _ 7 undef rfl rfl rfl (fun _ => rfl) (fun _ _ => rfl) (fun _ => rfl) rfl rfl rfl (alloc_num rfl)) ?_
    refine steps_cons (step_store c 6 5 _ (.int .u64 t21) rfl rfl rfl (fun _ => rfl) rfl rfl 0 rfl rfl rfl (fun G b w_ hon hb => store_num (.tmp 7) (.tmp 21) rfl (G 5) (eval_of (putSel_on (e := (5, 7, .pointer (some ⟨G 5, 0, none⟩))) 5 rfl rfl (hon 5 rfl) rfl)) (eval_of (putSel_on (e := (4, 21, .agg #[.int .u64 t21])) 4 rfl rfl (hon 4 rfl) rfl)) hb.choose_spec)) ?_
    exact steps_nil
  intro G Y1 hgr hE hR
  obtain ⟨l7_, h7_⟩ := hE (5, 6, .int .u64 t21) (by simp [c])
  dsimp only [c] at l7_ h7_
  replace Ngr := (hgr.block _ (lt_of_heap Ngr) nofun).trans Ngr
  replace Ngw := (hgr.block _ (lt_of_heap Ngw) nofun).trans Ngw
  replace Ngz := (hgr.block _ (lt_of_heap Ngz) nofun).trans Ngz
  replace Nga := (hgr.block _ (lt_of_heap Nga) nofun).trans Nga
  replace Ngb := (hgr.block _ (lt_of_heap Ngb) nofun).trans Ngb
  replace hB := below_none hB hgr
  have ha_ : putAll' c.a0 (c.L G) = { tmps := List.toArray (.int .u64 u :: undef :: .pointer (some ⟨gr, 0, none⟩) :: .pointer (some ⟨gw, 0, none⟩) :: .pointer (some ⟨gw + 1, 0, none⟩) :: .pointer (some ⟨gw + 1 + 1, 0, none⟩) :: .pointer (some ⟨gw + 1 + 1 + 1, 0, none⟩) :: .pointer (some ⟨G 5, 0, none⟩) :: undef :: undef :: undef :: undef :: .int .u64 u :: .agg #[.int .u64 (wN u)] :: .agg #[.int .u64 2305843009213693949] :: .agg #[.int .u64 2305843009213693948] :: .agg #[.int .u64 111] :: .agg #[.int .u64 2305843009213693949] :: .agg #[.int .u64 (wN u)] :: .agg #[.int .u64 t19] :: .agg #[.int .u64 (wN u)] :: .agg #[.int .u64 t21] :: undef :: undef :: undef :: undef :: undef :: undef :: undef :: undef :: undef :: undef :: undef :: undef :: undef :: undef :: undef :: undef :: undef :: undef :: undef :: undef :: undef :: undef :: undef :: undef :: undef :: undef :: undef :: undef :: undef :: undef :: undef :: undef :: undef :: undef :: undef :: undef :: undef :: undef :: undef :: undef :: undef :: undef :: undef :: undef :: undef :: undef :: undef :: undef :: undef :: undef :: undef :: []), defers := [] } := by kernel_rfl
  rw [ha_]
  clear ha_
  refine hK _ _ ?_
  clear hK K
  generalize G 5 = b7 at *
  clear c hE hR hgr hr0_ hr1_ hr2_ hr3_ hr4_ eW1
  refine wp_seq_k fun K hK => ?_
  obtain ⟨t24, et24⟩ : ∃ t, t = tm t21 t21 := ⟨_, rfl⟩
  have it24 : In t24 := by rw [et24]; exact in_tm _ _
  obtain ⟨t26, et26⟩ : ∃ t, t = ad t24 t21 := ⟨_, rfl⟩
  have it26 : In t26 := by rw [et26]; exact in_ad _ _
  obtain ⟨W2, eW2⟩ : ∃ W_, W_ = Y1.drew := ⟨_, rfl⟩
  replace Ngr := (show W2.heap[gr]? = Y1.heap[gr]? by rw [eW2]; rfl).trans Ngr
  replace Ngw := (show W2.heap[gw]? = Y1.heap[gw]? by rw [eW2]; rfl).trans Ngw
  replace Ngz := (show W2.heap[gw + 1]? = Y1.heap[gw + 1]? by rw [eW2]; rfl).trans Ngz
  replace Nga := (show W2.heap[gw + 1 + 1]? = Y1.heap[gw + 1 + 1]? by rw [eW2]; rfl).trans Nga
  replace Ngb := (show W2.heap[gw + 1 + 1 + 1]? = Y1.heap[gw + 1 + 1 + 1]? by rw [eW2]; rfl).trans Ngb
  replace h7_ := (show W2.heap[b7]? = Y1.heap[b7]? by rw [eW2]; rfl).trans h7_
  replace hB : Below w.heap.size w W2 := by rw [eW2]; exact below_drew' hB
  have hr0_ := lt_of_heap Ngr
  have hr1_ := lt_of_heap Ngw
  have hr2_ := lt_of_heap Ngz
  have hr3_ := lt_of_heap Nga
  have hr4_ := lt_of_heap Ngb
  have hr5_ := lt_of_heap h7_
  let c : Cfg := ⟨{ tmps := List.toArray (.int .u64 u :: undef :: .pointer (some ⟨gr, 0, none⟩) :: .pointer (some ⟨gw, 0, none⟩) :: .pointer (some ⟨gw + 1, 0, none⟩) :: .pointer (some ⟨gw + 1 + 1, 0, none⟩) :: .pointer (some ⟨gw + 1 + 1 + 1, 0, none⟩) :: .pointer (some ⟨b7, 0, none⟩) :: undef :: undef :: undef :: undef :: .int .u64 u :: .agg #[.int .u64 (wN u)] :: .agg #[.int .u64 2305843009213693949] :: .agg #[.int .u64 2305843009213693948] :: .agg #[.int .u64 111] :: .agg #[.int .u64 2305843009213693949] :: .agg #[.int .u64 (wN u)] :: .agg #[.int .u64 t19] :: .agg #[.int .u64 (wN u)] :: .agg #[.int .u64 t21] :: undef :: undef :: undef :: undef :: undef :: undef :: undef :: undef :: undef :: undef :: undef :: undef :: undef :: undef :: undef :: undef :: undef :: undef :: undef :: undef :: undef :: undef :: undef :: undef :: undef :: undef :: undef :: undef :: undef :: undef :: undef :: undef :: undef :: undef :: undef :: undef :: undef :: undef :: undef :: undef :: undef :: undef :: undef :: undef :: undef :: undef :: undef :: undef :: undef :: undef :: undef :: []), defers := [] }, W2, none, fun G => [(0, 22, .agg #[.int .u64 t21]), (1, 23, .agg #[.int .u64 t21]), (2, 24, .agg #[.int .u64 t24]), (3, 25, .agg #[.int .u64 t21]), (4, 26, .agg #[.int .u64 t26]), (5, 8, .pointer (some ⟨G 5, 0, none⟩))], [(5, 6, .int .u64 t26)], 34, []⟩
  refine drawn_region (IB c) (n := 7) rfl rfl tab5_4 bits5_4 (by kernel_rfl) (by kernel_rfl) (by rw [← eW2]; exact (start_IB c (by intro x hx; cases hx))) ?_ (end_IB c (by intro G e he; exact List.all_eq_true.1 (show ((c.L G).all fun e => (List.range 7).contains e.1) = true from rfl) e he) (by intro e he; have := List.all_eq_true.1 (show (c.E.all fun e => (List.range 7).contains e.1 && (List.range 7).contains e.2.1) = true from rfl) e he; simpa using this) (by intro x hx; exact List.all_eq_true.1 (show (c.R.all fun x => (List.range 7).contains x.1) = true from rfl) x hx) ?_)
  · show ∀ i ∈ [0, 1, 2, 3, 4, 5, 6], StepAt _ _ _ _ _ (IB c) i
    refine steps_cons (step_val c 0 0 _ 22 (.agg #[.int .u64 t21]) rfl rfl rfl (fun _ => rfl) (fun _ => rfl) rfl rfl (fun G b w_ hon hg => load_num (.tmp 7) rfl (b7) 0 (eval_of ((putSel_off rfl).trans rfl)) ((old_cell hg h7_ nofun 0).trans rfl))) ?_
    refine steps_cons (step_val c 1 1 _ 23 (.agg #[.int .u64 t21]) rfl rfl rfl (fun _ => rfl) (fun _ => rfl) rfl rfl (fun G b w_ hon hg => load_num (.tmp 7) rfl (b7) 0 (eval_of ((putSel_off rfl).trans rfl)) ((old_cell hg h7_ nofun 0).trans rfl))) ?_
    refine steps_cons (step_call c 2 2 _ 24 (.agg #[.int .u64 t24]) rfl rfl rfl (fun _ => rfl) (fun _ => rfl) rfl rfl Try.func13 rfl rfl rfl #[.agg #[.int .u64 t21], .agg #[.int .u64 t21]] (fun G b hon => by rw [show (#[.tmp 22, .tmp 23] : Array Operand).map (putSel c.a0 b (c.L G)).eval = #[(putSel c.a0 b (c.L G)).eval (.tmp 22), (putSel c.a0 b (c.L G)).eval (.tmp 23)] from by simp only [List.map_toArray, List.map_cons, List.map_nil], show (putSel c.a0 b (c.L G)).eval (.tmp 22) = .agg #[.int .u64 t21] from (eval_of (putSel_on (e := (0, 22, .agg #[.int .u64 t21])) 0 rfl rfl (hon 0 rfl) rfl)), show (putSel c.a0 b (c.L G)).eval (.tmp 23) = .agg #[.int .u64 t21] from (eval_of (putSel_on (e := (1, 23, .agg #[.int .u64 t21])) 1 rfl rfl (hon 1 rfl) rfl))]) (fun w_ => by rw [et24]; exact times_c it21 it21 w_)) ?_
    refine steps_cons (step_val c 3 3 _ 25 (.agg #[.int .u64 t21]) rfl rfl rfl (fun _ => rfl) (fun _ => rfl) rfl rfl (fun G b w_ hon hg => load_num (.tmp 7) rfl (b7) 0 (eval_of ((putSel_off rfl).trans rfl)) ((old_cell hg h7_ nofun 0).trans rfl))) ?_
    refine steps_cons (step_call c 4 4 _ 26 (.agg #[.int .u64 t26]) rfl rfl rfl (fun _ => rfl) (fun _ => rfl) rfl rfl Try.func14 rfl rfl rfl #[.agg #[.int .u64 t24], .agg #[.int .u64 t21]] (fun G b hon => by rw [show (#[.tmp 24, .tmp 25] : Array Operand).map (putSel c.a0 b (c.L G)).eval = #[(putSel c.a0 b (c.L G)).eval (.tmp 24), (putSel c.a0 b (c.L G)).eval (.tmp 25)] from by simp only [List.map_toArray, List.map_cons, List.map_nil], show (putSel c.a0 b (c.L G)).eval (.tmp 24) = .agg #[.int .u64 t24] from (eval_of (putSel_on (e := (2, 24, .agg #[.int .u64 t24])) 2 rfl rfl (hon 2 rfl) rfl)), show (putSel c.a0 b (c.L G)).eval (.tmp 25) = .agg #[.int .u64 t21] from (eval_of (putSel_on (e := (3, 25, .agg #[.int .u64 t21])) 3 rfl rfl (hon 3 rfl) rfl))]) (fun w_ => by rw [et26]; exact plus_c it24 it21 w_)) ?_
    refine steps_cons (step_alloc c 5 5 6 _ 8 undef rfl rfl rfl (fun _ => rfl) (fun _ _ => rfl) (fun _ => rfl) rfl rfl rfl (alloc_num rfl)) ?_
    refine steps_cons (step_store c 6 5 _ (.int .u64 t26) rfl rfl rfl (fun _ => rfl) rfl rfl 0 rfl rfl rfl (fun G b w_ hon hb => store_num (.tmp 8) (.tmp 26) rfl (G 5) (eval_of (putSel_on (e := (5, 8, .pointer (some ⟨G 5, 0, none⟩))) 5 rfl rfl (hon 5 rfl) rfl)) (eval_of (putSel_on (e := (4, 26, .agg #[.int .u64 t26])) 4 rfl rfl (hon 4 rfl) rfl)) hb.choose_spec)) ?_
    exact steps_nil
  intro G Y2 hgr hE hR
  obtain ⟨l8_, h8_⟩ := hE (5, 6, .int .u64 t26) (by simp [c])
  dsimp only [c] at l8_ h8_
  replace Ngr := (hgr.block _ (lt_of_heap Ngr) nofun).trans Ngr
  replace Ngw := (hgr.block _ (lt_of_heap Ngw) nofun).trans Ngw
  replace Ngz := (hgr.block _ (lt_of_heap Ngz) nofun).trans Ngz
  replace Nga := (hgr.block _ (lt_of_heap Nga) nofun).trans Nga
  replace Ngb := (hgr.block _ (lt_of_heap Ngb) nofun).trans Ngb
  replace h7_ := (hgr.block _ (lt_of_heap h7_) nofun).trans h7_
  replace hB := below_none hB hgr
  have ha_ : putAll' c.a0 (c.L G) = { tmps := List.toArray (.int .u64 u :: undef :: .pointer (some ⟨gr, 0, none⟩) :: .pointer (some ⟨gw, 0, none⟩) :: .pointer (some ⟨gw + 1, 0, none⟩) :: .pointer (some ⟨gw + 1 + 1, 0, none⟩) :: .pointer (some ⟨gw + 1 + 1 + 1, 0, none⟩) :: .pointer (some ⟨b7, 0, none⟩) :: .pointer (some ⟨G 5, 0, none⟩) :: undef :: undef :: undef :: .int .u64 u :: .agg #[.int .u64 (wN u)] :: .agg #[.int .u64 2305843009213693949] :: .agg #[.int .u64 2305843009213693948] :: .agg #[.int .u64 111] :: .agg #[.int .u64 2305843009213693949] :: .agg #[.int .u64 (wN u)] :: .agg #[.int .u64 t19] :: .agg #[.int .u64 (wN u)] :: .agg #[.int .u64 t21] :: .agg #[.int .u64 t21] :: .agg #[.int .u64 t21] :: .agg #[.int .u64 t24] :: .agg #[.int .u64 t21] :: .agg #[.int .u64 t26] :: undef :: undef :: undef :: undef :: undef :: undef :: undef :: undef :: undef :: undef :: undef :: undef :: undef :: undef :: undef :: undef :: undef :: undef :: undef :: undef :: undef :: undef :: undef :: undef :: undef :: undef :: undef :: undef :: undef :: undef :: undef :: undef :: undef :: undef :: undef :: undef :: undef :: undef :: undef :: undef :: undef :: undef :: undef :: undef :: undef :: undef :: []), defers := [] } := by kernel_rfl
  rw [ha_]
  clear ha_
  refine hK _ _ ?_
  clear hK K
  generalize G 5 = b8 at *
  clear c hE hR hgr hr0_ hr1_ hr2_ hr3_ hr4_ hr5_ eW2
  refine wp_seq_k fun K hK => ?_
  replace hK := Aside0.mk hK
  go_wp2
  refine hK.out _ _ ?_
  clear hK K
  refine wp_seq_k fun K hK => ?_
  replace hK := Aside0.mk hK
  go_wp2
  refine hK.out _ _ ?_
  clear hK K
  have q2_ := lt_of_heap Ngr
  have q3_ := lt_of_heap Ngw
  have q4_ := lt_of_heap Ngz
  have q5_ := lt_of_heap Nga
  have q6_ := lt_of_heap Ngb
  have q7_ := lt_of_heap h7_
  have q8_ := lt_of_heap h8_
  have lx := hB.size
  replace Ngr := ((newB2 Y2 _ _).block (gr) q2_ : ((Y2.alloc (.cells #[.int .u64 0] 34)).alloc (.cells #[.int .u64 0] 34)).heap[gr]? = _).trans Ngr
  replace Ngw := ((newB2 Y2 _ _).block (gw) q3_ : ((Y2.alloc (.cells #[.int .u64 0] 34)).alloc (.cells #[.int .u64 0] 34)).heap[gw]? = _).trans Ngw
  replace Ngz := ((newB2 Y2 _ _).block (gw + 1) q4_ : ((Y2.alloc (.cells #[.int .u64 0] 34)).alloc (.cells #[.int .u64 0] 34)).heap[gw + 1]? = _).trans Ngz
  replace Nga := ((newB2 Y2 _ _).block (gw + 1 + 1) q5_ : ((Y2.alloc (.cells #[.int .u64 0] 34)).alloc (.cells #[.int .u64 0] 34)).heap[gw + 1 + 1]? = _).trans Nga
  replace Ngb := ((newB2 Y2 _ _).block (gw + 1 + 1 + 1) q6_ : ((Y2.alloc (.cells #[.int .u64 0] 34)).alloc (.cells #[.int .u64 0] 34)).heap[gw + 1 + 1 + 1]? = _).trans Ngb
  replace h7_ := ((newB2 Y2 _ _).block (b7) q7_ : ((Y2.alloc (.cells #[.int .u64 0] 34)).alloc (.cells #[.int .u64 0] 34)).heap[b7]? = _).trans h7_
  replace h8_ := ((newB2 Y2 _ _).block (b8) q8_ : ((Y2.alloc (.cells #[.int .u64 0] 34)).alloc (.cells #[.int .u64 0] 34)).heap[b8]? = _).trans h8_
  have h9_ : ((Y2.alloc (.cells #[.int .u64 0] 34)).alloc (.cells #[.int .u64 0] 34)).heap[Y2.heap.size]? = some (.cells #[.int .u64 0] 34 (0, 0)) := new2_0 _ _ _
  have h10_ : ((Y2.alloc (.cells #[.int .u64 0] 34)).alloc (.cells #[.int .u64 0] 34)).heap[Y2.heap.size + 1]? = some (.cells #[.int .u64 0] 34 (0, 0)) := new2_1 _ _ _
  replace hB : Below w.heap.size w ((Y2.alloc (.cells #[.int .u64 0] 34)).alloc (.cells #[.int .u64 0] 34)) := hB.trans ((newB2 Y2 _ _).mono hB.size)
  generalize ((Y2.alloc (.cells #[.int .u64 0] 34)).alloc (.cells #[.int .u64 0] 34)) = V2 at *
  generalize Y2.heap.size = gx at *
  have ez : zN u = t21 := by rw [et21, et19]; rfl
  have ett : tN u = t26 := by unfold tN; rw [ez, et26, et24]
  have c8 : V2.cell? ⟨b8, 0, none⟩ = some (.int .u64 t26) := (blk_cell h8_ 0).trans rfl
  refine wp_seq ?_
  by_cases hk : t26 = 0
  · have kb : (t26 == 0) = true := by simpa using hk
    replace hk := Aside0.mk hk
    replace et19 := Aside0.mk et19
    replace et21 := Aside0.mk et21
    replace et24 := Aside0.mk et24
    replace et26 := Aside0.mk et26
    replace ez := Aside0.mk ez
    replace ett := Aside0.mk ett
    refine wp_seq_k fun K hK => ?_
    replace hK := Aside0.mk hK
    go_wp2
    refine hK.out _ _ ?_
    clear hK K
    refine wp_cond_true rfl ?_
    clear c8 kb
    refine wp_goto ?_
    dsimp only [Exit.then]
    rw [hF.out]
    refine fwd_go find0 ?_
    refine wp_seq ?_
    refine wp_skip ?_
    dsimp only [Exit.then]
    unfold behind c0 Try.f5
    simp only [findLabel]
    refine wp_seq_k fun K hK => ?_
    obtain ⟨t43, et43⟩ : ∃ t, t = tm 2305843009213693949 2305843009213693948 := ⟨_, rfl⟩
    have it43 : In t43 := by rw [et43]; exact in_tm _ _
    obtain ⟨t44, et44⟩ : ∃ t, t = iv t43 := ⟨_, rfl⟩
    have it44 : In t44 := by rw [et44]; exact in_iv it43
    obtain ⟨t45, et45⟩ : ∃ t, t = tm 111 t44 := ⟨_, rfl⟩
    have it45 : In t45 := by rw [et45]; exact in_tm _ _
    obtain ⟨W3, eW3⟩ : ∃ W_, W_ = V2.drew := ⟨_, rfl⟩
    replace Ngr := (show W3.heap[gr]? = V2.heap[gr]? by rw [eW3]; rfl).trans Ngr
    replace Ngw := (show W3.heap[gw]? = V2.heap[gw]? by rw [eW3]; rfl).trans Ngw
    replace Ngz := (show W3.heap[gw + 1]? = V2.heap[gw + 1]? by rw [eW3]; rfl).trans Ngz
    replace Nga := (show W3.heap[gw + 1 + 1]? = V2.heap[gw + 1 + 1]? by rw [eW3]; rfl).trans Nga
    replace Ngb := (show W3.heap[gw + 1 + 1 + 1]? = V2.heap[gw + 1 + 1 + 1]? by rw [eW3]; rfl).trans Ngb
    replace h7_ := (show W3.heap[b7]? = V2.heap[b7]? by rw [eW3]; rfl).trans h7_
    replace h8_ := (show W3.heap[b8]? = V2.heap[b8]? by rw [eW3]; rfl).trans h8_
    replace h9_ := (show W3.heap[gx]? = V2.heap[gx]? by rw [eW3]; rfl).trans h9_
    replace h10_ := (show W3.heap[gx + 1]? = V2.heap[gx + 1]? by rw [eW3]; rfl).trans h10_
    replace hB : Below w.heap.size w W3 := by rw [eW3]; exact below_drew' hB
    have hr0_ := lt_of_heap Ngr
    have hr1_ := lt_of_heap Ngw
    have hr2_ := lt_of_heap Ngz
    have hr3_ := lt_of_heap Nga
    have hr4_ := lt_of_heap Ngb
    have hr5_ := lt_of_heap h7_
    have hr6_ := lt_of_heap h8_
    have hr7_ := lt_of_heap h9_
    have hr8_ := lt_of_heap h10_
    let c : Cfg := ⟨{ tmps := List.toArray (.int .u64 u :: undef :: .pointer (some ⟨gr, 0, none⟩) :: .pointer (some ⟨gw, 0, none⟩) :: .pointer (some ⟨gw + 1, 0, none⟩) :: .pointer (some ⟨gw + 1 + 1, 0, none⟩) :: .pointer (some ⟨gw + 1 + 1 + 1, 0, none⟩) :: .pointer (some ⟨b7, 0, none⟩) :: .pointer (some ⟨b8, 0, none⟩) :: .pointer (some ⟨gx, 0, none⟩) :: .pointer (some ⟨gx + 1, 0, none⟩) :: .bool false :: .int .u64 u :: .agg #[.int .u64 (wN u)] :: .agg #[.int .u64 2305843009213693949] :: .agg #[.int .u64 2305843009213693948] :: .agg #[.int .u64 111] :: .agg #[.int .u64 2305843009213693949] :: .agg #[.int .u64 (wN u)] :: .agg #[.int .u64 t19] :: .agg #[.int .u64 (wN u)] :: .agg #[.int .u64 t21] :: .agg #[.int .u64 t21] :: .agg #[.int .u64 t21] :: .agg #[.int .u64 t24] :: .agg #[.int .u64 t21] :: .agg #[.int .u64 t26] :: .pointer (some ⟨b8, 0, none⟩) :: .int .u64 t26 :: .bool true :: undef :: undef :: undef :: undef :: undef :: undef :: undef :: undef :: undef :: undef :: undef :: undef :: undef :: undef :: undef :: undef :: undef :: undef :: undef :: undef :: undef :: undef :: undef :: undef :: undef :: undef :: undef :: undef :: undef :: undef :: undef :: undef :: undef :: undef :: undef :: undef :: undef :: undef :: undef :: undef :: undef :: undef :: undef :: []), defers := [] }, W3, some (gx), fun G => [(0, 40, .agg #[.int .u64 111]), (1, 41, .agg #[.int .u64 2305843009213693949]), (2, 42, .agg #[.int .u64 2305843009213693948]), (3, 43, .agg #[.int .u64 t43]), (4, 44, .agg #[.int .u64 t44]), (5, 45, .agg #[.int .u64 t45])], [], 34, [(6, gx, #[.int .u64 0], #[.int .u64 t45], 34)]⟩
    refine drawn_region (IB c) (n := 7) rfl rfl tab5_9 bits5_9 (by kernel_rfl) (by kernel_rfl) (by rw [← eW3]; exact (start_IB c (by intro x hx; obtain rfl := List.mem_singleton.1 hx; exact ⟨lt_of_heap h9_, h9_⟩))) ?_ (end_IB c (by intro G e he; exact List.all_eq_true.1 (show ((c.L G).all fun e => (List.range 7).contains e.1) = true from rfl) e he) (by intro e he; have := List.all_eq_true.1 (show (c.E.all fun e => (List.range 7).contains e.1 && (List.range 7).contains e.2.1) = true from rfl) e he; simpa using this) (by intro x hx; exact List.all_eq_true.1 (show (c.R.all fun x => (List.range 7).contains x.1) = true from rfl) x hx) ?_)
    · show ∀ i ∈ [0, 1, 2, 3, 4, 5, 6], StepAt _ _ _ _ _ (IB c) i
      refine steps_cons (step_val c 0 0 _ 40 (.agg #[.int .u64 111]) rfl rfl rfl (fun _ => rfl) (fun _ => rfl) rfl rfl (fun G b w_ hon hg => load_num (.tmp 6) rfl (gw + 1 + 1 + 1) 0 (eval_of ((putSel_off rfl).trans rfl)) ((old_cell hg Ngb (by intro e_; injection e_; omega) 0).trans rfl))) ?_
      refine steps_cons (step_val c 1 1 _ 41 (.agg #[.int .u64 2305843009213693949]) rfl rfl rfl (fun _ => rfl) (fun _ => rfl) rfl rfl (fun G b w_ hon hg => load_num (.tmp 4) rfl (gw + 1) 0 (eval_of ((putSel_off rfl).trans rfl)) ((old_cell hg Ngz (by intro e_; injection e_; omega) 0).trans rfl))) ?_
      refine steps_cons (step_val c 2 2 _ 42 (.agg #[.int .u64 2305843009213693948]) rfl rfl rfl (fun _ => rfl) (fun _ => rfl) rfl rfl (fun G b w_ hon hg => load_num (.tmp 5) rfl (gw + 1 + 1) 0 (eval_of ((putSel_off rfl).trans rfl)) ((old_cell hg Nga (by intro e_; injection e_; omega) 0).trans rfl))) ?_
      refine steps_cons (step_call c 3 3 _ 43 (.agg #[.int .u64 t43]) rfl rfl rfl (fun _ => rfl) (fun _ => rfl) rfl rfl Try.func13 rfl rfl rfl #[.agg #[.int .u64 2305843009213693949], .agg #[.int .u64 2305843009213693948]] (fun G b hon => by rw [show (#[.tmp 41, .tmp 42] : Array Operand).map (putSel c.a0 b (c.L G)).eval = #[(putSel c.a0 b (c.L G)).eval (.tmp 41), (putSel c.a0 b (c.L G)).eval (.tmp 42)] from by simp only [List.map_toArray, List.map_cons, List.map_nil], show (putSel c.a0 b (c.L G)).eval (.tmp 41) = .agg #[.int .u64 2305843009213693949] from (eval_of (putSel_on (e := (1, 41, .agg #[.int .u64 2305843009213693949])) 1 rfl rfl (hon 1 rfl) rfl)), show (putSel c.a0 b (c.L G)).eval (.tmp 42) = .agg #[.int .u64 2305843009213693948] from (eval_of (putSel_on (e := (2, 42, .agg #[.int .u64 2305843009213693948])) 2 rfl rfl (hon 2 rfl) rfl))]) (fun w_ => by rw [et43]; exact times_c (i_lit 2305843009213693949) (i_lit 2305843009213693948) w_)) ?_
      refine steps_cons (step_call c 4 4 _ 44 (.agg #[.int .u64 t44]) rfl rfl rfl (fun _ => rfl) (fun _ => rfl) rfl rfl Try.func16 rfl rfl rfl #[.agg #[.int .u64 t43]] (fun G b hon => by rw [show (#[.tmp 43] : Array Operand).map (putSel c.a0 b (c.L G)).eval = #[(putSel c.a0 b (c.L G)).eval (.tmp 43)] from by simp only [List.map_toArray, List.map_cons, List.map_nil], show (putSel c.a0 b (c.L G)).eval (.tmp 43) = .agg #[.int .u64 t43] from (eval_of (putSel_on (e := (3, 43, .agg #[.int .u64 t43])) 3 rfl rfl (hon 3 rfl) rfl))]) (fun w_ => by rw [et44]; exact inv_c it43 w_)) ?_
      refine steps_cons (step_call c 5 5 _ 45 (.agg #[.int .u64 t45]) rfl rfl rfl (fun _ => rfl) (fun _ => rfl) rfl rfl Try.func13 rfl rfl rfl #[.agg #[.int .u64 111], .agg #[.int .u64 t44]] (fun G b hon => by rw [show (#[.tmp 40, .tmp 44] : Array Operand).map (putSel c.a0 b (c.L G)).eval = #[(putSel c.a0 b (c.L G)).eval (.tmp 40), (putSel c.a0 b (c.L G)).eval (.tmp 44)] from by simp only [List.map_toArray, List.map_cons, List.map_nil], show (putSel c.a0 b (c.L G)).eval (.tmp 40) = .agg #[.int .u64 111] from (eval_of (putSel_on (e := (0, 40, .agg #[.int .u64 111])) 0 rfl rfl (hon 0 rfl) rfl)), show (putSel c.a0 b (c.L G)).eval (.tmp 44) = .agg #[.int .u64 t44] from (eval_of (putSel_on (e := (4, 44, .agg #[.int .u64 t44])) 4 rfl rfl (hon 4 rfl) rfl))]) (fun w_ => by rw [et45]; exact times_c (i_lit 111) it44 w_)) ?_
      refine steps_cons (step_back c 6 (gx) _ _ _ _ rfl rfl rfl (fun _ => rfl) rfl rfl rfl (fun G b w_ hon hb hg => store_num' (.tmp 9) (.tmp 45) rfl (gx) (eval_of ((putSel_off rfl).trans rfl)) (eval_of (putSel_on (e := (5, 45, .agg #[.int .u64 t45])) 5 rfl rfl (hon 5 rfl) rfl)) hb)) ?_
      exact steps_nil
    intro G Y3 hgr hE hR
    have hres := hR _ (List.mem_singleton.2 rfl)
    dsimp only [c] at hres hgr
    replace Ngr := (hgr.block _ (lt_of_heap Ngr) (by intro e_; injection e_; omega)).trans Ngr
    replace Ngw := (hgr.block _ (lt_of_heap Ngw) (by intro e_; injection e_; omega)).trans Ngw
    replace Ngz := (hgr.block _ (lt_of_heap Ngz) (by intro e_; injection e_; omega)).trans Ngz
    replace Nga := (hgr.block _ (lt_of_heap Nga) (by intro e_; injection e_; omega)).trans Nga
    replace Ngb := (hgr.block _ (lt_of_heap Ngb) (by intro e_; injection e_; omega)).trans Ngb
    replace h7_ := (hgr.block _ (lt_of_heap h7_) (by intro e_; injection e_; omega)).trans h7_
    replace h8_ := (hgr.block _ (lt_of_heap h8_) (by intro e_; injection e_; omega)).trans h8_
    replace h9_ := hres
    replace h10_ := (hgr.block _ (lt_of_heap h10_) (by intro e_; injection e_; omega)).trans h10_
    replace hB := below_of_gb hB hgr hB.size lx
    have ha_ : putAll' c.a0 (c.L G) = { tmps := List.toArray (.int .u64 u :: undef :: .pointer (some ⟨gr, 0, none⟩) :: .pointer (some ⟨gw, 0, none⟩) :: .pointer (some ⟨gw + 1, 0, none⟩) :: .pointer (some ⟨gw + 1 + 1, 0, none⟩) :: .pointer (some ⟨gw + 1 + 1 + 1, 0, none⟩) :: .pointer (some ⟨b7, 0, none⟩) :: .pointer (some ⟨b8, 0, none⟩) :: .pointer (some ⟨gx, 0, none⟩) :: .pointer (some ⟨gx + 1, 0, none⟩) :: .bool false :: .int .u64 u :: .agg #[.int .u64 (wN u)] :: .agg #[.int .u64 2305843009213693949] :: .agg #[.int .u64 2305843009213693948] :: .agg #[.int .u64 111] :: .agg #[.int .u64 2305843009213693949] :: .agg #[.int .u64 (wN u)] :: .agg #[.int .u64 t19] :: .agg #[.int .u64 (wN u)] :: .agg #[.int .u64 t21] :: .agg #[.int .u64 t21] :: .agg #[.int .u64 t21] :: .agg #[.int .u64 t24] :: .agg #[.int .u64 t21] :: .agg #[.int .u64 t26] :: .pointer (some ⟨b8, 0, none⟩) :: .int .u64 t26 :: .bool true :: undef :: undef :: undef :: undef :: undef :: undef :: undef :: undef :: undef :: undef :: .agg #[.int .u64 111] :: .agg #[.int .u64 2305843009213693949] :: .agg #[.int .u64 2305843009213693948] :: .agg #[.int .u64 t43] :: .agg #[.int .u64 t44] :: .agg #[.int .u64 t45] :: undef :: undef :: undef :: undef :: undef :: undef :: undef :: undef :: undef :: undef :: undef :: undef :: undef :: undef :: undef :: undef :: undef :: undef :: undef :: undef :: undef :: undef :: undef :: undef :: undef :: undef :: undef :: []), defers := [] } := by kernel_rfl
    rw [ha_]
    clear ha_
    refine hK _ _ ?_
    clear hK K
    clear hres
    clear c hE hR hgr hr0_ hr1_ hr2_ hr3_ hr4_ hr5_ hr6_ hr7_ hr8_ eW3
    have ex : xN u = t45 := by unfold xN; rw [ett.out, if_pos hk.out, et45, et44, et43]
    have hQ2 := hQ.out
    rw [ez.out, ex] at hQ2
    refine wp_seq ?_
    refine wp_label ?_
    dsimp only [Exit.then]
    exact first (in_wN u) it45 it21 Ngr Ngw h7_ h9_ h10_ (by omega) (by omega) (by omega) (by omega) (by omega) (by omega) (by omega) l1 (by omega) lx hB hQ2 hQ2
  · have kb : (t26 == 0) = false := by simpa using hk
    replace hk := Aside0.mk hk
    replace et19 := Aside0.mk et19
    replace et21 := Aside0.mk et21
    replace et24 := Aside0.mk et24
    replace et26 := Aside0.mk et26
    replace ez := Aside0.mk ez
    replace ett := Aside0.mk ett
    refine wp_seq_k fun K hK => ?_
    replace hK := Aside0.mk hK
    go_wp2
    refine hK.out _ _ ?_
    clear hK K
    refine wp_cond_false rfl ?_
    clear c8 kb
    refine wp_skip ?_
    dsimp only [Exit.then]
    refine wp_seq_k fun K hK => ?_
    obtain ⟨t31, et31⟩ : ∃ t, t = ng 111 := ⟨_, rfl⟩
    have it31 : In t31 := by rw [et31]; exact in_ng (i_lit 111)
    obtain ⟨t33, et33⟩ : ∃ t, t = iv 2305843009213693948 := ⟨_, rfl⟩
    have it33 : In t33 := by rw [et33]; exact in_iv (i_lit 2305843009213693948)
    obtain ⟨t34, et34⟩ : ∃ t, t = tm t31 t33 := ⟨_, rfl⟩
    have it34 : In t34 := by rw [et34]; exact in_tm _ _
    obtain ⟨t37, et37⟩ : ∃ t, t = iv t26 := ⟨_, rfl⟩
    have it37 : In t37 := by rw [et37]; exact in_iv it26
    obtain ⟨t38, et38⟩ : ∃ t, t = ad 1 t37 := ⟨_, rfl⟩
    have it38 : In t38 := by rw [et38]; exact in_ad _ _
    obtain ⟨t39, et39⟩ : ∃ t, t = tm t34 t38 := ⟨_, rfl⟩
    have it39 : In t39 := by rw [et39]; exact in_tm _ _
    obtain ⟨W4, eW4⟩ : ∃ W_, W_ = V2.drew := ⟨_, rfl⟩
    replace Ngr := (show W4.heap[gr]? = V2.heap[gr]? by rw [eW4]; rfl).trans Ngr
    replace Ngw := (show W4.heap[gw]? = V2.heap[gw]? by rw [eW4]; rfl).trans Ngw
    replace Ngz := (show W4.heap[gw + 1]? = V2.heap[gw + 1]? by rw [eW4]; rfl).trans Ngz
    replace Nga := (show W4.heap[gw + 1 + 1]? = V2.heap[gw + 1 + 1]? by rw [eW4]; rfl).trans Nga
    replace Ngb := (show W4.heap[gw + 1 + 1 + 1]? = V2.heap[gw + 1 + 1 + 1]? by rw [eW4]; rfl).trans Ngb
    replace h7_ := (show W4.heap[b7]? = V2.heap[b7]? by rw [eW4]; rfl).trans h7_
    replace h8_ := (show W4.heap[b8]? = V2.heap[b8]? by rw [eW4]; rfl).trans h8_
    replace h9_ := (show W4.heap[gx]? = V2.heap[gx]? by rw [eW4]; rfl).trans h9_
    replace h10_ := (show W4.heap[gx + 1]? = V2.heap[gx + 1]? by rw [eW4]; rfl).trans h10_
    replace hB : Below w.heap.size w W4 := by rw [eW4]; exact below_drew' hB
    have hr0_ := lt_of_heap Ngr
    have hr1_ := lt_of_heap Ngw
    have hr2_ := lt_of_heap Ngz
    have hr3_ := lt_of_heap Nga
    have hr4_ := lt_of_heap Ngb
    have hr5_ := lt_of_heap h7_
    have hr6_ := lt_of_heap h8_
    have hr7_ := lt_of_heap h9_
    have hr8_ := lt_of_heap h10_
    let c : Cfg := ⟨{ tmps := List.toArray (.int .u64 u :: undef :: .pointer (some ⟨gr, 0, none⟩) :: .pointer (some ⟨gw, 0, none⟩) :: .pointer (some ⟨gw + 1, 0, none⟩) :: .pointer (some ⟨gw + 1 + 1, 0, none⟩) :: .pointer (some ⟨gw + 1 + 1 + 1, 0, none⟩) :: .pointer (some ⟨b7, 0, none⟩) :: .pointer (some ⟨b8, 0, none⟩) :: .pointer (some ⟨gx, 0, none⟩) :: .pointer (some ⟨gx + 1, 0, none⟩) :: .bool false :: .int .u64 u :: .agg #[.int .u64 (wN u)] :: .agg #[.int .u64 2305843009213693949] :: .agg #[.int .u64 2305843009213693948] :: .agg #[.int .u64 111] :: .agg #[.int .u64 2305843009213693949] :: .agg #[.int .u64 (wN u)] :: .agg #[.int .u64 t19] :: .agg #[.int .u64 (wN u)] :: .agg #[.int .u64 t21] :: .agg #[.int .u64 t21] :: .agg #[.int .u64 t21] :: .agg #[.int .u64 t24] :: .agg #[.int .u64 t21] :: .agg #[.int .u64 t26] :: .pointer (some ⟨b8, 0, none⟩) :: .int .u64 t26 :: .bool false :: undef :: undef :: undef :: undef :: undef :: undef :: undef :: undef :: undef :: undef :: undef :: undef :: undef :: undef :: undef :: undef :: undef :: undef :: undef :: undef :: undef :: undef :: undef :: undef :: undef :: undef :: undef :: undef :: undef :: undef :: undef :: undef :: undef :: undef :: undef :: undef :: undef :: undef :: undef :: undef :: undef :: undef :: undef :: []), defers := [] }, W4, some (gx), fun G => [(0, 30, .agg #[.int .u64 111]), (1, 31, .agg #[.int .u64 t31]), (2, 32, .agg #[.int .u64 2305843009213693948]), (3, 33, .agg #[.int .u64 t33]), (4, 34, .agg #[.int .u64 t34]), (5, 35, .agg #[.int .u64 1]), (6, 36, .agg #[.int .u64 t26]), (7, 37, .agg #[.int .u64 t37]), (8, 38, .agg #[.int .u64 t38]), (9, 39, .agg #[.int .u64 t39])], [], 34, [(10, gx, #[.int .u64 0], #[.int .u64 t39], 34)]⟩
    refine drawn_region (IB c) (n := 11) rfl rfl tab5_8 bits5_8 (by kernel_rfl) (by kernel_rfl) (by rw [← eW4]; exact (start_IB c (by intro x hx; obtain rfl := List.mem_singleton.1 hx; exact ⟨lt_of_heap h9_, h9_⟩))) ?_ (end_IB c (by intro G e he; exact List.all_eq_true.1 (show ((c.L G).all fun e => (List.range 11).contains e.1) = true from rfl) e he) (by intro e he; have := List.all_eq_true.1 (show (c.E.all fun e => (List.range 11).contains e.1 && (List.range 11).contains e.2.1) = true from rfl) e he; simpa using this) (by intro x hx; exact List.all_eq_true.1 (show (c.R.all fun x => (List.range 11).contains x.1) = true from rfl) x hx) ?_)
    · show ∀ i ∈ [0, 1, 2, 3, 4, 5, 6, 7, 8, 9, 10], StepAt _ _ _ _ _ (IB c) i
      refine steps_cons (step_val c 0 0 _ 30 (.agg #[.int .u64 111]) rfl rfl rfl (fun _ => rfl) (fun _ => rfl) rfl rfl (fun G b w_ hon hg => load_num (.tmp 6) rfl (gw + 1 + 1 + 1) 0 (eval_of ((putSel_off rfl).trans rfl)) ((old_cell hg Ngb (by intro e_; injection e_; omega) 0).trans rfl))) ?_
      refine steps_cons (step_call c 1 1 _ 31 (.agg #[.int .u64 t31]) rfl rfl rfl (fun _ => rfl) (fun _ => rfl) rfl rfl Try.func15 rfl rfl rfl #[.agg #[.int .u64 111]] (fun G b hon => by rw [show (#[.tmp 30] : Array Operand).map (putSel c.a0 b (c.L G)).eval = #[(putSel c.a0 b (c.L G)).eval (.tmp 30)] from by simp only [List.map_toArray, List.map_cons, List.map_nil], show (putSel c.a0 b (c.L G)).eval (.tmp 30) = .agg #[.int .u64 111] from (eval_of (putSel_on (e := (0, 30, .agg #[.int .u64 111])) 0 rfl rfl (hon 0 rfl) rfl))]) (fun w_ => by rw [et31]; exact neg_c (i_lit 111) w_)) ?_
      refine steps_cons (step_val c 2 2 _ 32 (.agg #[.int .u64 2305843009213693948]) rfl rfl rfl (fun _ => rfl) (fun _ => rfl) rfl rfl (fun G b w_ hon hg => load_num (.tmp 5) rfl (gw + 1 + 1) 0 (eval_of ((putSel_off rfl).trans rfl)) ((old_cell hg Nga (by intro e_; injection e_; omega) 0).trans rfl))) ?_
      refine steps_cons (step_call c 3 3 _ 33 (.agg #[.int .u64 t33]) rfl rfl rfl (fun _ => rfl) (fun _ => rfl) rfl rfl Try.func16 rfl rfl rfl #[.agg #[.int .u64 2305843009213693948]] (fun G b hon => by rw [show (#[.tmp 32] : Array Operand).map (putSel c.a0 b (c.L G)).eval = #[(putSel c.a0 b (c.L G)).eval (.tmp 32)] from by simp only [List.map_toArray, List.map_cons, List.map_nil], show (putSel c.a0 b (c.L G)).eval (.tmp 32) = .agg #[.int .u64 2305843009213693948] from (eval_of (putSel_on (e := (2, 32, .agg #[.int .u64 2305843009213693948])) 2 rfl rfl (hon 2 rfl) rfl))]) (fun w_ => by rw [et33]; exact inv_c (i_lit 2305843009213693948) w_)) ?_
      refine steps_cons (step_call c 4 4 _ 34 (.agg #[.int .u64 t34]) rfl rfl rfl (fun _ => rfl) (fun _ => rfl) rfl rfl Try.func13 rfl rfl rfl #[.agg #[.int .u64 t31], .agg #[.int .u64 t33]] (fun G b hon => by rw [show (#[.tmp 31, .tmp 33] : Array Operand).map (putSel c.a0 b (c.L G)).eval = #[(putSel c.a0 b (c.L G)).eval (.tmp 31), (putSel c.a0 b (c.L G)).eval (.tmp 33)] from by simp only [List.map_toArray, List.map_cons, List.map_nil], show (putSel c.a0 b (c.L G)).eval (.tmp 31) = .agg #[.int .u64 t31] from (eval_of (putSel_on (e := (1, 31, .agg #[.int .u64 t31])) 1 rfl rfl (hon 1 rfl) rfl)), show (putSel c.a0 b (c.L G)).eval (.tmp 33) = .agg #[.int .u64 t33] from (eval_of (putSel_on (e := (3, 33, .agg #[.int .u64 t33])) 3 rfl rfl (hon 3 rfl) rfl))]) (fun w_ => by rw [et34]; exact times_c it31 it33 w_)) ?_
      refine steps_cons (step_val c 5 5 _ 35 (.agg #[.int .u64 1]) rfl rfl rfl (fun _ => rfl) (fun _ => rfl) rfl rfl (fun G b w_ hon hg => build_num (.const (.int .u64 1)) rfl rfl)) ?_
      refine steps_cons (step_val c 6 6 _ 36 (.agg #[.int .u64 t26]) rfl rfl rfl (fun _ => rfl) (fun _ => rfl) rfl rfl (fun G b w_ hon hg => load_num (.tmp 8) rfl (b8) 0 (eval_of ((putSel_off rfl).trans rfl)) ((old_cell hg h8_ (by intro e_; injection e_; omega) 0).trans rfl))) ?_
      refine steps_cons (step_call c 7 7 _ 37 (.agg #[.int .u64 t37]) rfl rfl rfl (fun _ => rfl) (fun _ => rfl) rfl rfl Try.func16 rfl rfl rfl #[.agg #[.int .u64 t26]] (fun G b hon => by rw [show (#[.tmp 36] : Array Operand).map (putSel c.a0 b (c.L G)).eval = #[(putSel c.a0 b (c.L G)).eval (.tmp 36)] from by simp only [List.map_toArray, List.map_cons, List.map_nil], show (putSel c.a0 b (c.L G)).eval (.tmp 36) = .agg #[.int .u64 t26] from (eval_of (putSel_on (e := (6, 36, .agg #[.int .u64 t26])) 6 rfl rfl (hon 6 rfl) rfl))]) (fun w_ => by rw [et37]; exact inv_c it26 w_)) ?_
      refine steps_cons (step_call c 8 8 _ 38 (.agg #[.int .u64 t38]) rfl rfl rfl (fun _ => rfl) (fun _ => rfl) rfl rfl Try.func14 rfl rfl rfl #[.agg #[.int .u64 1], .agg #[.int .u64 t37]] (fun G b hon => by rw [show (#[.tmp 35, .tmp 37] : Array Operand).map (putSel c.a0 b (c.L G)).eval = #[(putSel c.a0 b (c.L G)).eval (.tmp 35), (putSel c.a0 b (c.L G)).eval (.tmp 37)] from by simp only [List.map_toArray, List.map_cons, List.map_nil], show (putSel c.a0 b (c.L G)).eval (.tmp 35) = .agg #[.int .u64 1] from (eval_of (putSel_on (e := (5, 35, .agg #[.int .u64 1])) 5 rfl rfl (hon 5 rfl) rfl)), show (putSel c.a0 b (c.L G)).eval (.tmp 37) = .agg #[.int .u64 t37] from (eval_of (putSel_on (e := (7, 37, .agg #[.int .u64 t37])) 7 rfl rfl (hon 7 rfl) rfl))]) (fun w_ => by rw [et38]; exact plus_c (i_lit 1) it37 w_)) ?_
      refine steps_cons (step_call c 9 9 _ 39 (.agg #[.int .u64 t39]) rfl rfl rfl (fun _ => rfl) (fun _ => rfl) rfl rfl Try.func13 rfl rfl rfl #[.agg #[.int .u64 t34], .agg #[.int .u64 t38]] (fun G b hon => by rw [show (#[.tmp 34, .tmp 38] : Array Operand).map (putSel c.a0 b (c.L G)).eval = #[(putSel c.a0 b (c.L G)).eval (.tmp 34), (putSel c.a0 b (c.L G)).eval (.tmp 38)] from by simp only [List.map_toArray, List.map_cons, List.map_nil], show (putSel c.a0 b (c.L G)).eval (.tmp 34) = .agg #[.int .u64 t34] from (eval_of (putSel_on (e := (4, 34, .agg #[.int .u64 t34])) 4 rfl rfl (hon 4 rfl) rfl)), show (putSel c.a0 b (c.L G)).eval (.tmp 38) = .agg #[.int .u64 t38] from (eval_of (putSel_on (e := (8, 38, .agg #[.int .u64 t38])) 8 rfl rfl (hon 8 rfl) rfl))]) (fun w_ => by rw [et39]; exact times_c it34 it38 w_)) ?_
      refine steps_cons (step_back c 10 (gx) _ _ _ _ rfl rfl rfl (fun _ => rfl) rfl rfl rfl (fun G b w_ hon hb hg => store_num' (.tmp 9) (.tmp 39) rfl (gx) (eval_of ((putSel_off rfl).trans rfl)) (eval_of (putSel_on (e := (9, 39, .agg #[.int .u64 t39])) 9 rfl rfl (hon 9 rfl) rfl)) hb)) ?_
      exact steps_nil
    intro G Y4 hgr hE hR
    have hres := hR _ (List.mem_singleton.2 rfl)
    dsimp only [c] at hres hgr
    replace Ngr := (hgr.block _ (lt_of_heap Ngr) (by intro e_; injection e_; omega)).trans Ngr
    replace Ngw := (hgr.block _ (lt_of_heap Ngw) (by intro e_; injection e_; omega)).trans Ngw
    replace Ngz := (hgr.block _ (lt_of_heap Ngz) (by intro e_; injection e_; omega)).trans Ngz
    replace Nga := (hgr.block _ (lt_of_heap Nga) (by intro e_; injection e_; omega)).trans Nga
    replace Ngb := (hgr.block _ (lt_of_heap Ngb) (by intro e_; injection e_; omega)).trans Ngb
    replace h7_ := (hgr.block _ (lt_of_heap h7_) (by intro e_; injection e_; omega)).trans h7_
    replace h8_ := (hgr.block _ (lt_of_heap h8_) (by intro e_; injection e_; omega)).trans h8_
    replace h9_ := hres
    replace h10_ := (hgr.block _ (lt_of_heap h10_) (by intro e_; injection e_; omega)).trans h10_
    replace hB := below_of_gb hB hgr hB.size lx
    have ha_ : putAll' c.a0 (c.L G) = { tmps := List.toArray (.int .u64 u :: undef :: .pointer (some ⟨gr, 0, none⟩) :: .pointer (some ⟨gw, 0, none⟩) :: .pointer (some ⟨gw + 1, 0, none⟩) :: .pointer (some ⟨gw + 1 + 1, 0, none⟩) :: .pointer (some ⟨gw + 1 + 1 + 1, 0, none⟩) :: .pointer (some ⟨b7, 0, none⟩) :: .pointer (some ⟨b8, 0, none⟩) :: .pointer (some ⟨gx, 0, none⟩) :: .pointer (some ⟨gx + 1, 0, none⟩) :: .bool false :: .int .u64 u :: .agg #[.int .u64 (wN u)] :: .agg #[.int .u64 2305843009213693949] :: .agg #[.int .u64 2305843009213693948] :: .agg #[.int .u64 111] :: .agg #[.int .u64 2305843009213693949] :: .agg #[.int .u64 (wN u)] :: .agg #[.int .u64 t19] :: .agg #[.int .u64 (wN u)] :: .agg #[.int .u64 t21] :: .agg #[.int .u64 t21] :: .agg #[.int .u64 t21] :: .agg #[.int .u64 t24] :: .agg #[.int .u64 t21] :: .agg #[.int .u64 t26] :: .pointer (some ⟨b8, 0, none⟩) :: .int .u64 t26 :: .bool false :: .agg #[.int .u64 111] :: .agg #[.int .u64 t31] :: .agg #[.int .u64 2305843009213693948] :: .agg #[.int .u64 t33] :: .agg #[.int .u64 t34] :: .agg #[.int .u64 1] :: .agg #[.int .u64 t26] :: .agg #[.int .u64 t37] :: .agg #[.int .u64 t38] :: .agg #[.int .u64 t39] :: undef :: undef :: undef :: undef :: undef :: undef :: undef :: undef :: undef :: undef :: undef :: undef :: undef :: undef :: undef :: undef :: undef :: undef :: undef :: undef :: undef :: undef :: undef :: undef :: undef :: undef :: undef :: undef :: undef :: undef :: undef :: undef :: undef :: []), defers := [] } := by kernel_rfl
    rw [ha_]
    clear ha_
    refine hK _ _ ?_
    clear hK K
    clear hres
    clear c hE hR hgr hr0_ hr1_ hr2_ hr3_ hr4_ hr5_ hr6_ hr7_ hr8_ eW4
    have ex : xN u = t39 := by unfold xN; rw [ett.out, if_neg hk.out, et39, et38, et37, et34, et33, et31]
    have hQ2 := hQ.out
    rw [ez.out, ex] at hQ2
    refine wp_seq ?_
    refine wp_goto ?_
    dsimp only [Exit.then]
    rw [hF.out]
    refine fwd_go find1 ?_
    refine wp_seq ?_
    refine wp_skip ?_
    dsimp only [Exit.then]
    exact first (in_wN u) it39 it21 Ngr Ngw h7_ h9_ h10_ (by omega) (by omega) (by omega) (by omega) (by omega) (by omega) (by omega) l1 (by omega) lx hB hQ2 hQ2
set_option maxRecDepth 100000 in
set_option maxHeartbeats 8000000 in
theorem start {u : Int} (h0 : 0 ≤ u) (h1 : u < 18446744073709551616) (w : World) :
    Calls Try.prog 5 #[.int .u64 u] w fun e w' => e = .returned (.agg #[.int .u64 (fx (zN u) (xN u)), .int .u64 (yy (wN u) (fy (zN u) (xN u))), .bool false]) ∧ Below w.heap.size w w' := by
  have huN := Try.underlying34
  have huP := Try.underlying24
  go_enter Try.func5, Try.ntmps5
  refine wp_seq_k fun K hK => ?_
  replace hK := Aside0.mk hK
  go_wp2
  refine hK.out _ _ ?_
  clear hK K
  refine scope3 (c := c0) ?_
  exact all h0 h1 (heap_alloc_new w _) (Nat.le_refl _) ((Below.refl _ w).alloc (Nat.le_refl _) _) (fun a W' ha hd hres hB => bodyPost_ret (results_cell_row rfl _ _ (w.heap.size) 24 _ (0, 0) _ ha hres huP rfl (by kernel_rfl)) hd ⟨rfl, hB⟩)

def impl_MapToCurve.f (u : Int) : Option (Int × Int × Bool) := if 0 ≤ u ∧ u < 18446744073709551616 then some (fx (zN u) (xN u), yy (wN u) (fy (zN u) (xN u)), false) else none
theorem impl_MapToCurve.calls (u r1 r2 : Int) (r3 : Bool) (w : World) (h : impl_MapToCurve.f u = some (r1, r2, r3)) :
    Calls Try.prog 5 #[.int .u64 u] w fun e w' => e = .returned (.agg #[.int .u64 r1, .int .u64 r2, .bool r3]) ∧ Below w.heap.size w w' := by
  unfold impl_MapToCurve.f at h
  split at h
  · rename_i hu
    have e := Option.some.inj h
    obtain ⟨rfl, rfl, rfl⟩ : fx (zN u) (xN u) = r1 ∧ yy (wN u) (fy (zN u) (xN u)) = r2 ∧ false = r3 := by simpa using e
    exact start hu.1 hu.2 w
  · cases h
end Go.Proofs.Ytkefcokmghbmhaa.MC
end
section
namespace Go.Proofs.Ytkefcokmghbmhaa.D
open Go.RowKit Go.Proofs.Ytkefcokmghbmhaa.B Go.Proofs.Ytkefcokmghbmhaa.C Go.Proofs.Ytkefcokmghbmhaa.H0 Go.Proofs.Ytkefcokmghbmhaa.H1 Go.Proofs.Ytkefcokmghbmhaa.H2 Go.Proofs.Ytkefcokmghbmhaa.H3 Go.Proofs.Ytkefcokmghbmhaa.MC Go.Proofs.YtkefcokmghbmhaaW.PrintWords Go.Proofs.YtkefcokmghbmhaaW.PrintLast Go.Proofs.YtkefcokmghbmhaaW.PrintMore
attribute [local go_sem] max2_int min2_int max_two min_two max_three min_three max_four min_four   -- for this text's walks alone
set_option linter.unusedVariables false
set_option linter.unusedSimpArgs false
def laws_FnExactMapToCurve.f (k : Nat) (a0 : Int) : Option (Bool) := (spec_MapToCurve.f k a0).bind fun bt101 => ((impl_MapToCurve.f a0).bind fun bt105 => ((laws_eqPoint.f bt105.1 bt105.2.1 bt105.2.2 bt101.1 bt101.2.1 bt101.2.2).bind fun t109 => (if t109 = true then (some true) else (some false))))
set_option maxHeartbeats 8000000 in
set_option maxRecDepth 100000 in
theorem laws_FnExactMapToCurve.calls (k : Nat) (a0 : Int) (r : Bool) (w : World) (h : laws_FnExactMapToCurve.f k a0 = some r) :
    Calls Try.prog 3 #[.int .u64 a0] w fun e w' => e = .returned (.bool r) ∧ Below w.heap.size w w' := by
  have hu24 := Try.underlying24
  have HB := Aside0.mk (Below.refl w.heap.size w)
  have H : ((spec_MapToCurve.f k a0).bind fun bt101 => ((impl_MapToCurve.f a0).bind fun bt105 => ((laws_eqPoint.f bt105.1 bt105.2.1 bt105.2.2 bt101.1 bt101.2.1 bt101.2.2).bind fun t109 => (if t109 = true then (some true) else (some false))))) = some r := h
  clear h
  replace H := Option.bind_eq_some_iff.mp H
  obtain ⟨⟨t101, t102, t103⟩, A20, H⟩ := H
  replace H : ((impl_MapToCurve.f a0).bind fun bt105 => ((laws_eqPoint.f bt105.1 bt105.2.1 bt105.2.2 t101 t102 t103).bind fun t109 => (if t109 = true then (some true) else (some false)))) = some r := H
  have A2 := Aside0.mk A20
  clear A20
  replace H := Option.bind_eq_some_iff.mp H
  obtain ⟨⟨t105, t106, t107⟩, A30, H⟩ := H
  replace H : ((laws_eqPoint.f t105 t106 t107 t101 t102 t103).bind fun t109 => (if t109 = true then (some true) else (some false))) = some r := H
  have A3 := Aside0.mk A30
  clear A30
  replace H := Option.bind_eq_some_iff.mp H
  obtain ⟨t109, A40, H⟩ := H
  replace H : (if t109 = true then (some true) else (some false)) = some r := H
  have A4 := Aside0.mk A40
  clear A40
  by_cases c5 : t109 = true
  · subst c5
    have H1 : (some true) = some r := by rw [if_pos rfl] at H; exact H
    clear H
    have H := H1
    clear H1
    obtain rfl := Option.some.inj H
    go_enter Try.func3, Try.ntmps3
    go_wp2_with (first | ((with_reducible refine gate_callee (f := 4) rfl ?_); refine goesL_ (some 6) rfl rfl Try.func4 (by kernel_rfl) rfl #[.int .u64 a0] rfl (by (try simp only [List.map_toArray, List.map_cons, List.map_nil]); first | done | rfl | (simp only [List.length_drop, List.length_take]; rfl)) ?_; (with_reducible refine (spec_MapToCurve.calls k a0 t101 t102 t103 _ A2.out).mono ?_); rintro e w6 ⟨rfl, hb⟩; refine ⟨_, rfl, ?_⟩; have n0_ := Aside0.mk (below_step (by repeat (first | (with_reducible first | exact HB.out | apply below_alloc | apply pw_below_drewN | apply below_drew1) | exact HB.out)) hb); clear HB; have HB := n0_; clear n0_; (try clear hb); (try clear hb2); (try clear hk); (try clear hi)) | ((with_reducible refine gate_dst (N := 3) rfl ?_); refine box_event ?hg (N := 3) ?hd (cs := #[.int .u64 0, .int .u64 0, .bool false]) (t := 24) ?hr ?_; (case hd => rfl); (case hg => rfl); (case hr => first | (go_simp; done) | (go_simp; rfl)); intro gb104 hg w7 hbox hb; have n0_ := Aside0.mk (below_step (by repeat (first | (with_reducible first | exact HB.out | apply below_alloc | apply pw_below_drewN | apply below_drew1) | exact HB.out)) hb); have n1_ := Aside0.mk (hbox); have n2_ := Aside0.mk ((by rw [hg]; exact (below_size (by repeat (first | (with_reducible first | exact HB.out | apply below_alloc | apply pw_below_drewN | apply below_drew1) | exact HB.out))) : w.heap.size ≤ gb104)); have n3_ := Aside0.mk ((by rw [hg]; exact (below_size (by repeat (first | (with_reducible first | exact HB.out | apply below_alloc | apply pw_below_drewN | apply below_drew1) | exact HB.out))) : w.heap.size ≤ gb104)); clear HB; have HB := n0_; have BK104 := n1_; have GW104 := n2_; have GE104 := n3_; clear n0_ n1_ n2_ n3_; clear hb hbox hg; have hcz8_0 : w7.cell? ⟨gb104, 0, none⟩ = some (.int .u64 0) := (blk_cell BK104.out 0).trans rfl; have hcz8_1 : w7.cell? ⟨gb104, 1, none⟩ = some (.int .u64 0) := (blk_cell BK104.out 1).trans rfl; have hcz8_2 : w7.cell? ⟨gb104, 2, none⟩ = some (.bool false) := (blk_cell BK104.out 2).trans rfl; have hfz8_0 := blk_frozen BK104.out 0; have hfz8_1 := blk_frozen BK104.out 1; have hfz8_2 := blk_frozen BK104.out 2) | ((with_reducible refine gate_callee (f := 5) rfl ?_); refine goesL_ (some 8) rfl rfl Try.func5 (by kernel_rfl) rfl #[.int .u64 a0] rfl (by (try simp only [List.map_toArray, List.map_cons, List.map_nil]); first | done | rfl | (simp only [List.length_drop, List.length_take]; rfl)) ?_; (with_reducible refine (impl_MapToCurve.calls a0 t105 t106 t107 _ A3.out).mono ?_); rintro e w9 ⟨rfl, hb⟩; refine ⟨_, rfl, ?_⟩; have n0_ := Aside0.mk (blk_below (g := gb104) (o := .cells #[.int .u64 t101, .int .u64 t102, .bool t103] 24 (0, 0)) (by (with_reducible repeat (first | refine blk_drewN ?_ _ | refine blk_drew ?_ | refine blk_alloc ?_ _)); refine blk_put (cs := #[.int .u64 t101, .int .u64 t102, .bool false]) ?_ 2 _ rfl; (with_reducible repeat (first | refine blk_drewN ?_ _ | refine blk_drew ?_ | refine blk_alloc ?_ _)); refine blk_put (cs := #[.int .u64 t101, .int .u64 0, .bool false]) ?_ 1 _ rfl; (with_reducible repeat (first | refine blk_drewN ?_ _ | refine blk_drew ?_ | refine blk_alloc ?_ _)); refine blk_put (cs := #[.int .u64 0, .int .u64 0, .bool false]) ?_ 0 _ rfl; (with_reducible repeat (first | refine blk_drewN ?_ _ | refine blk_drew ?_ | refine blk_alloc ?_ _)); exact BK104.out) hb); have n1_ := Aside0.mk (below_step (by repeat (first | (with_reducible first | exact HB.out | apply below_alloc | apply pw_below_drewN | apply below_drew1 | refine below_set ?_ GE104.out) | exact HB.out)) hb); clear BK104; clear HB; have BK104 := n0_; have HB := n1_; clear n0_ n1_; (try clear hb); (try clear hb2); (try clear hk); (try clear hi)) | ((with_reducible refine gate_dst (N := 4) rfl ?_); refine box_event ?hg (N := 4) ?hd (cs := #[.int .u64 0, .int .u64 0, .bool false]) (t := 24) ?hr ?_; (case hd => rfl); (case hg => rfl); (case hr => first | (go_simp; done) | (go_simp; rfl)); intro gb108 hg w10 hbox hb; have n0_ := Aside0.mk (blk_below (g := gb104) (o := .cells #[.int .u64 t101, .int .u64 t102, .bool t103] 24 (0, 0)) (by (with_reducible repeat (first | refine blk_drewN ?_ _ | refine blk_drew ?_ | refine blk_alloc ?_ _)); exact BK104.out) hb); have n1_ := Aside0.mk (below_step (by repeat (first | (with_reducible first | exact HB.out | apply below_alloc | apply pw_below_drewN | apply below_drew1 | refine below_set ?_ GE104.out) | exact HB.out)) hb); have n2_ := Aside0.mk (hbox); have n3_ := Aside0.mk ((by rw [hg]; exact (below_size (by repeat (first | (with_reducible first | exact HB.out | apply below_alloc | apply pw_below_drewN | apply below_drew1 | refine below_set ?_ GE104.out) | exact HB.out))) : w.heap.size ≤ gb108)); have n4_ := Aside0.mk ((by rw [hg]; exact (below_size (by repeat (first | (with_reducible first | exact HB.out | apply below_alloc | apply pw_below_drewN | apply below_drew1 | refine below_set ?_ GE104.out) | exact HB.out))) : w.heap.size ≤ gb108)); have n5_ := Aside0.mk ((by rw [hg]; exact Nat.ne_of_lt (blk_lt (g := gb104) (o := .cells #[.int .u64 t101, .int .u64 t102, .bool t103] 24 (0, 0)) (by (with_reducible repeat (first | refine blk_drewN ?_ _ | refine blk_drew ?_ | refine blk_alloc ?_ _)); exact BK104.out)) : gb104 ≠ gb108)); have n6_ := Aside0.mk ((by rw [hg]; exact Nat.ne_of_gt (blk_lt (g := gb104) (o := .cells #[.int .u64 t101, .int .u64 t102, .bool t103] 24 (0, 0)) (by (with_reducible repeat (first | refine blk_drewN ?_ _ | refine blk_drew ?_ | refine blk_alloc ?_ _)); exact BK104.out)) : gb108 ≠ gb104)); clear BK104; clear HB; have BK104 := n0_; have HB := n1_; have BK108 := n2_; have GW108 := n3_; have GE108 := n4_; have NB104_108 := n5_; have NB108_104 := n6_; clear n0_ n1_ n2_ n3_ n4_ n5_ n6_; clear hb hbox hg; have hnb11 := NB108_104.out; have hnc11 := NB104_108.out; have hcz12_0 : w10.cell? ⟨gb108, 0, none⟩ = some (.int .u64 0) := (blk_cell BK108.out 0).trans rfl; have hcz12_1 : w10.cell? ⟨gb108, 1, none⟩ = some (.int .u64 0) := (blk_cell BK108.out 1).trans rfl; have hcz12_2 : w10.cell? ⟨gb108, 2, none⟩ = some (.bool false) := (blk_cell BK108.out 2).trans rfl; have hfz12_0 := blk_frozen BK108.out 0; have hfz12_1 := blk_frozen BK108.out 1; have hfz12_2 := blk_frozen BK108.out 2; have hcz13_0 : w10.cell? ⟨gb104, 0, none⟩ = some (.int .u64 t101) := (blk_cell BK104.out 0).trans rfl; have hcz13_1 : w10.cell? ⟨gb104, 1, none⟩ = some (.int .u64 t102) := (blk_cell BK104.out 1).trans rfl; have hcz13_2 : w10.cell? ⟨gb104, 2, none⟩ = some (.bool t103) := (blk_cell BK104.out 2).trans rfl; have hfz13_0 := blk_frozen BK104.out 0; have hfz13_1 := blk_frozen BK104.out 1; have hfz13_2 := blk_frozen BK104.out 2) | ((with_reducible refine gate_callee (f := 6) rfl ?_); refine goesL_ (some 11) rfl rfl Try.func6 (by kernel_rfl) rfl #[.agg #[.int .u64 t105, .int .u64 t106, .bool t107], .agg #[.int .u64 t101, .int .u64 t102, .bool t103]] rfl (by (try simp only [List.map_toArray, List.map_cons, List.map_nil]); first | done | rfl | (simp only [List.length_drop, List.length_take]; rfl)) ?_; (with_reducible refine (laws_eqPoint.calls t105 t106 t107 t101 t102 t103 true _ A4.out).mono ?_); rintro e w14 ⟨rfl, hb⟩; refine ⟨_, rfl, ?_⟩; have n0_ := Aside0.mk (blk_below (g := gb104) (o := .cells #[.int .u64 t101, .int .u64 t102, .bool t103] 24 (0, 0)) (by (with_reducible repeat (first | refine blk_drewN ?_ _ | refine blk_drew ?_ | refine blk_alloc ?_ _)); refine blk_far ?_ NB104_108.out _; (with_reducible repeat (first | refine blk_drewN ?_ _ | refine blk_drew ?_ | refine blk_alloc ?_ _)); refine blk_far ?_ NB104_108.out _; (with_reducible repeat (first | refine blk_drewN ?_ _ | refine blk_drew ?_ | refine blk_alloc ?_ _)); refine blk_far ?_ NB104_108.out _; (with_reducible repeat (first | refine blk_drewN ?_ _ | refine blk_drew ?_ | refine blk_alloc ?_ _)); exact BK104.out) hb); have n1_ := Aside0.mk (blk_below (g := gb108) (o := .cells #[.int .u64 t105, .int .u64 t106, .bool t107] 24 (0, 0)) (by (with_reducible repeat (first | refine blk_drewN ?_ _ | refine blk_drew ?_ | refine blk_alloc ?_ _)); refine blk_put (cs := #[.int .u64 t105, .int .u64 t106, .bool false]) ?_ 2 _ rfl; (with_reducible repeat (first | refine blk_drewN ?_ _ | refine blk_drew ?_ | refine blk_alloc ?_ _)); refine blk_put (cs := #[.int .u64 t105, .int .u64 0, .bool false]) ?_ 1 _ rfl; (with_reducible repeat (first | refine blk_drewN ?_ _ | refine blk_drew ?_ | refine blk_alloc ?_ _)); refine blk_put (cs := #[.int .u64 0, .int .u64 0, .bool false]) ?_ 0 _ rfl; (with_reducible repeat (first | refine blk_drewN ?_ _ | refine blk_drew ?_ | refine blk_alloc ?_ _)); exact BK108.out) hb); have n2_ := Aside0.mk (below_step (by repeat (first | (with_reducible first | exact HB.out | apply below_alloc | apply pw_below_drewN | apply below_drew1 | refine below_set ?_ GE104.out | refine below_set ?_ GE108.out) | exact HB.out)) hb); clear BK104; clear BK108; clear HB; have BK104 := n0_; have BK108 := n1_; have HB := n2_; clear n0_ n1_ n2_; (try clear hb); (try clear hb2); (try clear hk); (try clear hi)))
    go_ret
    exact ⟨by first | rfl | (simp [errW_none, errW_some] <;> rfl) | (simp [*, errW_none, errW_some] <;> rfl), by repeat (first | (with_reducible first | exact HB.out | apply below_alloc | apply pw_below_drewN | apply below_drew1 | refine below_set ?_ GE104.out | refine below_set ?_ GE108.out) | exact HB.out)⟩
  · replace c5 := Bool.eq_false_iff.mpr c5
    subst c5
    have H1 : (some false) = some r := by rw [if_neg (show ¬ (false = true) by decide)] at H; exact H
    clear H
    have H := H1
    clear H1
    obtain rfl := Option.some.inj H
    go_enter Try.func3, Try.ntmps3
    go_wp2_with (first | ((with_reducible refine gate_callee (f := 4) rfl ?_); refine goesL_ (some 6) rfl rfl Try.func4 (by kernel_rfl) rfl #[.int .u64 a0] rfl (by (try simp only [List.map_toArray, List.map_cons, List.map_nil]); first | done | rfl | (simp only [List.length_drop, List.length_take]; rfl)) ?_; (with_reducible refine (spec_MapToCurve.calls k a0 t101 t102 t103 _ A2.out).mono ?_); rintro e w15 ⟨rfl, hb⟩; refine ⟨_, rfl, ?_⟩; have n0_ := Aside0.mk (below_step (by repeat (first | (with_reducible first | exact HB.out | apply below_alloc | apply pw_below_drewN | apply below_drew1) | exact HB.out)) hb); clear HB; have HB := n0_; clear n0_; (try clear hb); (try clear hb2); (try clear hk); (try clear hi)) | ((with_reducible refine gate_dst (N := 3) rfl ?_); refine box_event ?hg (N := 3) ?hd (cs := #[.int .u64 0, .int .u64 0, .bool false]) (t := 24) ?hr ?_; (case hd => rfl); (case hg => rfl); (case hr => first | (go_simp; done) | (go_simp; rfl)); intro gb104 hg w16 hbox hb; have n0_ := Aside0.mk (below_step (by repeat (first | (with_reducible first | exact HB.out | apply below_alloc | apply pw_below_drewN | apply below_drew1) | exact HB.out)) hb); have n1_ := Aside0.mk (hbox); have n2_ := Aside0.mk ((by rw [hg]; exact (below_size (by repeat (first | (with_reducible first | exact HB.out | apply below_alloc | apply pw_below_drewN | apply below_drew1) | exact HB.out))) : w.heap.size ≤ gb104)); have n3_ := Aside0.mk ((by rw [hg]; exact (below_size (by repeat (first | (with_reducible first | exact HB.out | apply below_alloc | apply pw_below_drewN | apply below_drew1) | exact HB.out))) : w.heap.size ≤ gb104)); clear HB; have HB := n0_; have BK104 := n1_; have GW104 := n2_; have GE104 := n3_; clear n0_ n1_ n2_ n3_; clear hb hbox hg; have hcz17_0 : w16.cell? ⟨gb104, 0, none⟩ = some (.int .u64 0) := (blk_cell BK104.out 0).trans rfl; have hcz17_1 : w16.cell? ⟨gb104, 1, none⟩ = some (.int .u64 0) := (blk_cell BK104.out 1).trans rfl; have hcz17_2 : w16.cell? ⟨gb104, 2, none⟩ = some (.bool false) := (blk_cell BK104.out 2).trans rfl; have hfz17_0 := blk_frozen BK104.out 0; have hfz17_1 := blk_frozen BK104.out 1; have hfz17_2 := blk_frozen BK104.out 2) | ((with_reducible refine gate_callee (f := 5) rfl ?_); refine goesL_ (some 8) rfl rfl Try.func5 (by kernel_rfl) rfl #[.int .u64 a0] rfl (by (try simp only [List.map_toArray, List.map_cons, List.map_nil]); first | done | rfl | (simp only [List.length_drop, List.length_take]; rfl)) ?_; (with_reducible refine (impl_MapToCurve.calls a0 t105 t106 t107 _ A3.out).mono ?_); rintro e w18 ⟨rfl, hb⟩; refine ⟨_, rfl, ?_⟩; have n0_ := Aside0.mk (blk_below (g := gb104) (o := .cells #[.int .u64 t101, .int .u64 t102, .bool t103] 24 (0, 0)) (by (with_reducible repeat (first | refine blk_drewN ?_ _ | refine blk_drew ?_ | refine blk_alloc ?_ _)); refine blk_put (cs := #[.int .u64 t101, .int .u64 t102, .bool false]) ?_ 2 _ rfl; (with_reducible repeat (first | refine blk_drewN ?_ _ | refine blk_drew ?_ | refine blk_alloc ?_ _)); refine blk_put (cs := #[.int .u64 t101, .int .u64 0, .bool false]) ?_ 1 _ rfl; (with_reducible repeat (first | refine blk_drewN ?_ _ | refine blk_drew ?_ | refine blk_alloc ?_ _)); refine blk_put (cs := #[.int .u64 0, .int .u64 0, .bool false]) ?_ 0 _ rfl; (with_reducible repeat (first | refine blk_drewN ?_ _ | refine blk_drew ?_ | refine blk_alloc ?_ _)); exact BK104.out) hb); have n1_ := Aside0.mk (below_step (by repeat (first | (with_reducible first | exact HB.out | apply below_alloc | apply pw_below_drewN | apply below_drew1 | refine below_set ?_ GE104.out) | exact HB.out)) hb); clear BK104; clear HB; have BK104 := n0_; have HB := n1_; clear n0_ n1_; (try clear hb); (try clear hb2); (try clear hk); (try clear hi)) | ((with_reducible refine gate_dst (N := 4) rfl ?_); refine box_event ?hg (N := 4) ?hd (cs := #[.int .u64 0, .int .u64 0, .bool false]) (t := 24) ?hr ?_; (case hd => rfl); (case hg => rfl); (case hr => first | (go_simp; done) | (go_simp; rfl)); intro gb108 hg w19 hbox hb; have n0_ := Aside0.mk (blk_below (g := gb104) (o := .cells #[.int .u64 t101, .int .u64 t102, .bool t103] 24 (0, 0)) (by (with_reducible repeat (first | refine blk_drewN ?_ _ | refine blk_drew ?_ | refine blk_alloc ?_ _)); exact BK104.out) hb); have n1_ := Aside0.mk (below_step (by repeat (first | (with_reducible first | exact HB.out | apply below_alloc | apply pw_below_drewN | apply below_drew1 | refine below_set ?_ GE104.out) | exact HB.out)) hb); have n2_ := Aside0.mk (hbox); have n3_ := Aside0.mk ((by rw [hg]; exact (below_size (by repeat (first | (with_reducible first | exact HB.out | apply below_alloc | apply pw_below_drewN | apply below_drew1 | refine below_set ?_ GE104.out) | exact HB.out))) : w.heap.size ≤ gb108)); have n4_ := Aside0.mk ((by rw [hg]; exact (below_size (by repeat (first | (with_reducible first | exact HB.out | apply below_alloc | apply pw_below_drewN | apply below_drew1 | refine below_set ?_ GE104.out) | exact HB.out))) : w.heap.size ≤ gb108)); have n5_ := Aside0.mk ((by rw [hg]; exact Nat.ne_of_lt (blk_lt (g := gb104) (o := .cells #[.int .u64 t101, .int .u64 t102, .bool t103] 24 (0, 0)) (by (with_reducible repeat (first | refine blk_drewN ?_ _ | refine blk_drew ?_ | refine blk_alloc ?_ _)); exact BK104.out)) : gb104 ≠ gb108)); have n6_ := Aside0.mk ((by rw [hg]; exact Nat.ne_of_gt (blk_lt (g := gb104) (o := .cells #[.int .u64 t101, .int .u64 t102, .bool t103] 24 (0, 0)) (by (with_reducible repeat (first | refine blk_drewN ?_ _ | refine blk_drew ?_ | refine blk_alloc ?_ _)); exact BK104.out)) : gb108 ≠ gb104)); clear BK104; clear HB; have BK104 := n0_; have HB := n1_; have BK108 := n2_; have GW108 := n3_; have GE108 := n4_; have NB104_108 := n5_; have NB108_104 := n6_; clear n0_ n1_ n2_ n3_ n4_ n5_ n6_; clear hb hbox hg; have hnb20 := NB108_104.out; have hnc20 := NB104_108.out; have hcz21_0 : w19.cell? ⟨gb108, 0, none⟩ = some (.int .u64 0) := (blk_cell BK108.out 0).trans rfl; have hcz21_1 : w19.cell? ⟨gb108, 1, none⟩ = some (.int .u64 0) := (blk_cell BK108.out 1).trans rfl; have hcz21_2 : w19.cell? ⟨gb108, 2, none⟩ = some (.bool false) := (blk_cell BK108.out 2).trans rfl; have hfz21_0 := blk_frozen BK108.out 0; have hfz21_1 := blk_frozen BK108.out 1; have hfz21_2 := blk_frozen BK108.out 2; have hcz22_0 : w19.cell? ⟨gb104, 0, none⟩ = some (.int .u64 t101) := (blk_cell BK104.out 0).trans rfl; have hcz22_1 : w19.cell? ⟨gb104, 1, none⟩ = some (.int .u64 t102) := (blk_cell BK104.out 1).trans rfl; have hcz22_2 : w19.cell? ⟨gb104, 2, none⟩ = some (.bool t103) := (blk_cell BK104.out 2).trans rfl; have hfz22_0 := blk_frozen BK104.out 0; have hfz22_1 := blk_frozen BK104.out 1; have hfz22_2 := blk_frozen BK104.out 2) | ((with_reducible refine gate_callee (f := 6) rfl ?_); refine goesL_ (some 11) rfl rfl Try.func6 (by kernel_rfl) rfl #[.agg #[.int .u64 t105, .int .u64 t106, .bool t107], .agg #[.int .u64 t101, .int .u64 t102, .bool t103]] rfl (by (try simp only [List.map_toArray, List.map_cons, List.map_nil]); first | done | rfl | (simp only [List.length_drop, List.length_take]; rfl)) ?_; (with_reducible refine (laws_eqPoint.calls t105 t106 t107 t101 t102 t103 false _ A4.out).mono ?_); rintro e w23 ⟨rfl, hb⟩; refine ⟨_, rfl, ?_⟩; have n0_ := Aside0.mk (blk_below (g := gb104) (o := .cells #[.int .u64 t101, .int .u64 t102, .bool t103] 24 (0, 0)) (by (with_reducible repeat (first | refine blk_drewN ?_ _ | refine blk_drew ?_ | refine blk_alloc ?_ _)); refine blk_far ?_ NB104_108.out _; (with_reducible repeat (first | refine blk_drewN ?_ _ | refine blk_drew ?_ | refine blk_alloc ?_ _)); refine blk_far ?_ NB104_108.out _; (with_reducible repeat (first | refine blk_drewN ?_ _ | refine blk_drew ?_ | refine blk_alloc ?_ _)); refine blk_far ?_ NB104_108.out _; (with_reducible repeat (first | refine blk_drewN ?_ _ | refine blk_drew ?_ | refine blk_alloc ?_ _)); exact BK104.out) hb); have n1_ := Aside0.mk (blk_below (g := gb108) (o := .cells #[.int .u64 t105, .int .u64 t106, .bool t107] 24 (0, 0)) (by (with_reducible repeat (first | refine blk_drewN ?_ _ | refine blk_drew ?_ | refine blk_alloc ?_ _)); refine blk_put (cs := #[.int .u64 t105, .int .u64 t106, .bool false]) ?_ 2 _ rfl; (with_reducible repeat (first | refine blk_drewN ?_ _ | refine blk_drew ?_ | refine blk_alloc ?_ _)); refine blk_put (cs := #[.int .u64 t105, .int .u64 0, .bool false]) ?_ 1 _ rfl; (with_reducible repeat (first | refine blk_drewN ?_ _ | refine blk_drew ?_ | refine blk_alloc ?_ _)); refine blk_put (cs := #[.int .u64 0, .int .u64 0, .bool false]) ?_ 0 _ rfl; (with_reducible repeat (first | refine blk_drewN ?_ _ | refine blk_drew ?_ | refine blk_alloc ?_ _)); exact BK108.out) hb); have n2_ := Aside0.mk (below_step (by repeat (first | (with_reducible first | exact HB.out | apply below_alloc | apply pw_below_drewN | apply below_drew1 | refine below_set ?_ GE104.out | refine below_set ?_ GE108.out) | exact HB.out)) hb); clear BK104; clear BK108; clear HB; have BK104 := n0_; have BK108 := n1_; have HB := n2_; clear n0_ n1_ n2_; (try clear hb); (try clear hb2); (try clear hk); (try clear hi)))
    go_ret
    exact ⟨by first | rfl | (simp [errW_none, errW_some] <;> rfl) | (simp [*, errW_none, errW_some] <;> rfl), by repeat (first | (with_reducible first | exact HB.out | apply below_alloc | apply pw_below_drewN | apply below_drew1 | refine below_set ?_ GE104.out | refine below_set ?_ GE108.out) | exact HB.out)⟩

/-- THE ONE PURE STATEMENT of laws_FnExactMapToCurve: yours. -/
def laws_FnExactMapToCurve.Pure : Prop := ∀ (a0 : Int), (Lit.int .u64 a0).wf = true → ∃ k, laws_FnExactMapToCurve.f k a0 = some true
theorem laws_FnExactMapToCurve.walk (P : laws_FnExactMapToCurve.Pure) (a0 : Int) (w : World) (w0 : (Lit.int .u64 a0).wf = true) :
    Calls Try.prog 3 #[.int .u64 a0] w fun e w' => e = .returned (.bool true) ∧ Below w.heap.size w w' := by
  obtain ⟨k, h⟩ := P a0 w0
  refine (laws_FnExactMapToCurve.calls k a0 true w h).mono ?_
  rintro e w' ⟨rfl, hd⟩
  exact ⟨rfl, hd⟩

end Go.Proofs.Ytkefcokmghbmhaa.D
end
section
namespace Go.Proofs.Ytkefcokmghbmhaa.Pure
open Go.RowKit Go.Proofs.Ytkefcokmghbmhaa.B Go.Proofs.Ytkefcokmghbmhaa.C Go.Proofs.Ytkefcokmghbmhaa.D Go.Proofs.Ytkefcokmghbmhaa.H0 Go.Proofs.Ytkefcokmghbmhaa.H1 Go.Proofs.Ytkefcokmghbmhaa.H2 Go.Proofs.Ytkefcokmghbmhaa.H3 Go.Proofs.Ytkefcokmghbmhaa.C2 Go.Proofs.Ytkefcokmghbmhaa.MC Go.Proofs.YtkefcokmghbmhaaW.PrintWords Go.Proofs.YtkefcokmghbmhaaW.PrintLast Go.Proofs.YtkefcokmghbmhaaW.PrintMore
open EC Fp Grp Vi
set_option linter.unusedVariables false
set_option linter.unusedSimpArgs false
theorem vi_in (a : Fp) : In (vi a) := vi_range a
theorem tm_vi (a b : Fp) : tm (vi a) (vi b) = vi (a * b) := vi_mul a b
theorem ad_vi (a b : Fp) : ad (vi a) (vi b) = vi (a + b) := vi_add a b
theorem iv_vi (a : Fp) : iv (vi a) = vi (inv a) := by
  unfold iv
  rw [inverse_P _ (vi_range a).1 (by have := (vi_range a).2; omega), vi_inv a 2305843009213693949 rfl]; rfl
theorem rhs_ints (x p : Int) : (((x * x % p * x) % p - (3 * x) % p) % p + 111) % p = (x * x * x - 3 * x + 111) % p := by
  obtain ⟨k1, e1⟩ := mod_out (x * x) p
  obtain ⟨k2, e2⟩ := mod_out (x * x % p * x) p
  obtain ⟨k3, e3⟩ := mod_out (3 * x) p
  obtain ⟨k4, e4⟩ := mod_out ((x * x % p * x) % p - (3 * x) % p) p
  rw [e4, e3, e2, e1]
  refine Int.emod_eq_emod_iff_emod_sub_eq_zero.2 (Int.emod_eq_zero_of_dvd ⟨-k4 + k3 - k2 - k1 * x, ?_⟩)
  grind
theorem rhs_vi (a : Fp) : rhs (vi a) = vi (Swu.g a) := by
  have e : Swu.g a = a * a * a - 3 * a + 111 := by unfold Swu.g; grobner
  rw [e, ← vi_add, ← vi_sub, ← vi_mul, ← vi_mul, ← vi_mul, show vi 3 = 3 from rfl, show vi 111 = 111 from rfl, rhs_ints]
  rfl
theorem rq_vi (a : Fp) : rq (vi a) = vi (Swu.rt a) := by rw [rq_eq (vi_in a)]; exact vi_rt a _ rfl
theorem rk_vi (a : Fp) : rk (vi a) = decide (Swu.rt a * Swu.rt a = a) := by
  unfold rk
  rw [rq_vi, tm_vi]
  by_cases h : Swu.rt a * Swu.rt a = a
  · rw [h]; simp
  · rw [decide_eq_false h]; exact beq_eq_false_iff_ne.2 (fun e => h (vi_inj e))
theorem sqrt_vi (a : Fp) {k : Nat} (hk : 131 ≤ k) : spec_Sqrt.f k (vi a) = some (if rk (vi a) = true then (ry (vi a), true) else (0, false)) := by
  have hr := vi_range a
  rw [sqrt_spec _ hr.1 (by omega) hk, if_neg (by omega)]
  have e : vi a ^ 576460752303423488 % 2305843009213693951 = rq (vi a) := (rq_eq (vi_in a)).symm
  rw [e]
  unfold rk ry
  by_cases h : rq (vi a) * rq (vi a) % 2305843009213693951 = vi a
  · rw [if_pos h, if_pos (show (tm (rq (vi a)) (rq (vi a)) == vi a) = true from beq_iff_eq.2 h)]
  · rw [if_neg h, if_neg (show ¬ (tm (rq (vi a)) (rq (vi a)) == vi a) = true from fun e => h (beq_iff_eq.1 e))]
theorem invmod_vi (a : Fp) {k : Nat} (hk : 131 ≤ k) : spec_InvMod.f k (vi a) 2305843009213693951 = some (vi (inv a)) := by
  unfold spec_InvMod.f
  rw [if_neg (by decide), show IntKind.u64.wrap (2305843009213693951 - 2) = 2305843009213693949 by decide, spec_powmod _ _ _ (vi_range a).1 (by decide) (by decide) (by decide) (by decide) hk]
  rw [Option.bind_some, if_neg (by decide), vi_inv a (2305843009213693949 : Int).toNat (by decide)]
theorem times_vi (a b : Fp) : spec_l2Times.f (vi a) (vi b) = some (vi (a * b)) := by
  rw [l2Times (vi_range a).1 (vi_range a).2 (vi_range b).1 (vi_range b).2, vi_mul]
theorem add_vi (a b : Fp) : spec_l2Add.f (vi a) (vi b) 2305843009213693951 = some (vi (a + b)) := by
  rw [l2Add (vi_range a).1 (vi_range a).2 (vi_range b).1 (vi_range b).2 (by decide), vi_add]
theorem right_vi (a : Fp) : spec_l3Right.f (vi a) = some (vi (Swu.g a)) := by rw [right_P _ (vi_range a).1 (vi_range a).2, rhs_vi]

theorem neg_mod {y : Int} (h : In y) : Int.tmod (IntKind.u64.wrap (2305843009213693951 - y)) 2305843009213693951 = ng y := by
  have h0 := h.1; have h1 := h.2
  rw [wu (by omega) (by omega), Int.tmod_eq_emod_of_nonneg (by omega)]
  unfold ng; split <;> omega

theorem map_j0 (u : Int) (hu : In u) (z x : Fp) (hok : rk (vi (Swu.g x)) = false → rk (vi (Swu.g (z * x))) = true) {k : Nat} (hk : 132 ≤ k) :
    spec_MapToCurve.j0 k u (vi z) (vi x) = some (fx (vi z) (vi x), yy u (fy (vi z) (vi x)), false) := by
  obtain ⟨k, rfl⟩ : ∃ j, k = j + 1 := ⟨k - 1, by omega⟩
  rw [spec_MapToCurve.j0, right_vi, Option.bind_some, sqrt_vi _ (by omega), Option.bind_some]
  rw [Int.tmod_eq_emod_of_nonneg hu.1]
  by_cases h : rk (vi (Swu.g x)) = true
  · have ex : fx (vi z) (vi x) = vi x := by unfold fx; rw [rhs_vi, if_pos h]
    have ey : fy (vi z) (vi x) = ry (vi (Swu.g x)) := by unfold fy; rw [ex, rhs_vi]
    rw [if_pos h, if_pos rfl, ex, ey]
    have hy : In (ry (vi (Swu.g x))) := in_ry (vi_in _)
    unfold yy
    by_cases hp : u % 2 = 1
    · rw [if_pos hp, if_pos hp, neg_mod hy]
    · rw [if_neg hp, if_neg hp]
  · have h2 : rk (vi (Swu.g x)) = false := by simpa using h
    have ex : fx (vi z) (vi x) = vi (z * x) := by unfold fx; rw [rhs_vi, if_neg h, tm_vi]
    have ey : fy (vi z) (vi x) = ry (vi (Swu.g (z * x))) := by unfold fy; rw [ex, rhs_vi]
    rw [if_neg h, if_neg (by decide), ex, ey, times_vi, Option.bind_some, right_vi, Option.bind_some, sqrt_vi _ (by omega), Option.bind_some, if_pos (hok h2)]
    have hy : In (ry (vi (Swu.g (z * x)))) := in_ry (vi_in _)
    unfold yy
    by_cases hp : u % 2 = 1
    · rw [if_pos hp, if_pos hp, neg_mod hy]
    · rw [if_neg hp, if_neg hp]

theorem map_same (u : Int) (h0 : 0 ≤ u) (h1 : u < 18446744073709551616) {k : Nat} (hk : 132 ≤ k) : spec_MapToCurve.f k u = impl_MapToCurve.f u := by
  unfold spec_MapToCurve.f impl_MapToCurve.f
  rw [if_pos ⟨h0, h1⟩, Int.tmod_eq_emod_of_nonneg h0]
  have hw := in_wN u
  obtain ⟨a, ea⟩ := vi_of hw.1 hw.2
  have ez : zN u = vi (-2 * (a * a)) := by
    unfold zN; rw [ea, show (2305843009213693949 : Int) = vi (-2) from rfl, tm_vi, tm_vi, show (-2 : Fp) * a * a = -2 * (a * a) by grobner]
  have et : tN u = vi (-2 * (a * a) * (-2 * (a * a)) + -2 * (a * a)) := by unfold tN; rw [ez, tm_vi, ad_vi]
  rw [show u % 2305843009213693951 = vi a from ea]
  rw [times_vi, Option.bind_some, show (2305843009213693949 : Int) = vi (-2) from rfl, times_vi, Option.bind_some, times_vi, Option.bind_some, add_vi, Option.bind_some]
  rw [show (2305843009213693948 : Int) = vi (-3) from rfl, times_vi, Option.bind_some, invmod_vi _ (by omega), Option.bind_some, show (111 : Int) = vi 111 from rfl, times_vi, Option.bind_some]
  rw [show wN u = vi a from ea]
  by_cases h : -2 * (a * a) * (-2 * (a * a)) + -2 * (a * a) = 0
  · rw [if_pos (vi_zero.2 h)]
    have ex : xN u = vi (111 * inv (-2 * -3)) := by
      unfold xN; rw [if_pos (by rw [et]; exact vi_zero.2 h)]
      rw [show (2305843009213693949 : Int) = vi (-2) from rfl, show (2305843009213693948 : Int) = vi (-3) from rfl, show (111 : Int) = vi 111 from rfl, tm_vi, iv_vi, tm_vi]
    rw [map_j0 (vi a) (vi_in a) _ _ (fun hn => ?_) hk, ez, ex]
    rw [rk_vi, decide_eq_true Swu.zero_ok] at hn; exact absurd hn (by decide)
  · rw [if_neg (fun e => h (vi_zero.1 e))]
    have ex : xN u = vi (-111 * inv (-3) * (1 + inv (-2 * (a * a) * (-2 * (a * a)) + -2 * (a * a)))) := by
      unfold xN; rw [if_neg (by rw [et]; exact fun e => h (vi_zero.1 e))]
      rw [et, show ng 111 = vi (-111) from rfl, show (2305843009213693948 : Int) = vi (-3) from rfl, iv_vi, iv_vi, tm_vi, show (1 : Int) = vi 1 from rfl, ad_vi, tm_vi]
    rw [invmod_vi _ (by omega), Option.bind_some, show (2305843009213693840 : Int) = vi (-111) from rfl, times_vi, Option.bind_some, invmod_vi _ (by omega), Option.bind_some, show (1 : Int) = vi 1 from rfl, add_vi, Option.bind_some, times_vi, Option.bind_some]
    rw [map_j0 (vi a) (vi_in a) _ _ (fun hn => ?_) hk, ez, ex]
    rw [rk_vi] at hn ⊢
    exact decide_eq_true (Swu.two_ok rfl rfl h rfl (of_decide_eq_false hn))

theorem FnExactMapToCurve : laws_FnExactMapToCurve.Pure := by
  intro u hu
  have hu := bounds_u64 hu
  refine ⟨132, ?_⟩
  unfold laws_FnExactMapToCurve.f
  have hm := map_same u hu.1 (by omega) (k := 132) (by omega)
  have hs : impl_MapToCurve.f u = some (fx (zN u) (xN u), yy (wN u) (fy (zN u) (xN u)), false) := if_pos ⟨hu.1, by omega⟩
  rw [hm, hs]
  simp [laws_eqPoint.f]
end Go.Proofs.Ytkefcokmghbmhaa.Pure
end
