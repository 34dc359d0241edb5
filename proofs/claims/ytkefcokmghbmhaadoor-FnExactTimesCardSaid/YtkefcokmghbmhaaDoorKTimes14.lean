/- What the proof of FnExactTimes leans on, part 14: cut out of the texts of this claim's making by a program (wip/tools/pack.py). -/
import Derived.Test.YtkefcokmghbmhaaDoorKTimes0
import Derived.Test.YtkefcokmghbmhaaDoorKTimes12
import Derived.Outline
section
namespace Go.Proofs.YtkefcokmghbmhaaDoor.CD
open Go Go.RowKit Go.Proofs.YtkefcokmghbmhaaDoorW.PrintWords Go.Proofs.YtkefcokmghbmhaaDoorW.PrintLast Go.Proofs.YtkefcokmghbmhaaDoorW.PrintMore Go.Proofs.YtkefcokmghbmhaaDoor.H0 Go.Proofs.YtkefcokmghbmhaaDoor.H1 Go.Proofs.YtkefcokmghbmhaaDoor.CR Go.Proofs.YtkefcokmghbmhaaDoor.C2
set_option linter.unusedVariables false
set_option linter.unusedSimpArgs false
theorem new2_0 (w : World) (o1 o2 : Obj) : ((w.alloc o1).alloc o2).heap[w.heap.size]? = some o1 := by rw [heap_alloc_old _ _ (by simp), heap_alloc_new]
theorem new2_1 (w : World) (o1 o2 : Obj) : ((w.alloc o1).alloc o2).heap[w.heap.size + 1]? = some o2 := by
  have := heap_alloc_new (w.alloc o1) o2; rwa [World.size_alloc] at this
theorem newB2 (w : World) (o1 o2 : Obj) : Below w.heap.size w ((w.alloc o1).alloc o2) := ((Below.refl _ w).alloc (Nat.le_refl _) _).alloc (by simp) _
theorem new3_0 (w : World) (o1 o2 o3 : Obj) : (((w.alloc o1).alloc o2).alloc o3).heap[w.heap.size]? = some o1 := by rw [heap_alloc_old _ _ (by simp; omega), new2_0]
theorem new3_1 (w : World) (o1 o2 o3 : Obj) : (((w.alloc o1).alloc o2).alloc o3).heap[w.heap.size + 1]? = some o2 := by rw [heap_alloc_old _ _ (by simp), new2_1]
theorem new3_2 (w : World) (o1 o2 o3 : Obj) : (((w.alloc o1).alloc o2).alloc o3).heap[w.heap.size + 1 + 1]? = some o3 := by
  have := heap_alloc_new ((w.alloc o1).alloc o2) o3; simpa only [World.size_alloc] using this
theorem newB3 (w : World) (o1 o2 o3 : Obj) : Below w.heap.size w (((w.alloc o1).alloc o2).alloc o3) := (newB2 w o1 o2).alloc (by simp; omega) _
theorem i_lit (n : Int) (h : 0 ≤ n := by decide) (h' : n < 2305843009213693951 := by decide) : In n := ⟨h, h'⟩
theorem set3 {W : World} {r : Nat} {u1 u2 u3 a b c : Value} (h : W.heap[r]? = some (.cells #[u1, u2, u3] 98 (0, 0))) : (((W.setCell ⟨r, 0, none⟩ a).setCell ⟨r, 1, none⟩ b).setCell ⟨r, 2, none⟩ c).heap[r]? = some (.cells #[a, b, c] 98 (0, 0)) := by
  have h0 := heap_setCell_same W r 0 _ 98 a h
  have h1 := heap_setCell_same _ r 1 _ 98 b h0
  have h2 := heap_setCell_same _ r 2 _ 98 c h1
  simpa using h2
theorem tab121_1 : rtab .any (opsOf Tryd.f121 1) = (rtab .any (opsOf Tryd.f121 1)) := rfl
theorem bits121_1 : waitsOk (rtab .any (opsOf Tryd.f121 1)).2 [0, 1, 0, 4, 0, 16, 0, 0, 0, 451, 975, 2047] = true := by kernel_rfl
theorem tab121_7 : rtab .any (opsOf Tryd.f121 7) = (rtab .any (opsOf Tryd.f121 7)) := rfl
theorem bits121_7 : waitsOk (rtab .any (opsOf Tryd.f121 7)).2 [0, 0, 3, 0, 15, 0, 63] = true := by kernel_rfl
theorem tab121_8 : rtab .any (opsOf Tryd.f121 8) = (rtab .any (opsOf Tryd.f121 8)) := rfl
theorem bits121_8 : waitsOk (rtab .any (opsOf Tryd.f121 8)).2 [0, 0, 0, 6, 0, 0, 62, 126, 255, 0, 1023] = true := by kernel_rfl
theorem tab121_9 : rtab .any (opsOf Tryd.f121 9) = (rtab .any (opsOf Tryd.f121 9)) := rfl
theorem bits121_9 : waitsOk (rtab .any (opsOf Tryd.f121 9)).2 [0, 0, 3, 0, 15, 0, 63, 0, 255] = true := by kernel_rfl
theorem tab121_10 : rtab .any (opsOf Tryd.f121 10) = (rtab .any (opsOf Tryd.f121 10)) := rfl
theorem bits121_10 : waitsOk (rtab .any (opsOf Tryd.f121 10)).2 [0, 0, 0, 6, 15, 0, 0, 127, 0, 511, 1023, 0, 4095] = true := by kernel_rfl
theorem tab121_11 : rtab .any (opsOf Tryd.f121 11) = (rtab .any (opsOf Tryd.f121 11)) := rfl
theorem bits121_11 : waitsOk (rtab .any (opsOf Tryd.f121 11)).2 [0, 0, 0, 0, 12, 0, 0, 124, 252, 511, 1023] = true := by kernel_rfl
/-- The double, number by number. -/
def dblN (X Y Z : Int) : Int × Int × Int :=
  let t121_35 := tm Y Y
  let t121_38 := tm Z Z
  let t121_44 := tm 4 X
  let t121_46 := tm t121_44 t121_35
  let t121_50 := tm X X
  let t121_53 := tm t121_38 t121_38
  let t121_54 := mi t121_50 t121_53
  let t121_55 := tm 3 t121_54
  let t121_58 := tm t121_55 t121_55
  let t121_60 := mi t121_58 t121_46
  let t121_62 := mi t121_60 t121_46
  let t121_66 := mi t121_46 t121_62
  let t121_67 := tm t121_55 t121_66
  let t121_70 := tm 8 t121_35
  let t121_72 := tm t121_70 t121_35
  let t121_73 := mi t121_67 t121_72
  let t121_78 := tm Y Z
  let t121_81 := tm Y Z
  let t121_82 := ad t121_78 t121_81
  (t121_62, t121_73, t121_82)
set_option maxRecDepth 100000 in
set_option maxHeartbeats 8000000 in
theorem double_nz {X Y Z : Int} (hX : In X) (hY : In Y) (hZ : In Z) (hy : Y ≠ 0) (hz : Z ≠ 0) (w : World) : Calls Tryd.prog 121 #[.agg #[.int .u64 X, .int .u64 Y, .int .u64 Z]] w fun e w' => e = .returned (.agg #[.int .u64 ((dblN X Y Z).1), .int .u64 ((dblN X Y Z).2.1), .int .u64 ((dblN X Y Z).2.2)]) ∧ Below w.heap.size w w' := by
  have yb : (Y == 0) = false := by simpa using hy
  have zb : (Z == 0) = false := by simpa using hz
  clear hy hz
  go_enter Tryd.func121, Tryd.ntmps121
  refine wp_seq_k fun K hK => ?_
  replace hK := Aside0.mk hK
  go_wp2
  refine hK.out _ _ ?_
  clear hK K
  have hb0 : ((w.alloc (.cells #[.int .u64 X, .int .u64 Y, .int .u64 Z] 98)).alloc (.cells #[.int .u64 0, .int .u64 0, .int .u64 0] 98)).heap[w.heap.size]? = some (.cells #[.int .u64 X, .int .u64 Y, .int .u64 Z] 98 (0, 0)) := new2_0 _ _ _
  have hb1 : ((w.alloc (.cells #[.int .u64 X, .int .u64 Y, .int .u64 Z] 98)).alloc (.cells #[.int .u64 0, .int .u64 0, .int .u64 0] 98)).heap[w.heap.size + 1]? = some (.cells #[.int .u64 0, .int .u64 0, .int .u64 0] 98 (0, 0)) := new2_1 _ _ _
  have n0 : some (w.heap.size) ≠ some (w.heap.size + 1) := by intro e_; injection e_; omega
  have hB : Below w.heap.size w ((w.alloc (.cells #[.int .u64 X, .int .u64 Y, .int .u64 Z] 98)).alloc (.cells #[.int .u64 0, .int .u64 0, .int .u64 0] 98)) := newB2 _ _ _
  generalize ((w.alloc (.cells #[.int .u64 X, .int .u64 Y, .int .u64 Z] 98)).alloc (.cells #[.int .u64 0, .int .u64 0, .int .u64 0] 98)) = V0 at *
  refine wp_seq_k fun K hK => ?_
  obtain ⟨W1, eW1⟩ : ∃ W_, W_ = V0.drew := ⟨_, rfl⟩
  replace hb0 := (show W1.heap[w.heap.size]? = V0.heap[w.heap.size]? by rw [eW1]; rfl).trans hb0
  replace hb1 := (show W1.heap[w.heap.size + 1]? = V0.heap[w.heap.size + 1]? by rw [eW1]; rfl).trans hb1
  replace hB : Below w.heap.size w W1 := by rw [eW1]; exact below_drew' hB
  have hr_ := lt_of_heap hb1
  let c : Cfg := ⟨{ tmps := #[.agg #[.int .u64 X, .int .u64 Y, .int .u64 Z], .pointer (some ⟨w.heap.size, 0, none⟩), .pointer (some ⟨w.heap.size + 1, 0, none⟩), undef, undef, undef, undef, undef, undef, undef, undef, undef, undef, undef, undef, undef, undef, undef, undef, undef, undef, undef, undef, undef, undef, undef, undef, undef, undef, undef, undef, undef, undef, undef, undef, undef, undef, undef, undef, undef, undef, undef, undef, undef, undef, undef, undef, undef, undef, undef, undef, undef, undef, undef, undef, undef, undef, undef, undef, undef, undef, undef, undef, undef, undef, undef, undef, undef, undef, undef, undef, undef, undef, undef, undef, undef, undef, undef, undef, undef, undef, undef, undef, undef], defers := [] }, W1, none, fun G => [(0, 15, .pointer (some ⟨w.heap.size, 0, none⟩)), (1, 16, .agg #[.int .u64 X]), (2, 17, .pointer (some ⟨w.heap.size, 1, none⟩)), (3, 18, .agg #[.int .u64 Y]), (4, 19, .pointer (some ⟨w.heap.size, 2, none⟩)), (5, 20, .agg #[.int .u64 Z]), (6, 3, .pointer (some ⟨G 6, 0, none⟩)), (7, 4, .pointer (some ⟨G 7, 0, none⟩)), (8, 5, .pointer (some ⟨G 8, 0, none⟩))], [(6, 9, .int .u64 X), (7, 10, .int .u64 Y), (8, 11, .int .u64 Z)], 85, []⟩
  refine drawn_region (IB c) (n := 12) rfl rfl tab121_1 bits121_1 (by kernel_rfl) (by kernel_rfl) (by rw [← eW1]; exact (start_IB c (by intro x hx; cases hx))) ?_ (end_IB c (by intro G e he; exact List.all_eq_true.1 (show ((c.L G).all fun e => (List.range 12).contains e.1) = true from rfl) e he) (by intro e he; have := List.all_eq_true.1 (show (c.E.all fun e => (List.range 12).contains e.1 && (List.range 12).contains e.2.1) = true from rfl) e he; simpa using this) (by intro x hx; exact List.all_eq_true.1 (show (c.R.all fun x => (List.range 12).contains x.1) = true from rfl) x hx) ?_)
  · show ∀ i ∈ [0, 1, 2, 3, 4, 5, 6, 7, 8, 9, 10, 11], StepAt _ _ _ _ _ (IB c) i
    refine steps_cons (step_val c 0 0 _ 15 (.pointer (some ⟨w.heap.size, 0, none⟩)) rfl rfl rfl (fun _ => rfl) (fun _ => rfl) rfl rfl (fun G b w_ hon hg => index_sp (.tmp 1) 0 (by decide) rfl rfl (w.heap.size) (eval_of ((putSel_off rfl).trans rfl)))) ?_
    refine steps_cons (step_val c 1 1 _ 16 (.agg #[.int .u64 X]) rfl rfl rfl (fun _ => rfl) (fun _ => rfl) rfl rfl (fun G b w_ hon hg => load_num (.tmp 15) rfl (w.heap.size) 0 (eval_of (putSel_on (e := (0, 15, .pointer (some ⟨w.heap.size, 0, none⟩))) 0 rfl rfl (hon 0 rfl) rfl)) ((old_cell hg hb0 nofun 0).trans rfl))) ?_
    refine steps_cons (step_val c 2 2 _ 17 (.pointer (some ⟨w.heap.size, 1, none⟩)) rfl rfl rfl (fun _ => rfl) (fun _ => rfl) rfl rfl (fun G b w_ hon hg => index_sp (.tmp 1) 1 (by decide) rfl rfl (w.heap.size) (eval_of ((putSel_off rfl).trans rfl)))) ?_
    refine steps_cons (step_val c 3 3 _ 18 (.agg #[.int .u64 Y]) rfl rfl rfl (fun _ => rfl) (fun _ => rfl) rfl rfl (fun G b w_ hon hg => load_num (.tmp 17) rfl (w.heap.size) 1 (eval_of (putSel_on (e := (2, 17, .pointer (some ⟨w.heap.size, 1, none⟩))) 2 rfl rfl (hon 2 rfl) rfl)) ((old_cell hg hb0 nofun 1).trans rfl))) ?_
    refine steps_cons (step_val c 4 4 _ 19 (.pointer (some ⟨w.heap.size, 2, none⟩)) rfl rfl rfl (fun _ => rfl) (fun _ => rfl) rfl rfl (fun G b w_ hon hg => index_sp (.tmp 1) 2 (by decide) rfl rfl (w.heap.size) (eval_of ((putSel_off rfl).trans rfl)))) ?_
    refine steps_cons (step_val c 5 5 _ 20 (.agg #[.int .u64 Z]) rfl rfl rfl (fun _ => rfl) (fun _ => rfl) rfl rfl (fun G b w_ hon hg => load_num (.tmp 19) rfl (w.heap.size) 2 (eval_of (putSel_on (e := (4, 19, .pointer (some ⟨w.heap.size, 2, none⟩))) 4 rfl rfl (hon 4 rfl) rfl)) ((old_cell hg hb0 nofun 2).trans rfl))) ?_
    refine steps_cons (step_alloc c 6 6 9 _ 3 undef rfl rfl rfl (fun _ => rfl) (fun _ _ => rfl) (fun _ => rfl) rfl rfl rfl (alloc_num rfl)) ?_
    refine steps_cons (step_alloc c 7 7 10 _ 4 undef rfl rfl rfl (fun _ => rfl) (fun _ _ => rfl) (fun _ => rfl) rfl rfl rfl (alloc_num rfl)) ?_
    refine steps_cons (step_alloc c 8 8 11 _ 5 undef rfl rfl rfl (fun _ => rfl) (fun _ _ => rfl) (fun _ => rfl) rfl rfl rfl (alloc_num rfl)) ?_
    refine steps_cons (step_store c 9 6 _ (.int .u64 X) rfl rfl rfl (fun _ => rfl) rfl rfl 0 rfl rfl rfl (fun G b w_ hon hb => store_num (.tmp 3) (.tmp 16) rfl (G 6) (eval_of (putSel_on (e := (6, 3, .pointer (some ⟨G 6, 0, none⟩))) 6 rfl rfl (hon 6 rfl) rfl)) (eval_of (putSel_on (e := (1, 16, .agg #[.int .u64 X])) 1 rfl rfl (hon 1 rfl) rfl)) hb.choose_spec)) ?_
    refine steps_cons (step_store c 10 7 _ (.int .u64 Y) rfl rfl rfl (fun _ => rfl) rfl rfl 1 rfl rfl rfl (fun G b w_ hon hb => store_num (.tmp 4) (.tmp 18) rfl (G 7) (eval_of (putSel_on (e := (7, 4, .pointer (some ⟨G 7, 0, none⟩))) 7 rfl rfl (hon 7 rfl) rfl)) (eval_of (putSel_on (e := (3, 18, .agg #[.int .u64 Y])) 3 rfl rfl (hon 3 rfl) rfl)) hb.choose_spec)) ?_
    refine steps_cons (step_store c 11 8 _ (.int .u64 Z) rfl rfl rfl (fun _ => rfl) rfl rfl 2 rfl rfl rfl (fun G b w_ hon hb => store_num (.tmp 5) (.tmp 20) rfl (G 8) (eval_of (putSel_on (e := (8, 5, .pointer (some ⟨G 8, 0, none⟩))) 8 rfl rfl (hon 8 rfl) rfl)) (eval_of (putSel_on (e := (5, 20, .agg #[.int .u64 Z])) 5 rfl rfl (hon 5 rfl) rfl)) hb.choose_spec)) ?_
    exact steps_nil
  intro G V1 hgr hE hR
  obtain ⟨lg121_3, hg121_3⟩ := hE (6, 9, .int .u64 X) (by simp [c])
  dsimp only [c] at lg121_3 hg121_3
  obtain ⟨lg121_4, hg121_4⟩ := hE (7, 10, .int .u64 Y) (by simp [c])
  dsimp only [c] at lg121_4 hg121_4
  obtain ⟨lg121_5, hg121_5⟩ := hE (8, 11, .int .u64 Z) (by simp [c])
  dsimp only [c] at lg121_5 hg121_5
  replace hb0 := (hgr.block _ (lt_of_heap hb0) nofun).trans hb0
  replace hb1 := (hgr.block _ (lt_of_heap hb1) nofun).trans hb1
  replace hB := below_none hB hgr
  have ha_ : putAll' c.a0 (c.L G) = { tmps := #[.agg #[.int .u64 X, .int .u64 Y, .int .u64 Z], .pointer (some ⟨w.heap.size, 0, none⟩), .pointer (some ⟨w.heap.size + 1, 0, none⟩), .pointer (some ⟨G 6, 0, none⟩), .pointer (some ⟨G 7, 0, none⟩), .pointer (some ⟨G 8, 0, none⟩), undef, undef, undef, undef, undef, undef, undef, undef, undef, .pointer (some ⟨w.heap.size, 0, none⟩), .agg #[.int .u64 X], .pointer (some ⟨w.heap.size, 1, none⟩), .agg #[.int .u64 Y], .pointer (some ⟨w.heap.size, 2, none⟩), .agg #[.int .u64 Z], undef, undef, undef, undef, undef, undef, undef, undef, undef, undef, undef, undef, undef, undef, undef, undef, undef, undef, undef, undef, undef, undef, undef, undef, undef, undef, undef, undef, undef, undef, undef, undef, undef, undef, undef, undef, undef, undef, undef, undef, undef, undef, undef, undef, undef, undef, undef, undef, undef, undef, undef, undef, undef, undef, undef, undef, undef, undef, undef, undef, undef, undef, undef], defers := [] } := by kernel_rfl
  rw [ha_]
  clear ha_
  generalize G 6 = g121_3 at *
  have ng121_3 : some g121_3 ≠ some (w.heap.size + 1) := by intro e_; injection e_; omega
  generalize G 7 = g121_4 at *
  have ng121_4 : some g121_4 ≠ some (w.heap.size + 1) := by intro e_; injection e_; omega
  generalize G 8 = g121_5 at *
  have ng121_5 : some g121_5 ≠ some (w.heap.size + 1) := by intro e_; injection e_; omega
  clear c hE hR hgr hr_ eW1
  refine hK _ _ ?_
  clear hK K
  refine wp_seq ?_
  have c4 : V1.cell? ⟨g121_4, 0, none⟩ = some (.int .u64 Y) := (blk_cell hg121_4 0).trans rfl
  have c5 : V1.cell? ⟨g121_5, 0, none⟩ = some (.int .u64 Z) := (blk_cell hg121_5 0).trans rfl
  refine wp_seq_k fun K hK => ?_
  replace hK := Aside0.mk hK
  go_wp2
  refine hK.out _ _ ?_
  clear hK K
  refine wp_cond_false rfl ?_
  refine wp_skip ?_
  dsimp only [Exit.then]
  clear c4 c5
  refine wp_seq_k fun K hK => ?_
  obtain ⟨t121_35, et121_35⟩ : ∃ t, t = tm Y Y := ⟨_, rfl⟩
  have it121_35 : In t121_35 := by rw [et121_35]; exact in_tm _ _
  have hr_ := lt_of_heap hb1
  let c : Cfg := ⟨{ tmps := #[.agg #[.int .u64 X, .int .u64 Y, .int .u64 Z], .pointer (some ⟨w.heap.size, 0, none⟩), .pointer (some ⟨w.heap.size + 1, 0, none⟩), .pointer (some ⟨g121_3, 0, none⟩), .pointer (some ⟨g121_4, 0, none⟩), .pointer (some ⟨g121_5, 0, none⟩), undef, undef, undef, undef, undef, undef, undef, undef, undef, .pointer (some ⟨w.heap.size, 0, none⟩), .agg #[.int .u64 X], .pointer (some ⟨w.heap.size, 1, none⟩), .agg #[.int .u64 Y], .pointer (some ⟨w.heap.size, 2, none⟩), .agg #[.int .u64 Z], .pointer (some ⟨g121_4, 0, none⟩), .int .u64 Y, .bool false, .bool false, .pointer (some ⟨g121_5, 0, none⟩), .int .u64 Z, .bool false, .bool false, undef, undef, undef, undef, undef, undef, undef, undef, undef, undef, undef, undef, undef, undef, undef, undef, undef, undef, undef, undef, undef, undef, undef, undef, undef, undef, undef, undef, undef, undef, undef, undef, undef, undef, undef, undef, undef, undef, undef, undef, undef, undef, undef, undef, undef, undef, undef, undef, undef, undef, undef, undef, undef, undef, undef], defers := [] }, V1, none, fun G => [(0, 33, .agg #[.int .u64 Y]), (1, 34, .agg #[.int .u64 Y]), (2, 35, .agg #[.int .u64 t121_35]), (3, 6, .pointer (some ⟨G 3, 0, none⟩))], [(3, 4, .int .u64 t121_35)], 85, []⟩
  refine seq_region (IB c) (n := 5) rfl (start_IB c (by intro x hx; cases hx)) ?_ (end_IB c (by intro G e he; exact List.all_eq_true.1 (show ((c.L G).all fun e => (List.range 5).contains e.1) = true from rfl) e he) (by intro e he; have := List.all_eq_true.1 (show (c.E.all fun e => (List.range 5).contains e.1 && (List.range 5).contains e.2.1) = true from rfl) e he; simpa using this) (by intro x hx; exact List.all_eq_true.1 (show (c.R.all fun x => (List.range 5).contains x.1) = true from rfl) x hx) ?_)
  · show ∀ i ∈ [0, 1, 2, 3, 4], StepAt _ _ _ _ _ (IB c) i
    refine steps_cons (step_val c 0 0 _ 33 (.agg #[.int .u64 Y]) rfl rfl rfl (fun _ => rfl) (fun _ => rfl) rfl rfl (fun G b w_ hon hg => load_num (.tmp 4) rfl (g121_4) 0 (eval_of ((putSel_off rfl).trans rfl)) ((old_cell hg hg121_4 nofun 0).trans rfl))) ?_
    refine steps_cons (step_val c 1 1 _ 34 (.agg #[.int .u64 Y]) rfl rfl rfl (fun _ => rfl) (fun _ => rfl) rfl rfl (fun G b w_ hon hg => load_num (.tmp 4) rfl (g121_4) 0 (eval_of ((putSel_off rfl).trans rfl)) ((old_cell hg hg121_4 nofun 0).trans rfl))) ?_
    refine steps_cons (step_call c 2 2 _ 35 (.agg #[.int .u64 t121_35]) rfl rfl rfl (fun _ => rfl) (fun _ => rfl) rfl rfl Tryd.func111 rfl rfl rfl #[.agg #[.int .u64 Y], .agg #[.int .u64 Y]] (fun G b hon => by rw [show (#[.tmp 33, .tmp 34] : Array Operand).map (putSel c.a0 b (c.L G)).eval = #[(putSel c.a0 b (c.L G)).eval (.tmp 33), (putSel c.a0 b (c.L G)).eval (.tmp 34)] from by simp only [List.map_toArray, List.map_cons, List.map_nil], show (putSel c.a0 b (c.L G)).eval (.tmp 33) = .agg #[.int .u64 Y] from (eval_of (putSel_on (e := (0, 33, .agg #[.int .u64 Y])) 0 rfl rfl (hon 0 rfl) rfl)), show (putSel c.a0 b (c.L G)).eval (.tmp 34) = .agg #[.int .u64 Y] from (eval_of (putSel_on (e := (1, 34, .agg #[.int .u64 Y])) 1 rfl rfl (hon 1 rfl) rfl))]) (fun w_ => by rw [et121_35]; exact times_c hY hY w_)) ?_
    refine steps_cons (step_alloc c 3 3 4 _ 6 undef rfl rfl rfl (fun _ => rfl) (fun _ _ => rfl) (fun _ => rfl) rfl rfl rfl (alloc_num rfl)) ?_
    refine steps_cons (step_store c 4 3 _ (.int .u64 t121_35) rfl rfl rfl (fun _ => rfl) rfl rfl 0 rfl rfl rfl (fun G b w_ hon hb => store_num (.tmp 6) (.tmp 35) rfl (G 3) (eval_of (putSel_on (e := (3, 6, .pointer (some ⟨G 3, 0, none⟩))) 3 rfl rfl (hon 3 rfl) rfl)) (eval_of (putSel_on (e := (2, 35, .agg #[.int .u64 t121_35])) 2 rfl rfl (hon 2 rfl) rfl)) hb.choose_spec)) ?_
    exact steps_nil
  intro G V2 hgr hE hR
  obtain ⟨lg121_6, hg121_6⟩ := hE (3, 4, .int .u64 t121_35) (by simp [c])
  dsimp only [c] at lg121_6 hg121_6
  replace hb0 := (hgr.block _ (lt_of_heap hb0) nofun).trans hb0
  replace hb1 := (hgr.block _ (lt_of_heap hb1) nofun).trans hb1
  replace hg121_3 := (hgr.block _ (lt_of_heap hg121_3) nofun).trans hg121_3
  replace hg121_4 := (hgr.block _ (lt_of_heap hg121_4) nofun).trans hg121_4
  replace hg121_5 := (hgr.block _ (lt_of_heap hg121_5) nofun).trans hg121_5
  replace hB := below_none hB hgr
  have ha_ : putAll' c.a0 (c.L G) = { tmps := #[.agg #[.int .u64 X, .int .u64 Y, .int .u64 Z], .pointer (some ⟨w.heap.size, 0, none⟩), .pointer (some ⟨w.heap.size + 1, 0, none⟩), .pointer (some ⟨g121_3, 0, none⟩), .pointer (some ⟨g121_4, 0, none⟩), .pointer (some ⟨g121_5, 0, none⟩), .pointer (some ⟨G 3, 0, none⟩), undef, undef, undef, undef, undef, undef, undef, undef, .pointer (some ⟨w.heap.size, 0, none⟩), .agg #[.int .u64 X], .pointer (some ⟨w.heap.size, 1, none⟩), .agg #[.int .u64 Y], .pointer (some ⟨w.heap.size, 2, none⟩), .agg #[.int .u64 Z], .pointer (some ⟨g121_4, 0, none⟩), .int .u64 Y, .bool false, .bool false, .pointer (some ⟨g121_5, 0, none⟩), .int .u64 Z, .bool false, .bool false, undef, undef, undef, undef, .agg #[.int .u64 Y], .agg #[.int .u64 Y], .agg #[.int .u64 t121_35], undef, undef, undef, undef, undef, undef, undef, undef, undef, undef, undef, undef, undef, undef, undef, undef, undef, undef, undef, undef, undef, undef, undef, undef, undef, undef, undef, undef, undef, undef, undef, undef, undef, undef, undef, undef, undef, undef, undef, undef, undef, undef, undef, undef, undef, undef, undef, undef], defers := [] } := by kernel_rfl
  rw [ha_]
  clear ha_
  generalize G 3 = g121_6 at *
  have ng121_6 : some g121_6 ≠ some (w.heap.size + 1) := by intro e_; injection e_; omega
  clear c hE hR hgr hr_
  refine hK _ _ ?_
  clear hK K
  refine wp_seq_k fun K hK => ?_
  obtain ⟨t121_38, et121_38⟩ : ∃ t, t = tm Z Z := ⟨_, rfl⟩
  have it121_38 : In t121_38 := by rw [et121_38]; exact in_tm _ _
  have hr_ := lt_of_heap hb1
  let c : Cfg := ⟨{ tmps := #[.agg #[.int .u64 X, .int .u64 Y, .int .u64 Z], .pointer (some ⟨w.heap.size, 0, none⟩), .pointer (some ⟨w.heap.size + 1, 0, none⟩), .pointer (some ⟨g121_3, 0, none⟩), .pointer (some ⟨g121_4, 0, none⟩), .pointer (some ⟨g121_5, 0, none⟩), .pointer (some ⟨g121_6, 0, none⟩), undef, undef, undef, undef, undef, undef, undef, undef, .pointer (some ⟨w.heap.size, 0, none⟩), .agg #[.int .u64 X], .pointer (some ⟨w.heap.size, 1, none⟩), .agg #[.int .u64 Y], .pointer (some ⟨w.heap.size, 2, none⟩), .agg #[.int .u64 Z], .pointer (some ⟨g121_4, 0, none⟩), .int .u64 Y, .bool false, .bool false, .pointer (some ⟨g121_5, 0, none⟩), .int .u64 Z, .bool false, .bool false, undef, undef, undef, undef, .agg #[.int .u64 Y], .agg #[.int .u64 Y], .agg #[.int .u64 t121_35], undef, undef, undef, undef, undef, undef, undef, undef, undef, undef, undef, undef, undef, undef, undef, undef, undef, undef, undef, undef, undef, undef, undef, undef, undef, undef, undef, undef, undef, undef, undef, undef, undef, undef, undef, undef, undef, undef, undef, undef, undef, undef, undef, undef, undef, undef, undef, undef], defers := [] }, V2, none, fun G => [(0, 36, .agg #[.int .u64 Z]), (1, 37, .agg #[.int .u64 Z]), (2, 38, .agg #[.int .u64 t121_38]), (3, 7, .pointer (some ⟨G 3, 0, none⟩))], [(3, 4, .int .u64 t121_38)], 85, []⟩
  refine seq_region (IB c) (n := 5) rfl (start_IB c (by intro x hx; cases hx)) ?_ (end_IB c (by intro G e he; exact List.all_eq_true.1 (show ((c.L G).all fun e => (List.range 5).contains e.1) = true from rfl) e he) (by intro e he; have := List.all_eq_true.1 (show (c.E.all fun e => (List.range 5).contains e.1 && (List.range 5).contains e.2.1) = true from rfl) e he; simpa using this) (by intro x hx; exact List.all_eq_true.1 (show (c.R.all fun x => (List.range 5).contains x.1) = true from rfl) x hx) ?_)
  · show ∀ i ∈ [0, 1, 2, 3, 4], StepAt _ _ _ _ _ (IB c) i
    refine steps_cons (step_val c 0 0 _ 36 (.agg #[.int .u64 Z]) rfl rfl rfl (fun _ => rfl) (fun _ => rfl) rfl rfl (fun G b w_ hon hg => load_num (.tmp 5) rfl (g121_5) 0 (eval_of ((putSel_off rfl).trans rfl)) ((old_cell hg hg121_5 nofun 0).trans rfl))) ?_
    refine steps_cons (step_val c 1 1 _ 37 (.agg #[.int .u64 Z]) rfl rfl rfl (fun _ => rfl) (fun _ => rfl) rfl rfl (fun G b w_ hon hg => load_num (.tmp 5) rfl (g121_5) 0 (eval_of ((putSel_off rfl).trans rfl)) ((old_cell hg hg121_5 nofun 0).trans rfl))) ?_
    refine steps_cons (step_call c 2 2 _ 38 (.agg #[.int .u64 t121_38]) rfl rfl rfl (fun _ => rfl) (fun _ => rfl) rfl rfl Tryd.func111 rfl rfl rfl #[.agg #[.int .u64 Z], .agg #[.int .u64 Z]] (fun G b hon => by rw [show (#[.tmp 36, .tmp 37] : Array Operand).map (putSel c.a0 b (c.L G)).eval = #[(putSel c.a0 b (c.L G)).eval (.tmp 36), (putSel c.a0 b (c.L G)).eval (.tmp 37)] from by simp only [List.map_toArray, List.map_cons, List.map_nil], show (putSel c.a0 b (c.L G)).eval (.tmp 36) = .agg #[.int .u64 Z] from (eval_of (putSel_on (e := (0, 36, .agg #[.int .u64 Z])) 0 rfl rfl (hon 0 rfl) rfl)), show (putSel c.a0 b (c.L G)).eval (.tmp 37) = .agg #[.int .u64 Z] from (eval_of (putSel_on (e := (1, 37, .agg #[.int .u64 Z])) 1 rfl rfl (hon 1 rfl) rfl))]) (fun w_ => by rw [et121_38]; exact times_c hZ hZ w_)) ?_
    refine steps_cons (step_alloc c 3 3 4 _ 7 undef rfl rfl rfl (fun _ => rfl) (fun _ _ => rfl) (fun _ => rfl) rfl rfl rfl (alloc_num rfl)) ?_
    refine steps_cons (step_store c 4 3 _ (.int .u64 t121_38) rfl rfl rfl (fun _ => rfl) rfl rfl 0 rfl rfl rfl (fun G b w_ hon hb => store_num (.tmp 7) (.tmp 38) rfl (G 3) (eval_of (putSel_on (e := (3, 7, .pointer (some ⟨G 3, 0, none⟩))) 3 rfl rfl (hon 3 rfl) rfl)) (eval_of (putSel_on (e := (2, 38, .agg #[.int .u64 t121_38])) 2 rfl rfl (hon 2 rfl) rfl)) hb.choose_spec)) ?_
    exact steps_nil
  intro G V3 hgr hE hR
  obtain ⟨lg121_7, hg121_7⟩ := hE (3, 4, .int .u64 t121_38) (by simp [c])
  dsimp only [c] at lg121_7 hg121_7
  replace hb0 := (hgr.block _ (lt_of_heap hb0) nofun).trans hb0
  replace hb1 := (hgr.block _ (lt_of_heap hb1) nofun).trans hb1
  replace hg121_3 := (hgr.block _ (lt_of_heap hg121_3) nofun).trans hg121_3
  replace hg121_4 := (hgr.block _ (lt_of_heap hg121_4) nofun).trans hg121_4
  replace hg121_5 := (hgr.block _ (lt_of_heap hg121_5) nofun).trans hg121_5
  replace hg121_6 := (hgr.block _ (lt_of_heap hg121_6) nofun).trans hg121_6
  replace hB := below_none hB hgr
  have ha_ : putAll' c.a0 (c.L G) = { tmps := #[.agg #[.int .u64 X, .int .u64 Y, .int .u64 Z], .pointer (some ⟨w.heap.size, 0, none⟩), .pointer (some ⟨w.heap.size + 1, 0, none⟩), .pointer (some ⟨g121_3, 0, none⟩), .pointer (some ⟨g121_4, 0, none⟩), .pointer (some ⟨g121_5, 0, none⟩), .pointer (some ⟨g121_6, 0, none⟩), .pointer (some ⟨G 3, 0, none⟩), undef, undef, undef, undef, undef, undef, undef, .pointer (some ⟨w.heap.size, 0, none⟩), .agg #[.int .u64 X], .pointer (some ⟨w.heap.size, 1, none⟩), .agg #[.int .u64 Y], .pointer (some ⟨w.heap.size, 2, none⟩), .agg #[.int .u64 Z], .pointer (some ⟨g121_4, 0, none⟩), .int .u64 Y, .bool false, .bool false, .pointer (some ⟨g121_5, 0, none⟩), .int .u64 Z, .bool false, .bool false, undef, undef, undef, undef, .agg #[.int .u64 Y], .agg #[.int .u64 Y], .agg #[.int .u64 t121_35], .agg #[.int .u64 Z], .agg #[.int .u64 Z], .agg #[.int .u64 t121_38], undef, undef, undef, undef, undef, undef, undef, undef, undef, undef, undef, undef, undef, undef, undef, undef, undef, undef, undef, undef, undef, undef, undef, undef, undef, undef, undef, undef, undef, undef, undef, undef, undef, undef, undef, undef, undef, undef, undef, undef, undef, undef, undef, undef, undef], defers := [] } := by kernel_rfl
  rw [ha_]
  clear ha_
  generalize G 3 = g121_7 at *
  have ng121_7 : some g121_7 ≠ some (w.heap.size + 1) := by intro e_; injection e_; omega
  clear c hE hR hgr hr_
  refine hK _ _ ?_
  clear hK K
  refine wp_seq_k fun K hK => ?_
  have hr_ := lt_of_heap hb1
  let c : Cfg := ⟨{ tmps := #[.agg #[.int .u64 X, .int .u64 Y, .int .u64 Z], .pointer (some ⟨w.heap.size, 0, none⟩), .pointer (some ⟨w.heap.size + 1, 0, none⟩), .pointer (some ⟨g121_3, 0, none⟩), .pointer (some ⟨g121_4, 0, none⟩), .pointer (some ⟨g121_5, 0, none⟩), .pointer (some ⟨g121_6, 0, none⟩), .pointer (some ⟨g121_7, 0, none⟩), undef, undef, undef, undef, undef, undef, undef, .pointer (some ⟨w.heap.size, 0, none⟩), .agg #[.int .u64 X], .pointer (some ⟨w.heap.size, 1, none⟩), .agg #[.int .u64 Y], .pointer (some ⟨w.heap.size, 2, none⟩), .agg #[.int .u64 Z], .pointer (some ⟨g121_4, 0, none⟩), .int .u64 Y, .bool false, .bool false, .pointer (some ⟨g121_5, 0, none⟩), .int .u64 Z, .bool false, .bool false, undef, undef, undef, undef, .agg #[.int .u64 Y], .agg #[.int .u64 Y], .agg #[.int .u64 t121_35], .agg #[.int .u64 Z], .agg #[.int .u64 Z], .agg #[.int .u64 t121_38], undef, undef, undef, undef, undef, undef, undef, undef, undef, undef, undef, undef, undef, undef, undef, undef, undef, undef, undef, undef, undef, undef, undef, undef, undef, undef, undef, undef, undef, undef, undef, undef, undef, undef, undef, undef, undef, undef, undef, undef, undef, undef, undef, undef, undef], defers := [] }, V3, none, fun G => [(0, 39, .agg #[.int .u64 4]), (1, 40, .agg #[.int .u64 8]), (2, 41, .agg #[.int .u64 3]), (3, 8, .pointer (some ⟨G 3, 0, none⟩)), (4, 9, .pointer (some ⟨G 4, 0, none⟩)), (5, 10, .pointer (some ⟨G 5, 0, none⟩))], [(3, 6, .int .u64 4), (4, 7, .int .u64 8), (5, 8, .int .u64 3)], 85, []⟩
  refine seq_region (IB c) (n := 9) rfl (start_IB c (by intro x hx; cases hx)) ?_ (end_IB c (by intro G e he; exact List.all_eq_true.1 (show ((c.L G).all fun e => (List.range 9).contains e.1) = true from rfl) e he) (by intro e he; have := List.all_eq_true.1 (show (c.E.all fun e => (List.range 9).contains e.1 && (List.range 9).contains e.2.1) = true from rfl) e he; simpa using this) (by intro x hx; exact List.all_eq_true.1 (show (c.R.all fun x => (List.range 9).contains x.1) = true from rfl) x hx) ?_)
  · show ∀ i ∈ [0, 1, 2, 3, 4, 5, 6, 7, 8], StepAt _ _ _ _ _ (IB c) i
    refine steps_cons (step_val c 0 0 _ 39 (.agg #[.int .u64 4]) rfl rfl rfl (fun _ => rfl) (fun _ => rfl) rfl rfl (fun G b w_ hon hg => build_num (.const (.int .u64 4)) rfl rfl)) ?_
    refine steps_cons (step_val c 1 1 _ 40 (.agg #[.int .u64 8]) rfl rfl rfl (fun _ => rfl) (fun _ => rfl) rfl rfl (fun G b w_ hon hg => build_num (.const (.int .u64 8)) rfl rfl)) ?_
    refine steps_cons (step_val c 2 2 _ 41 (.agg #[.int .u64 3]) rfl rfl rfl (fun _ => rfl) (fun _ => rfl) rfl rfl (fun G b w_ hon hg => build_num (.const (.int .u64 3)) rfl rfl)) ?_
    refine steps_cons (step_alloc c 3 3 6 _ 8 undef rfl rfl rfl (fun _ => rfl) (fun _ _ => rfl) (fun _ => rfl) rfl rfl rfl (alloc_num rfl)) ?_
    refine steps_cons (step_alloc c 4 4 7 _ 9 undef rfl rfl rfl (fun _ => rfl) (fun _ _ => rfl) (fun _ => rfl) rfl rfl rfl (alloc_num rfl)) ?_
    refine steps_cons (step_alloc c 5 5 8 _ 10 undef rfl rfl rfl (fun _ => rfl) (fun _ _ => rfl) (fun _ => rfl) rfl rfl rfl (alloc_num rfl)) ?_
    refine steps_cons (step_store c 6 3 _ (.int .u64 4) rfl rfl rfl (fun _ => rfl) rfl rfl 0 rfl rfl rfl (fun G b w_ hon hb => store_num (.tmp 8) (.tmp 39) rfl (G 3) (eval_of (putSel_on (e := (3, 8, .pointer (some ⟨G 3, 0, none⟩))) 3 rfl rfl (hon 3 rfl) rfl)) (eval_of (putSel_on (e := (0, 39, .agg #[.int .u64 4])) 0 rfl rfl (hon 0 rfl) rfl)) hb.choose_spec)) ?_
    refine steps_cons (step_store c 7 4 _ (.int .u64 8) rfl rfl rfl (fun _ => rfl) rfl rfl 1 rfl rfl rfl (fun G b w_ hon hb => store_num (.tmp 9) (.tmp 40) rfl (G 4) (eval_of (putSel_on (e := (4, 9, .pointer (some ⟨G 4, 0, none⟩))) 4 rfl rfl (hon 4 rfl) rfl)) (eval_of (putSel_on (e := (1, 40, .agg #[.int .u64 8])) 1 rfl rfl (hon 1 rfl) rfl)) hb.choose_spec)) ?_
    refine steps_cons (step_store c 8 5 _ (.int .u64 3) rfl rfl rfl (fun _ => rfl) rfl rfl 2 rfl rfl rfl (fun G b w_ hon hb => store_num (.tmp 10) (.tmp 41) rfl (G 5) (eval_of (putSel_on (e := (5, 10, .pointer (some ⟨G 5, 0, none⟩))) 5 rfl rfl (hon 5 rfl) rfl)) (eval_of (putSel_on (e := (2, 41, .agg #[.int .u64 3])) 2 rfl rfl (hon 2 rfl) rfl)) hb.choose_spec)) ?_
    exact steps_nil
  intro G V4 hgr hE hR
  obtain ⟨lg121_8, hg121_8⟩ := hE (3, 6, .int .u64 4) (by simp [c])
  dsimp only [c] at lg121_8 hg121_8
  obtain ⟨lg121_9, hg121_9⟩ := hE (4, 7, .int .u64 8) (by simp [c])
  dsimp only [c] at lg121_9 hg121_9
  obtain ⟨lg121_10, hg121_10⟩ := hE (5, 8, .int .u64 3) (by simp [c])
  dsimp only [c] at lg121_10 hg121_10
  replace hb0 := (hgr.block _ (lt_of_heap hb0) nofun).trans hb0
  replace hb1 := (hgr.block _ (lt_of_heap hb1) nofun).trans hb1
  replace hg121_3 := (hgr.block _ (lt_of_heap hg121_3) nofun).trans hg121_3
  replace hg121_4 := (hgr.block _ (lt_of_heap hg121_4) nofun).trans hg121_4
  replace hg121_5 := (hgr.block _ (lt_of_heap hg121_5) nofun).trans hg121_5
  replace hg121_6 := (hgr.block _ (lt_of_heap hg121_6) nofun).trans hg121_6
  replace hg121_7 := (hgr.block _ (lt_of_heap hg121_7) nofun).trans hg121_7
  replace hB := below_none hB hgr
  have ha_ : putAll' c.a0 (c.L G) = { tmps := #[.agg #[.int .u64 X, .int .u64 Y, .int .u64 Z], .pointer (some ⟨w.heap.size, 0, none⟩), .pointer (some ⟨w.heap.size + 1, 0, none⟩), .pointer (some ⟨g121_3, 0, none⟩), .pointer (some ⟨g121_4, 0, none⟩), .pointer (some ⟨g121_5, 0, none⟩), .pointer (some ⟨g121_6, 0, none⟩), .pointer (some ⟨g121_7, 0, none⟩), .pointer (some ⟨G 3, 0, none⟩), .pointer (some ⟨G 4, 0, none⟩), .pointer (some ⟨G 5, 0, none⟩), undef, undef, undef, undef, .pointer (some ⟨w.heap.size, 0, none⟩), .agg #[.int .u64 X], .pointer (some ⟨w.heap.size, 1, none⟩), .agg #[.int .u64 Y], .pointer (some ⟨w.heap.size, 2, none⟩), .agg #[.int .u64 Z], .pointer (some ⟨g121_4, 0, none⟩), .int .u64 Y, .bool false, .bool false, .pointer (some ⟨g121_5, 0, none⟩), .int .u64 Z, .bool false, .bool false, undef, undef, undef, undef, .agg #[.int .u64 Y], .agg #[.int .u64 Y], .agg #[.int .u64 t121_35], .agg #[.int .u64 Z], .agg #[.int .u64 Z], .agg #[.int .u64 t121_38], .agg #[.int .u64 4], .agg #[.int .u64 8], .agg #[.int .u64 3], undef, undef, undef, undef, undef, undef, undef, undef, undef, undef, undef, undef, undef, undef, undef, undef, undef, undef, undef, undef, undef, undef, undef, undef, undef, undef, undef, undef, undef, undef, undef, undef, undef, undef, undef, undef, undef, undef, undef, undef, undef, undef], defers := [] } := by kernel_rfl
  rw [ha_]
  clear ha_
  generalize G 3 = g121_8 at *
  have ng121_8 : some g121_8 ≠ some (w.heap.size + 1) := by intro e_; injection e_; omega
  generalize G 4 = g121_9 at *
  have ng121_9 : some g121_9 ≠ some (w.heap.size + 1) := by intro e_; injection e_; omega
  generalize G 5 = g121_10 at *
  have ng121_10 : some g121_10 ≠ some (w.heap.size + 1) := by intro e_; injection e_; omega
  clear c hE hR hgr hr_
  refine hK _ _ ?_
  clear hK K
  refine wp_seq_k fun K hK => ?_
  obtain ⟨t121_44, et121_44⟩ : ∃ t, t = tm 4 X := ⟨_, rfl⟩
  have it121_44 : In t121_44 := by rw [et121_44]; exact in_tm _ _
  obtain ⟨t121_46, et121_46⟩ : ∃ t, t = tm t121_44 t121_35 := ⟨_, rfl⟩
  have it121_46 : In t121_46 := by rw [et121_46]; exact in_tm _ _
  obtain ⟨W5, eW5⟩ : ∃ W_, W_ = V4.drew := ⟨_, rfl⟩
  replace hb0 := (show W5.heap[w.heap.size]? = V4.heap[w.heap.size]? by rw [eW5]; rfl).trans hb0
  replace hb1 := (show W5.heap[w.heap.size + 1]? = V4.heap[w.heap.size + 1]? by rw [eW5]; rfl).trans hb1
  replace hg121_3 := (show W5.heap[g121_3]? = V4.heap[g121_3]? by rw [eW5]; rfl).trans hg121_3
  replace hg121_4 := (show W5.heap[g121_4]? = V4.heap[g121_4]? by rw [eW5]; rfl).trans hg121_4
  replace hg121_5 := (show W5.heap[g121_5]? = V4.heap[g121_5]? by rw [eW5]; rfl).trans hg121_5
  replace hg121_6 := (show W5.heap[g121_6]? = V4.heap[g121_6]? by rw [eW5]; rfl).trans hg121_6
  replace hg121_7 := (show W5.heap[g121_7]? = V4.heap[g121_7]? by rw [eW5]; rfl).trans hg121_7
  replace hg121_8 := (show W5.heap[g121_8]? = V4.heap[g121_8]? by rw [eW5]; rfl).trans hg121_8
  replace hg121_9 := (show W5.heap[g121_9]? = V4.heap[g121_9]? by rw [eW5]; rfl).trans hg121_9
  replace hg121_10 := (show W5.heap[g121_10]? = V4.heap[g121_10]? by rw [eW5]; rfl).trans hg121_10
  replace hB : Below w.heap.size w W5 := by rw [eW5]; exact below_drew' hB
  have hr_ := lt_of_heap hb1
  let c : Cfg := ⟨{ tmps := #[.agg #[.int .u64 X, .int .u64 Y, .int .u64 Z], .pointer (some ⟨w.heap.size, 0, none⟩), .pointer (some ⟨w.heap.size + 1, 0, none⟩), .pointer (some ⟨g121_3, 0, none⟩), .pointer (some ⟨g121_4, 0, none⟩), .pointer (some ⟨g121_5, 0, none⟩), .pointer (some ⟨g121_6, 0, none⟩), .pointer (some ⟨g121_7, 0, none⟩), .pointer (some ⟨g121_8, 0, none⟩), .pointer (some ⟨g121_9, 0, none⟩), .pointer (some ⟨g121_10, 0, none⟩), undef, undef, undef, undef, .pointer (some ⟨w.heap.size, 0, none⟩), .agg #[.int .u64 X], .pointer (some ⟨w.heap.size, 1, none⟩), .agg #[.int .u64 Y], .pointer (some ⟨w.heap.size, 2, none⟩), .agg #[.int .u64 Z], .pointer (some ⟨g121_4, 0, none⟩), .int .u64 Y, .bool false, .bool false, .pointer (some ⟨g121_5, 0, none⟩), .int .u64 Z, .bool false, .bool false, undef, undef, undef, undef, .agg #[.int .u64 Y], .agg #[.int .u64 Y], .agg #[.int .u64 t121_35], .agg #[.int .u64 Z], .agg #[.int .u64 Z], .agg #[.int .u64 t121_38], .agg #[.int .u64 4], .agg #[.int .u64 8], .agg #[.int .u64 3], undef, undef, undef, undef, undef, undef, undef, undef, undef, undef, undef, undef, undef, undef, undef, undef, undef, undef, undef, undef, undef, undef, undef, undef, undef, undef, undef, undef, undef, undef, undef, undef, undef, undef, undef, undef, undef, undef, undef, undef, undef, undef], defers := [] }, W5, none, fun G => [(0, 42, .agg #[.int .u64 4]), (1, 43, .agg #[.int .u64 X]), (2, 44, .agg #[.int .u64 t121_44]), (3, 45, .agg #[.int .u64 t121_35]), (4, 46, .agg #[.int .u64 t121_46]), (5, 11, .pointer (some ⟨G 5, 0, none⟩))], [(5, 6, .int .u64 t121_46)], 85, []⟩
  refine drawn_region (IB c) (n := 7) rfl rfl tab121_7 bits121_7 (by kernel_rfl) (by kernel_rfl) (by rw [← eW5]; exact (start_IB c (by intro x hx; cases hx))) ?_ (end_IB c (by intro G e he; exact List.all_eq_true.1 (show ((c.L G).all fun e => (List.range 7).contains e.1) = true from rfl) e he) (by intro e he; have := List.all_eq_true.1 (show (c.E.all fun e => (List.range 7).contains e.1 && (List.range 7).contains e.2.1) = true from rfl) e he; simpa using this) (by intro x hx; exact List.all_eq_true.1 (show (c.R.all fun x => (List.range 7).contains x.1) = true from rfl) x hx) ?_)
  · show ∀ i ∈ [0, 1, 2, 3, 4, 5, 6], StepAt _ _ _ _ _ (IB c) i
    refine steps_cons (step_val c 0 0 _ 42 (.agg #[.int .u64 4]) rfl rfl rfl (fun _ => rfl) (fun _ => rfl) rfl rfl (fun G b w_ hon hg => load_num (.tmp 8) rfl (g121_8) 0 (eval_of ((putSel_off rfl).trans rfl)) ((old_cell hg hg121_8 nofun 0).trans rfl))) ?_
    refine steps_cons (step_val c 1 1 _ 43 (.agg #[.int .u64 X]) rfl rfl rfl (fun _ => rfl) (fun _ => rfl) rfl rfl (fun G b w_ hon hg => load_num (.tmp 3) rfl (g121_3) 0 (eval_of ((putSel_off rfl).trans rfl)) ((old_cell hg hg121_3 nofun 0).trans rfl))) ?_
    refine steps_cons (step_call c 2 2 _ 44 (.agg #[.int .u64 t121_44]) rfl rfl rfl (fun _ => rfl) (fun _ => rfl) rfl rfl Tryd.func111 rfl rfl rfl #[.agg #[.int .u64 4], .agg #[.int .u64 X]] (fun G b hon => by rw [show (#[.tmp 42, .tmp 43] : Array Operand).map (putSel c.a0 b (c.L G)).eval = #[(putSel c.a0 b (c.L G)).eval (.tmp 42), (putSel c.a0 b (c.L G)).eval (.tmp 43)] from by simp only [List.map_toArray, List.map_cons, List.map_nil], show (putSel c.a0 b (c.L G)).eval (.tmp 42) = .agg #[.int .u64 4] from (eval_of (putSel_on (e := (0, 42, .agg #[.int .u64 4])) 0 rfl rfl (hon 0 rfl) rfl)), show (putSel c.a0 b (c.L G)).eval (.tmp 43) = .agg #[.int .u64 X] from (eval_of (putSel_on (e := (1, 43, .agg #[.int .u64 X])) 1 rfl rfl (hon 1 rfl) rfl))]) (fun w_ => by rw [et121_44]; exact times_c (i_lit 4) hX w_)) ?_
    refine steps_cons (step_val c 3 3 _ 45 (.agg #[.int .u64 t121_35]) rfl rfl rfl (fun _ => rfl) (fun _ => rfl) rfl rfl (fun G b w_ hon hg => load_num (.tmp 6) rfl (g121_6) 0 (eval_of ((putSel_off rfl).trans rfl)) ((old_cell hg hg121_6 nofun 0).trans rfl))) ?_
    refine steps_cons (step_call c 4 4 _ 46 (.agg #[.int .u64 t121_46]) rfl rfl rfl (fun _ => rfl) (fun _ => rfl) rfl rfl Tryd.func111 rfl rfl rfl #[.agg #[.int .u64 t121_44], .agg #[.int .u64 t121_35]] (fun G b hon => by rw [show (#[.tmp 44, .tmp 45] : Array Operand).map (putSel c.a0 b (c.L G)).eval = #[(putSel c.a0 b (c.L G)).eval (.tmp 44), (putSel c.a0 b (c.L G)).eval (.tmp 45)] from by simp only [List.map_toArray, List.map_cons, List.map_nil], show (putSel c.a0 b (c.L G)).eval (.tmp 44) = .agg #[.int .u64 t121_44] from (eval_of (putSel_on (e := (2, 44, .agg #[.int .u64 t121_44])) 2 rfl rfl (hon 2 rfl) rfl)), show (putSel c.a0 b (c.L G)).eval (.tmp 45) = .agg #[.int .u64 t121_35] from (eval_of (putSel_on (e := (3, 45, .agg #[.int .u64 t121_35])) 3 rfl rfl (hon 3 rfl) rfl))]) (fun w_ => by rw [et121_46]; exact times_c it121_44 it121_35 w_)) ?_
    refine steps_cons (step_alloc c 5 5 6 _ 11 undef rfl rfl rfl (fun _ => rfl) (fun _ _ => rfl) (fun _ => rfl) rfl rfl rfl (alloc_num rfl)) ?_
    refine steps_cons (step_store c 6 5 _ (.int .u64 t121_46) rfl rfl rfl (fun _ => rfl) rfl rfl 0 rfl rfl rfl (fun G b w_ hon hb => store_num (.tmp 11) (.tmp 46) rfl (G 5) (eval_of (putSel_on (e := (5, 11, .pointer (some ⟨G 5, 0, none⟩))) 5 rfl rfl (hon 5 rfl) rfl)) (eval_of (putSel_on (e := (4, 46, .agg #[.int .u64 t121_46])) 4 rfl rfl (hon 4 rfl) rfl)) hb.choose_spec)) ?_
    exact steps_nil
  intro G V5 hgr hE hR
  obtain ⟨lg121_11, hg121_11⟩ := hE (5, 6, .int .u64 t121_46) (by simp [c])
  dsimp only [c] at lg121_11 hg121_11
  replace hb0 := (hgr.block _ (lt_of_heap hb0) nofun).trans hb0
  replace hb1 := (hgr.block _ (lt_of_heap hb1) nofun).trans hb1
  replace hg121_3 := (hgr.block _ (lt_of_heap hg121_3) nofun).trans hg121_3
  replace hg121_4 := (hgr.block _ (lt_of_heap hg121_4) nofun).trans hg121_4
  replace hg121_5 := (hgr.block _ (lt_of_heap hg121_5) nofun).trans hg121_5
  replace hg121_6 := (hgr.block _ (lt_of_heap hg121_6) nofun).trans hg121_6
  replace hg121_7 := (hgr.block _ (lt_of_heap hg121_7) nofun).trans hg121_7
  replace hg121_8 := (hgr.block _ (lt_of_heap hg121_8) nofun).trans hg121_8
  replace hg121_9 := (hgr.block _ (lt_of_heap hg121_9) nofun).trans hg121_9
  replace hg121_10 := (hgr.block _ (lt_of_heap hg121_10) nofun).trans hg121_10
  replace hB := below_none hB hgr
  have ha_ : putAll' c.a0 (c.L G) = { tmps := #[.agg #[.int .u64 X, .int .u64 Y, .int .u64 Z], .pointer (some ⟨w.heap.size, 0, none⟩), .pointer (some ⟨w.heap.size + 1, 0, none⟩), .pointer (some ⟨g121_3, 0, none⟩), .pointer (some ⟨g121_4, 0, none⟩), .pointer (some ⟨g121_5, 0, none⟩), .pointer (some ⟨g121_6, 0, none⟩), .pointer (some ⟨g121_7, 0, none⟩), .pointer (some ⟨g121_8, 0, none⟩), .pointer (some ⟨g121_9, 0, none⟩), .pointer (some ⟨g121_10, 0, none⟩), .pointer (some ⟨G 5, 0, none⟩), undef, undef, undef, .pointer (some ⟨w.heap.size, 0, none⟩), .agg #[.int .u64 X], .pointer (some ⟨w.heap.size, 1, none⟩), .agg #[.int .u64 Y], .pointer (some ⟨w.heap.size, 2, none⟩), .agg #[.int .u64 Z], .pointer (some ⟨g121_4, 0, none⟩), .int .u64 Y, .bool false, .bool false, .pointer (some ⟨g121_5, 0, none⟩), .int .u64 Z, .bool false, .bool false, undef, undef, undef, undef, .agg #[.int .u64 Y], .agg #[.int .u64 Y], .agg #[.int .u64 t121_35], .agg #[.int .u64 Z], .agg #[.int .u64 Z], .agg #[.int .u64 t121_38], .agg #[.int .u64 4], .agg #[.int .u64 8], .agg #[.int .u64 3], .agg #[.int .u64 4], .agg #[.int .u64 X], .agg #[.int .u64 t121_44], .agg #[.int .u64 t121_35], .agg #[.int .u64 t121_46], undef, undef, undef, undef, undef, undef, undef, undef, undef, undef, undef, undef, undef, undef, undef, undef, undef, undef, undef, undef, undef, undef, undef, undef, undef, undef, undef, undef, undef, undef, undef, undef, undef, undef, undef, undef, undef], defers := [] } := by kernel_rfl
  rw [ha_]
  clear ha_
  generalize G 5 = g121_11 at *
  have ng121_11 : some g121_11 ≠ some (w.heap.size + 1) := by intro e_; injection e_; omega
  clear c hE hR hgr hr_ eW5
  refine hK _ _ ?_
  clear hK K
  refine wp_seq_k fun K hK => ?_
  obtain ⟨t121_50, et121_50⟩ : ∃ t, t = tm X X := ⟨_, rfl⟩
  have it121_50 : In t121_50 := by rw [et121_50]; exact in_tm _ _
  obtain ⟨t121_53, et121_53⟩ : ∃ t, t = tm t121_38 t121_38 := ⟨_, rfl⟩
  have it121_53 : In t121_53 := by rw [et121_53]; exact in_tm _ _
  obtain ⟨t121_54, et121_54⟩ : ∃ t, t = mi t121_50 t121_53 := ⟨_, rfl⟩
  have it121_54 : In t121_54 := by rw [et121_54]; exact in_mi _ _
  obtain ⟨t121_55, et121_55⟩ : ∃ t, t = tm 3 t121_54 := ⟨_, rfl⟩
  have it121_55 : In t121_55 := by rw [et121_55]; exact in_tm _ _
  obtain ⟨W6, eW6⟩ : ∃ W_, W_ = V5.drew := ⟨_, rfl⟩
  replace hb0 := (show W6.heap[w.heap.size]? = V5.heap[w.heap.size]? by rw [eW6]; rfl).trans hb0
  replace hb1 := (show W6.heap[w.heap.size + 1]? = V5.heap[w.heap.size + 1]? by rw [eW6]; rfl).trans hb1
  replace hg121_3 := (show W6.heap[g121_3]? = V5.heap[g121_3]? by rw [eW6]; rfl).trans hg121_3
  replace hg121_4 := (show W6.heap[g121_4]? = V5.heap[g121_4]? by rw [eW6]; rfl).trans hg121_4
  replace hg121_5 := (show W6.heap[g121_5]? = V5.heap[g121_5]? by rw [eW6]; rfl).trans hg121_5
  replace hg121_6 := (show W6.heap[g121_6]? = V5.heap[g121_6]? by rw [eW6]; rfl).trans hg121_6
  replace hg121_7 := (show W6.heap[g121_7]? = V5.heap[g121_7]? by rw [eW6]; rfl).trans hg121_7
  replace hg121_8 := (show W6.heap[g121_8]? = V5.heap[g121_8]? by rw [eW6]; rfl).trans hg121_8
  replace hg121_9 := (show W6.heap[g121_9]? = V5.heap[g121_9]? by rw [eW6]; rfl).trans hg121_9
  replace hg121_10 := (show W6.heap[g121_10]? = V5.heap[g121_10]? by rw [eW6]; rfl).trans hg121_10
  replace hg121_11 := (show W6.heap[g121_11]? = V5.heap[g121_11]? by rw [eW6]; rfl).trans hg121_11
  replace hB : Below w.heap.size w W6 := by rw [eW6]; exact below_drew' hB
  have hr_ := lt_of_heap hb1
  let c : Cfg := ⟨{ tmps := #[.agg #[.int .u64 X, .int .u64 Y, .int .u64 Z], .pointer (some ⟨w.heap.size, 0, none⟩), .pointer (some ⟨w.heap.size + 1, 0, none⟩), .pointer (some ⟨g121_3, 0, none⟩), .pointer (some ⟨g121_4, 0, none⟩), .pointer (some ⟨g121_5, 0, none⟩), .pointer (some ⟨g121_6, 0, none⟩), .pointer (some ⟨g121_7, 0, none⟩), .pointer (some ⟨g121_8, 0, none⟩), .pointer (some ⟨g121_9, 0, none⟩), .pointer (some ⟨g121_10, 0, none⟩), .pointer (some ⟨g121_11, 0, none⟩), undef, undef, undef, .pointer (some ⟨w.heap.size, 0, none⟩), .agg #[.int .u64 X], .pointer (some ⟨w.heap.size, 1, none⟩), .agg #[.int .u64 Y], .pointer (some ⟨w.heap.size, 2, none⟩), .agg #[.int .u64 Z], .pointer (some ⟨g121_4, 0, none⟩), .int .u64 Y, .bool false, .bool false, .pointer (some ⟨g121_5, 0, none⟩), .int .u64 Z, .bool false, .bool false, undef, undef, undef, undef, .agg #[.int .u64 Y], .agg #[.int .u64 Y], .agg #[.int .u64 t121_35], .agg #[.int .u64 Z], .agg #[.int .u64 Z], .agg #[.int .u64 t121_38], .agg #[.int .u64 4], .agg #[.int .u64 8], .agg #[.int .u64 3], .agg #[.int .u64 4], .agg #[.int .u64 X], .agg #[.int .u64 t121_44], .agg #[.int .u64 t121_35], .agg #[.int .u64 t121_46], undef, undef, undef, undef, undef, undef, undef, undef, undef, undef, undef, undef, undef, undef, undef, undef, undef, undef, undef, undef, undef, undef, undef, undef, undef, undef, undef, undef, undef, undef, undef, undef, undef, undef, undef, undef, undef], defers := [] }, W6, none, fun G => [(0, 47, .agg #[.int .u64 3]), (1, 48, .agg #[.int .u64 X]), (2, 49, .agg #[.int .u64 X]), (3, 50, .agg #[.int .u64 t121_50]), (4, 51, .agg #[.int .u64 t121_38]), (5, 52, .agg #[.int .u64 t121_38]), (6, 53, .agg #[.int .u64 t121_53]), (7, 54, .agg #[.int .u64 t121_54]), (8, 55, .agg #[.int .u64 t121_55]), (9, 12, .pointer (some ⟨G 9, 0, none⟩))], [(9, 10, .int .u64 t121_55)], 85, []⟩
  refine drawn_region (IB c) (n := 11) rfl rfl tab121_8 bits121_8 (by kernel_rfl) (by kernel_rfl) (by rw [← eW6]; exact (start_IB c (by intro x hx; cases hx))) ?_ (end_IB c (by intro G e he; exact List.all_eq_true.1 (show ((c.L G).all fun e => (List.range 11).contains e.1) = true from rfl) e he) (by intro e he; have := List.all_eq_true.1 (show (c.E.all fun e => (List.range 11).contains e.1 && (List.range 11).contains e.2.1) = true from rfl) e he; simpa using this) (by intro x hx; exact List.all_eq_true.1 (show (c.R.all fun x => (List.range 11).contains x.1) = true from rfl) x hx) ?_)
  · show ∀ i ∈ [0, 1, 2, 3, 4, 5, 6, 7, 8, 9, 10], StepAt _ _ _ _ _ (IB c) i
    refine steps_cons (step_val c 0 0 _ 47 (.agg #[.int .u64 3]) rfl rfl rfl (fun _ => rfl) (fun _ => rfl) rfl rfl (fun G b w_ hon hg => load_num (.tmp 10) rfl (g121_10) 0 (eval_of ((putSel_off rfl).trans rfl)) ((old_cell hg hg121_10 nofun 0).trans rfl))) ?_
    refine steps_cons (step_val c 1 1 _ 48 (.agg #[.int .u64 X]) rfl rfl rfl (fun _ => rfl) (fun _ => rfl) rfl rfl (fun G b w_ hon hg => load_num (.tmp 3) rfl (g121_3) 0 (eval_of ((putSel_off rfl).trans rfl)) ((old_cell hg hg121_3 nofun 0).trans rfl))) ?_
    refine steps_cons (step_val c 2 2 _ 49 (.agg #[.int .u64 X]) rfl rfl rfl (fun _ => rfl) (fun _ => rfl) rfl rfl (fun G b w_ hon hg => load_num (.tmp 3) rfl (g121_3) 0 (eval_of ((putSel_off rfl).trans rfl)) ((old_cell hg hg121_3 nofun 0).trans rfl))) ?_
    refine steps_cons (step_call c 3 3 _ 50 (.agg #[.int .u64 t121_50]) rfl rfl rfl (fun _ => rfl) (fun _ => rfl) rfl rfl Tryd.func111 rfl rfl rfl #[.agg #[.int .u64 X], .agg #[.int .u64 X]] (fun G b hon => by rw [show (#[.tmp 48, .tmp 49] : Array Operand).map (putSel c.a0 b (c.L G)).eval = #[(putSel c.a0 b (c.L G)).eval (.tmp 48), (putSel c.a0 b (c.L G)).eval (.tmp 49)] from by simp only [List.map_toArray, List.map_cons, List.map_nil], show (putSel c.a0 b (c.L G)).eval (.tmp 48) = .agg #[.int .u64 X] from (eval_of (putSel_on (e := (1, 48, .agg #[.int .u64 X])) 1 rfl rfl (hon 1 rfl) rfl)), show (putSel c.a0 b (c.L G)).eval (.tmp 49) = .agg #[.int .u64 X] from (eval_of (putSel_on (e := (2, 49, .agg #[.int .u64 X])) 2 rfl rfl (hon 2 rfl) rfl))]) (fun w_ => by rw [et121_50]; exact times_c hX hX w_)) ?_
    refine steps_cons (step_val c 4 4 _ 51 (.agg #[.int .u64 t121_38]) rfl rfl rfl (fun _ => rfl) (fun _ => rfl) rfl rfl (fun G b w_ hon hg => load_num (.tmp 7) rfl (g121_7) 0 (eval_of ((putSel_off rfl).trans rfl)) ((old_cell hg hg121_7 nofun 0).trans rfl))) ?_
    refine steps_cons (step_val c 5 5 _ 52 (.agg #[.int .u64 t121_38]) rfl rfl rfl (fun _ => rfl) (fun _ => rfl) rfl rfl (fun G b w_ hon hg => load_num (.tmp 7) rfl (g121_7) 0 (eval_of ((putSel_off rfl).trans rfl)) ((old_cell hg hg121_7 nofun 0).trans rfl))) ?_
    refine steps_cons (step_call c 6 6 _ 53 (.agg #[.int .u64 t121_53]) rfl rfl rfl (fun _ => rfl) (fun _ => rfl) rfl rfl Tryd.func111 rfl rfl rfl #[.agg #[.int .u64 t121_38], .agg #[.int .u64 t121_38]] (fun G b hon => by rw [show (#[.tmp 51, .tmp 52] : Array Operand).map (putSel c.a0 b (c.L G)).eval = #[(putSel c.a0 b (c.L G)).eval (.tmp 51), (putSel c.a0 b (c.L G)).eval (.tmp 52)] from by simp only [List.map_toArray, List.map_cons, List.map_nil], show (putSel c.a0 b (c.L G)).eval (.tmp 51) = .agg #[.int .u64 t121_38] from (eval_of (putSel_on (e := (4, 51, .agg #[.int .u64 t121_38])) 4 rfl rfl (hon 4 rfl) rfl)), show (putSel c.a0 b (c.L G)).eval (.tmp 52) = .agg #[.int .u64 t121_38] from (eval_of (putSel_on (e := (5, 52, .agg #[.int .u64 t121_38])) 5 rfl rfl (hon 5 rfl) rfl))]) (fun w_ => by rw [et121_53]; exact times_c it121_38 it121_38 w_)) ?_
    refine steps_cons (step_call c 7 7 _ 54 (.agg #[.int .u64 t121_54]) rfl rfl rfl (fun _ => rfl) (fun _ => rfl) rfl rfl Tryd.func120 rfl rfl rfl #[.agg #[.int .u64 t121_50], .agg #[.int .u64 t121_53]] (fun G b hon => by rw [show (#[.tmp 50, .tmp 53] : Array Operand).map (putSel c.a0 b (c.L G)).eval = #[(putSel c.a0 b (c.L G)).eval (.tmp 50), (putSel c.a0 b (c.L G)).eval (.tmp 53)] from by simp only [List.map_toArray, List.map_cons, List.map_nil], show (putSel c.a0 b (c.L G)).eval (.tmp 50) = .agg #[.int .u64 t121_50] from (eval_of (putSel_on (e := (3, 50, .agg #[.int .u64 t121_50])) 3 rfl rfl (hon 3 rfl) rfl)), show (putSel c.a0 b (c.L G)).eval (.tmp 53) = .agg #[.int .u64 t121_53] from (eval_of (putSel_on (e := (6, 53, .agg #[.int .u64 t121_53])) 6 rfl rfl (hon 6 rfl) rfl))]) (fun w_ => by rw [et121_54]; exact minus_c it121_50 it121_53 w_)) ?_
    refine steps_cons (step_call c 8 8 _ 55 (.agg #[.int .u64 t121_55]) rfl rfl rfl (fun _ => rfl) (fun _ => rfl) rfl rfl Tryd.func111 rfl rfl rfl #[.agg #[.int .u64 3], .agg #[.int .u64 t121_54]] (fun G b hon => by rw [show (#[.tmp 47, .tmp 54] : Array Operand).map (putSel c.a0 b (c.L G)).eval = #[(putSel c.a0 b (c.L G)).eval (.tmp 47), (putSel c.a0 b (c.L G)).eval (.tmp 54)] from by simp only [List.map_toArray, List.map_cons, List.map_nil], show (putSel c.a0 b (c.L G)).eval (.tmp 47) = .agg #[.int .u64 3] from (eval_of (putSel_on (e := (0, 47, .agg #[.int .u64 3])) 0 rfl rfl (hon 0 rfl) rfl)), show (putSel c.a0 b (c.L G)).eval (.tmp 54) = .agg #[.int .u64 t121_54] from (eval_of (putSel_on (e := (7, 54, .agg #[.int .u64 t121_54])) 7 rfl rfl (hon 7 rfl) rfl))]) (fun w_ => by rw [et121_55]; exact times_c (i_lit 3) it121_54 w_)) ?_
    refine steps_cons (step_alloc c 9 9 10 _ 12 undef rfl rfl rfl (fun _ => rfl) (fun _ _ => rfl) (fun _ => rfl) rfl rfl rfl (alloc_num rfl)) ?_
    refine steps_cons (step_store c 10 9 _ (.int .u64 t121_55) rfl rfl rfl (fun _ => rfl) rfl rfl 0 rfl rfl rfl (fun G b w_ hon hb => store_num (.tmp 12) (.tmp 55) rfl (G 9) (eval_of (putSel_on (e := (9, 12, .pointer (some ⟨G 9, 0, none⟩))) 9 rfl rfl (hon 9 rfl) rfl)) (eval_of (putSel_on (e := (8, 55, .agg #[.int .u64 t121_55])) 8 rfl rfl (hon 8 rfl) rfl)) hb.choose_spec)) ?_
    exact steps_nil
  intro G V6 hgr hE hR
  obtain ⟨lg121_12, hg121_12⟩ := hE (9, 10, .int .u64 t121_55) (by simp [c])
  dsimp only [c] at lg121_12 hg121_12
  replace hb0 := (hgr.block _ (lt_of_heap hb0) nofun).trans hb0
  replace hb1 := (hgr.block _ (lt_of_heap hb1) nofun).trans hb1
  replace hg121_3 := (hgr.block _ (lt_of_heap hg121_3) nofun).trans hg121_3
  replace hg121_4 := (hgr.block _ (lt_of_heap hg121_4) nofun).trans hg121_4
  replace hg121_5 := (hgr.block _ (lt_of_heap hg121_5) nofun).trans hg121_5
  replace hg121_6 := (hgr.block _ (lt_of_heap hg121_6) nofun).trans hg121_6
  replace hg121_7 := (hgr.block _ (lt_of_heap hg121_7) nofun).trans hg121_7
  replace hg121_8 := (hgr.block _ (lt_of_heap hg121_8) nofun).trans hg121_8
  replace hg121_9 := (hgr.block _ (lt_of_heap hg121_9) nofun).trans hg121_9
  replace hg121_10 := (hgr.block _ (lt_of_heap hg121_10) nofun).trans hg121_10
  replace hg121_11 := (hgr.block _ (lt_of_heap hg121_11) nofun).trans hg121_11
  replace hB := below_none hB hgr
  have ha_ : putAll' c.a0 (c.L G) = { tmps := #[.agg #[.int .u64 X, .int .u64 Y, .int .u64 Z], .pointer (some ⟨w.heap.size, 0, none⟩), .pointer (some ⟨w.heap.size + 1, 0, none⟩), .pointer (some ⟨g121_3, 0, none⟩), .pointer (some ⟨g121_4, 0, none⟩), .pointer (some ⟨g121_5, 0, none⟩), .pointer (some ⟨g121_6, 0, none⟩), .pointer (some ⟨g121_7, 0, none⟩), .pointer (some ⟨g121_8, 0, none⟩), .pointer (some ⟨g121_9, 0, none⟩), .pointer (some ⟨g121_10, 0, none⟩), .pointer (some ⟨g121_11, 0, none⟩), .pointer (some ⟨G 9, 0, none⟩), undef, undef, .pointer (some ⟨w.heap.size, 0, none⟩), .agg #[.int .u64 X], .pointer (some ⟨w.heap.size, 1, none⟩), .agg #[.int .u64 Y], .pointer (some ⟨w.heap.size, 2, none⟩), .agg #[.int .u64 Z], .pointer (some ⟨g121_4, 0, none⟩), .int .u64 Y, .bool false, .bool false, .pointer (some ⟨g121_5, 0, none⟩), .int .u64 Z, .bool false, .bool false, undef, undef, undef, undef, .agg #[.int .u64 Y], .agg #[.int .u64 Y], .agg #[.int .u64 t121_35], .agg #[.int .u64 Z], .agg #[.int .u64 Z], .agg #[.int .u64 t121_38], .agg #[.int .u64 4], .agg #[.int .u64 8], .agg #[.int .u64 3], .agg #[.int .u64 4], .agg #[.int .u64 X], .agg #[.int .u64 t121_44], .agg #[.int .u64 t121_35], .agg #[.int .u64 t121_46], .agg #[.int .u64 3], .agg #[.int .u64 X], .agg #[.int .u64 X], .agg #[.int .u64 t121_50], .agg #[.int .u64 t121_38], .agg #[.int .u64 t121_38], .agg #[.int .u64 t121_53], .agg #[.int .u64 t121_54], .agg #[.int .u64 t121_55], undef, undef, undef, undef, undef, undef, undef, undef, undef, undef, undef, undef, undef, undef, undef, undef, undef, undef, undef, undef, undef, undef, undef, undef, undef, undef, undef, undef], defers := [] } := by kernel_rfl
  rw [ha_]
  clear ha_
  generalize G 9 = g121_12 at *
  have ng121_12 : some g121_12 ≠ some (w.heap.size + 1) := by intro e_; injection e_; omega
  clear c hE hR hgr hr_ eW6
  refine hK _ _ ?_
  clear hK K
  refine wp_seq_k fun K hK => ?_
  obtain ⟨t121_58, et121_58⟩ : ∃ t, t = tm t121_55 t121_55 := ⟨_, rfl⟩
  have it121_58 : In t121_58 := by rw [et121_58]; exact in_tm _ _
  obtain ⟨t121_60, et121_60⟩ : ∃ t, t = mi t121_58 t121_46 := ⟨_, rfl⟩
  have it121_60 : In t121_60 := by rw [et121_60]; exact in_mi _ _
  obtain ⟨t121_62, et121_62⟩ : ∃ t, t = mi t121_60 t121_46 := ⟨_, rfl⟩
  have it121_62 : In t121_62 := by rw [et121_62]; exact in_mi _ _
  obtain ⟨W7, eW7⟩ : ∃ W_, W_ = V6.drew := ⟨_, rfl⟩
  replace hb0 := (show W7.heap[w.heap.size]? = V6.heap[w.heap.size]? by rw [eW7]; rfl).trans hb0
  replace hb1 := (show W7.heap[w.heap.size + 1]? = V6.heap[w.heap.size + 1]? by rw [eW7]; rfl).trans hb1
  replace hg121_3 := (show W7.heap[g121_3]? = V6.heap[g121_3]? by rw [eW7]; rfl).trans hg121_3
  replace hg121_4 := (show W7.heap[g121_4]? = V6.heap[g121_4]? by rw [eW7]; rfl).trans hg121_4
  replace hg121_5 := (show W7.heap[g121_5]? = V6.heap[g121_5]? by rw [eW7]; rfl).trans hg121_5
  replace hg121_6 := (show W7.heap[g121_6]? = V6.heap[g121_6]? by rw [eW7]; rfl).trans hg121_6
  replace hg121_7 := (show W7.heap[g121_7]? = V6.heap[g121_7]? by rw [eW7]; rfl).trans hg121_7
  replace hg121_8 := (show W7.heap[g121_8]? = V6.heap[g121_8]? by rw [eW7]; rfl).trans hg121_8
  replace hg121_9 := (show W7.heap[g121_9]? = V6.heap[g121_9]? by rw [eW7]; rfl).trans hg121_9
  replace hg121_10 := (show W7.heap[g121_10]? = V6.heap[g121_10]? by rw [eW7]; rfl).trans hg121_10
  replace hg121_11 := (show W7.heap[g121_11]? = V6.heap[g121_11]? by rw [eW7]; rfl).trans hg121_11
  replace hg121_12 := (show W7.heap[g121_12]? = V6.heap[g121_12]? by rw [eW7]; rfl).trans hg121_12
  replace hB : Below w.heap.size w W7 := by rw [eW7]; exact below_drew' hB
  have hr_ := lt_of_heap hb1
  let c : Cfg := ⟨{ tmps := #[.agg #[.int .u64 X, .int .u64 Y, .int .u64 Z], .pointer (some ⟨w.heap.size, 0, none⟩), .pointer (some ⟨w.heap.size + 1, 0, none⟩), .pointer (some ⟨g121_3, 0, none⟩), .pointer (some ⟨g121_4, 0, none⟩), .pointer (some ⟨g121_5, 0, none⟩), .pointer (some ⟨g121_6, 0, none⟩), .pointer (some ⟨g121_7, 0, none⟩), .pointer (some ⟨g121_8, 0, none⟩), .pointer (some ⟨g121_9, 0, none⟩), .pointer (some ⟨g121_10, 0, none⟩), .pointer (some ⟨g121_11, 0, none⟩), .pointer (some ⟨g121_12, 0, none⟩), undef, undef, .pointer (some ⟨w.heap.size, 0, none⟩), .agg #[.int .u64 X], .pointer (some ⟨w.heap.size, 1, none⟩), .agg #[.int .u64 Y], .pointer (some ⟨w.heap.size, 2, none⟩), .agg #[.int .u64 Z], .pointer (some ⟨g121_4, 0, none⟩), .int .u64 Y, .bool false, .bool false, .pointer (some ⟨g121_5, 0, none⟩), .int .u64 Z, .bool false, .bool false, undef, undef, undef, undef, .agg #[.int .u64 Y], .agg #[.int .u64 Y], .agg #[.int .u64 t121_35], .agg #[.int .u64 Z], .agg #[.int .u64 Z], .agg #[.int .u64 t121_38], .agg #[.int .u64 4], .agg #[.int .u64 8], .agg #[.int .u64 3], .agg #[.int .u64 4], .agg #[.int .u64 X], .agg #[.int .u64 t121_44], .agg #[.int .u64 t121_35], .agg #[.int .u64 t121_46], .agg #[.int .u64 3], .agg #[.int .u64 X], .agg #[.int .u64 X], .agg #[.int .u64 t121_50], .agg #[.int .u64 t121_38], .agg #[.int .u64 t121_38], .agg #[.int .u64 t121_53], .agg #[.int .u64 t121_54], .agg #[.int .u64 t121_55], undef, undef, undef, undef, undef, undef, undef, undef, undef, undef, undef, undef, undef, undef, undef, undef, undef, undef, undef, undef, undef, undef, undef, undef, undef, undef, undef, undef], defers := [] }, W7, none, fun G => [(0, 56, .agg #[.int .u64 t121_55]), (1, 57, .agg #[.int .u64 t121_55]), (2, 58, .agg #[.int .u64 t121_58]), (3, 59, .agg #[.int .u64 t121_46]), (4, 60, .agg #[.int .u64 t121_60]), (5, 61, .agg #[.int .u64 t121_46]), (6, 62, .agg #[.int .u64 t121_62]), (7, 13, .pointer (some ⟨G 7, 0, none⟩))], [(7, 8, .int .u64 t121_62)], 85, []⟩
  refine drawn_region (IB c) (n := 9) rfl rfl tab121_9 bits121_9 (by kernel_rfl) (by kernel_rfl) (by rw [← eW7]; exact (start_IB c (by intro x hx; cases hx))) ?_ (end_IB c (by intro G e he; exact List.all_eq_true.1 (show ((c.L G).all fun e => (List.range 9).contains e.1) = true from rfl) e he) (by intro e he; have := List.all_eq_true.1 (show (c.E.all fun e => (List.range 9).contains e.1 && (List.range 9).contains e.2.1) = true from rfl) e he; simpa using this) (by intro x hx; exact List.all_eq_true.1 (show (c.R.all fun x => (List.range 9).contains x.1) = true from rfl) x hx) ?_)
  · show ∀ i ∈ [0, 1, 2, 3, 4, 5, 6, 7, 8], StepAt _ _ _ _ _ (IB c) i
    refine steps_cons (step_val c 0 0 _ 56 (.agg #[.int .u64 t121_55]) rfl rfl rfl (fun _ => rfl) (fun _ => rfl) rfl rfl (fun G b w_ hon hg => load_num (.tmp 12) rfl (g121_12) 0 (eval_of ((putSel_off rfl).trans rfl)) ((old_cell hg hg121_12 nofun 0).trans rfl))) ?_
    refine steps_cons (step_val c 1 1 _ 57 (.agg #[.int .u64 t121_55]) rfl rfl rfl (fun _ => rfl) (fun _ => rfl) rfl rfl (fun G b w_ hon hg => load_num (.tmp 12) rfl (g121_12) 0 (eval_of ((putSel_off rfl).trans rfl)) ((old_cell hg hg121_12 nofun 0).trans rfl))) ?_
    refine steps_cons (step_call c 2 2 _ 58 (.agg #[.int .u64 t121_58]) rfl rfl rfl (fun _ => rfl) (fun _ => rfl) rfl rfl Tryd.func111 rfl rfl rfl #[.agg #[.int .u64 t121_55], .agg #[.int .u64 t121_55]] (fun G b hon => by rw [show (#[.tmp 56, .tmp 57] : Array Operand).map (putSel c.a0 b (c.L G)).eval = #[(putSel c.a0 b (c.L G)).eval (.tmp 56), (putSel c.a0 b (c.L G)).eval (.tmp 57)] from by simp only [List.map_toArray, List.map_cons, List.map_nil], show (putSel c.a0 b (c.L G)).eval (.tmp 56) = .agg #[.int .u64 t121_55] from (eval_of (putSel_on (e := (0, 56, .agg #[.int .u64 t121_55])) 0 rfl rfl (hon 0 rfl) rfl)), show (putSel c.a0 b (c.L G)).eval (.tmp 57) = .agg #[.int .u64 t121_55] from (eval_of (putSel_on (e := (1, 57, .agg #[.int .u64 t121_55])) 1 rfl rfl (hon 1 rfl) rfl))]) (fun w_ => by rw [et121_58]; exact times_c it121_55 it121_55 w_)) ?_
    refine steps_cons (step_val c 3 3 _ 59 (.agg #[.int .u64 t121_46]) rfl rfl rfl (fun _ => rfl) (fun _ => rfl) rfl rfl (fun G b w_ hon hg => load_num (.tmp 11) rfl (g121_11) 0 (eval_of ((putSel_off rfl).trans rfl)) ((old_cell hg hg121_11 nofun 0).trans rfl))) ?_
    refine steps_cons (step_call c 4 4 _ 60 (.agg #[.int .u64 t121_60]) rfl rfl rfl (fun _ => rfl) (fun _ => rfl) rfl rfl Tryd.func120 rfl rfl rfl #[.agg #[.int .u64 t121_58], .agg #[.int .u64 t121_46]] (fun G b hon => by rw [show (#[.tmp 58, .tmp 59] : Array Operand).map (putSel c.a0 b (c.L G)).eval = #[(putSel c.a0 b (c.L G)).eval (.tmp 58), (putSel c.a0 b (c.L G)).eval (.tmp 59)] from by simp only [List.map_toArray, List.map_cons, List.map_nil], show (putSel c.a0 b (c.L G)).eval (.tmp 58) = .agg #[.int .u64 t121_58] from (eval_of (putSel_on (e := (2, 58, .agg #[.int .u64 t121_58])) 2 rfl rfl (hon 2 rfl) rfl)), show (putSel c.a0 b (c.L G)).eval (.tmp 59) = .agg #[.int .u64 t121_46] from (eval_of (putSel_on (e := (3, 59, .agg #[.int .u64 t121_46])) 3 rfl rfl (hon 3 rfl) rfl))]) (fun w_ => by rw [et121_60]; exact minus_c it121_58 it121_46 w_)) ?_
    refine steps_cons (step_val c 5 5 _ 61 (.agg #[.int .u64 t121_46]) rfl rfl rfl (fun _ => rfl) (fun _ => rfl) rfl rfl (fun G b w_ hon hg => load_num (.tmp 11) rfl (g121_11) 0 (eval_of ((putSel_off rfl).trans rfl)) ((old_cell hg hg121_11 nofun 0).trans rfl))) ?_
    refine steps_cons (step_call c 6 6 _ 62 (.agg #[.int .u64 t121_62]) rfl rfl rfl (fun _ => rfl) (fun _ => rfl) rfl rfl Tryd.func120 rfl rfl rfl #[.agg #[.int .u64 t121_60], .agg #[.int .u64 t121_46]] (fun G b hon => by rw [show (#[.tmp 60, .tmp 61] : Array Operand).map (putSel c.a0 b (c.L G)).eval = #[(putSel c.a0 b (c.L G)).eval (.tmp 60), (putSel c.a0 b (c.L G)).eval (.tmp 61)] from by simp only [List.map_toArray, List.map_cons, List.map_nil], show (putSel c.a0 b (c.L G)).eval (.tmp 60) = .agg #[.int .u64 t121_60] from (eval_of (putSel_on (e := (4, 60, .agg #[.int .u64 t121_60])) 4 rfl rfl (hon 4 rfl) rfl)), show (putSel c.a0 b (c.L G)).eval (.tmp 61) = .agg #[.int .u64 t121_46] from (eval_of (putSel_on (e := (5, 61, .agg #[.int .u64 t121_46])) 5 rfl rfl (hon 5 rfl) rfl))]) (fun w_ => by rw [et121_62]; exact minus_c it121_60 it121_46 w_)) ?_
    refine steps_cons (step_alloc c 7 7 8 _ 13 undef rfl rfl rfl (fun _ => rfl) (fun _ _ => rfl) (fun _ => rfl) rfl rfl rfl (alloc_num rfl)) ?_
    refine steps_cons (step_store c 8 7 _ (.int .u64 t121_62) rfl rfl rfl (fun _ => rfl) rfl rfl 0 rfl rfl rfl (fun G b w_ hon hb => store_num (.tmp 13) (.tmp 62) rfl (G 7) (eval_of (putSel_on (e := (7, 13, .pointer (some ⟨G 7, 0, none⟩))) 7 rfl rfl (hon 7 rfl) rfl)) (eval_of (putSel_on (e := (6, 62, .agg #[.int .u64 t121_62])) 6 rfl rfl (hon 6 rfl) rfl)) hb.choose_spec)) ?_
    exact steps_nil
  intro G V7 hgr hE hR
  obtain ⟨lg121_13, hg121_13⟩ := hE (7, 8, .int .u64 t121_62) (by simp [c])
  dsimp only [c] at lg121_13 hg121_13
  replace hb0 := (hgr.block _ (lt_of_heap hb0) nofun).trans hb0
  replace hb1 := (hgr.block _ (lt_of_heap hb1) nofun).trans hb1
  replace hg121_3 := (hgr.block _ (lt_of_heap hg121_3) nofun).trans hg121_3
  replace hg121_4 := (hgr.block _ (lt_of_heap hg121_4) nofun).trans hg121_4
  replace hg121_5 := (hgr.block _ (lt_of_heap hg121_5) nofun).trans hg121_5
  replace hg121_6 := (hgr.block _ (lt_of_heap hg121_6) nofun).trans hg121_6
  replace hg121_7 := (hgr.block _ (lt_of_heap hg121_7) nofun).trans hg121_7
  replace hg121_8 := (hgr.block _ (lt_of_heap hg121_8) nofun).trans hg121_8
  replace hg121_9 := (hgr.block _ (lt_of_heap hg121_9) nofun).trans hg121_9
  replace hg121_10 := (hgr.block _ (lt_of_heap hg121_10) nofun).trans hg121_10
  replace hg121_11 := (hgr.block _ (lt_of_heap hg121_11) nofun).trans hg121_11
  replace hg121_12 := (hgr.block _ (lt_of_heap hg121_12) nofun).trans hg121_12
  replace hB := below_none hB hgr
  have ha_ : putAll' c.a0 (c.L G) = { tmps := #[.agg #[.int .u64 X, .int .u64 Y, .int .u64 Z], .pointer (some ⟨w.heap.size, 0, none⟩), .pointer (some ⟨w.heap.size + 1, 0, none⟩), .pointer (some ⟨g121_3, 0, none⟩), .pointer (some ⟨g121_4, 0, none⟩), .pointer (some ⟨g121_5, 0, none⟩), .pointer (some ⟨g121_6, 0, none⟩), .pointer (some ⟨g121_7, 0, none⟩), .pointer (some ⟨g121_8, 0, none⟩), .pointer (some ⟨g121_9, 0, none⟩), .pointer (some ⟨g121_10, 0, none⟩), .pointer (some ⟨g121_11, 0, none⟩), .pointer (some ⟨g121_12, 0, none⟩), .pointer (some ⟨G 7, 0, none⟩), undef, .pointer (some ⟨w.heap.size, 0, none⟩), .agg #[.int .u64 X], .pointer (some ⟨w.heap.size, 1, none⟩), .agg #[.int .u64 Y], .pointer (some ⟨w.heap.size, 2, none⟩), .agg #[.int .u64 Z], .pointer (some ⟨g121_4, 0, none⟩), .int .u64 Y, .bool false, .bool false, .pointer (some ⟨g121_5, 0, none⟩), .int .u64 Z, .bool false, .bool false, undef, undef, undef, undef, .agg #[.int .u64 Y], .agg #[.int .u64 Y], .agg #[.int .u64 t121_35], .agg #[.int .u64 Z], .agg #[.int .u64 Z], .agg #[.int .u64 t121_38], .agg #[.int .u64 4], .agg #[.int .u64 8], .agg #[.int .u64 3], .agg #[.int .u64 4], .agg #[.int .u64 X], .agg #[.int .u64 t121_44], .agg #[.int .u64 t121_35], .agg #[.int .u64 t121_46], .agg #[.int .u64 3], .agg #[.int .u64 X], .agg #[.int .u64 X], .agg #[.int .u64 t121_50], .agg #[.int .u64 t121_38], .agg #[.int .u64 t121_38], .agg #[.int .u64 t121_53], .agg #[.int .u64 t121_54], .agg #[.int .u64 t121_55], .agg #[.int .u64 t121_55], .agg #[.int .u64 t121_55], .agg #[.int .u64 t121_58], .agg #[.int .u64 t121_46], .agg #[.int .u64 t121_60], .agg #[.int .u64 t121_46], .agg #[.int .u64 t121_62], undef, undef, undef, undef, undef, undef, undef, undef, undef, undef, undef, undef, undef, undef, undef, undef, undef, undef, undef, undef, undef], defers := [] } := by kernel_rfl
  rw [ha_]
  clear ha_
  generalize G 7 = g121_13 at *
  have ng121_13 : some g121_13 ≠ some (w.heap.size + 1) := by intro e_; injection e_; omega
  clear c hE hR hgr hr_ eW7
  refine hK _ _ ?_
  clear hK K
  refine wp_seq_k fun K hK => ?_
  obtain ⟨t121_66, et121_66⟩ : ∃ t, t = mi t121_46 t121_62 := ⟨_, rfl⟩
  have it121_66 : In t121_66 := by rw [et121_66]; exact in_mi _ _
  obtain ⟨t121_67, et121_67⟩ : ∃ t, t = tm t121_55 t121_66 := ⟨_, rfl⟩
  have it121_67 : In t121_67 := by rw [et121_67]; exact in_tm _ _
  obtain ⟨t121_70, et121_70⟩ : ∃ t, t = tm 8 t121_35 := ⟨_, rfl⟩
  have it121_70 : In t121_70 := by rw [et121_70]; exact in_tm _ _
  obtain ⟨t121_72, et121_72⟩ : ∃ t, t = tm t121_70 t121_35 := ⟨_, rfl⟩
  have it121_72 : In t121_72 := by rw [et121_72]; exact in_tm _ _
  obtain ⟨t121_73, et121_73⟩ : ∃ t, t = mi t121_67 t121_72 := ⟨_, rfl⟩
  have it121_73 : In t121_73 := by rw [et121_73]; exact in_mi _ _
  obtain ⟨W8, eW8⟩ : ∃ W_, W_ = V7.drew := ⟨_, rfl⟩
  replace hb0 := (show W8.heap[w.heap.size]? = V7.heap[w.heap.size]? by rw [eW8]; rfl).trans hb0
  replace hb1 := (show W8.heap[w.heap.size + 1]? = V7.heap[w.heap.size + 1]? by rw [eW8]; rfl).trans hb1
  replace hg121_3 := (show W8.heap[g121_3]? = V7.heap[g121_3]? by rw [eW8]; rfl).trans hg121_3
  replace hg121_4 := (show W8.heap[g121_4]? = V7.heap[g121_4]? by rw [eW8]; rfl).trans hg121_4
  replace hg121_5 := (show W8.heap[g121_5]? = V7.heap[g121_5]? by rw [eW8]; rfl).trans hg121_5
  replace hg121_6 := (show W8.heap[g121_6]? = V7.heap[g121_6]? by rw [eW8]; rfl).trans hg121_6
  replace hg121_7 := (show W8.heap[g121_7]? = V7.heap[g121_7]? by rw [eW8]; rfl).trans hg121_7
  replace hg121_8 := (show W8.heap[g121_8]? = V7.heap[g121_8]? by rw [eW8]; rfl).trans hg121_8
  replace hg121_9 := (show W8.heap[g121_9]? = V7.heap[g121_9]? by rw [eW8]; rfl).trans hg121_9
  replace hg121_10 := (show W8.heap[g121_10]? = V7.heap[g121_10]? by rw [eW8]; rfl).trans hg121_10
  replace hg121_11 := (show W8.heap[g121_11]? = V7.heap[g121_11]? by rw [eW8]; rfl).trans hg121_11
  replace hg121_12 := (show W8.heap[g121_12]? = V7.heap[g121_12]? by rw [eW8]; rfl).trans hg121_12
  replace hg121_13 := (show W8.heap[g121_13]? = V7.heap[g121_13]? by rw [eW8]; rfl).trans hg121_13
  replace hB : Below w.heap.size w W8 := by rw [eW8]; exact below_drew' hB
  have hr_ := lt_of_heap hb1
  let c : Cfg := ⟨{ tmps := #[.agg #[.int .u64 X, .int .u64 Y, .int .u64 Z], .pointer (some ⟨w.heap.size, 0, none⟩), .pointer (some ⟨w.heap.size + 1, 0, none⟩), .pointer (some ⟨g121_3, 0, none⟩), .pointer (some ⟨g121_4, 0, none⟩), .pointer (some ⟨g121_5, 0, none⟩), .pointer (some ⟨g121_6, 0, none⟩), .pointer (some ⟨g121_7, 0, none⟩), .pointer (some ⟨g121_8, 0, none⟩), .pointer (some ⟨g121_9, 0, none⟩), .pointer (some ⟨g121_10, 0, none⟩), .pointer (some ⟨g121_11, 0, none⟩), .pointer (some ⟨g121_12, 0, none⟩), .pointer (some ⟨g121_13, 0, none⟩), undef, .pointer (some ⟨w.heap.size, 0, none⟩), .agg #[.int .u64 X], .pointer (some ⟨w.heap.size, 1, none⟩), .agg #[.int .u64 Y], .pointer (some ⟨w.heap.size, 2, none⟩), .agg #[.int .u64 Z], .pointer (some ⟨g121_4, 0, none⟩), .int .u64 Y, .bool false, .bool false, .pointer (some ⟨g121_5, 0, none⟩), .int .u64 Z, .bool false, .bool false, undef, undef, undef, undef, .agg #[.int .u64 Y], .agg #[.int .u64 Y], .agg #[.int .u64 t121_35], .agg #[.int .u64 Z], .agg #[.int .u64 Z], .agg #[.int .u64 t121_38], .agg #[.int .u64 4], .agg #[.int .u64 8], .agg #[.int .u64 3], .agg #[.int .u64 4], .agg #[.int .u64 X], .agg #[.int .u64 t121_44], .agg #[.int .u64 t121_35], .agg #[.int .u64 t121_46], .agg #[.int .u64 3], .agg #[.int .u64 X], .agg #[.int .u64 X], .agg #[.int .u64 t121_50], .agg #[.int .u64 t121_38], .agg #[.int .u64 t121_38], .agg #[.int .u64 t121_53], .agg #[.int .u64 t121_54], .agg #[.int .u64 t121_55], .agg #[.int .u64 t121_55], .agg #[.int .u64 t121_55], .agg #[.int .u64 t121_58], .agg #[.int .u64 t121_46], .agg #[.int .u64 t121_60], .agg #[.int .u64 t121_46], .agg #[.int .u64 t121_62], undef, undef, undef, undef, undef, undef, undef, undef, undef, undef, undef, undef, undef, undef, undef, undef, undef, undef, undef, undef, undef], defers := [] }, W8, none, fun G => [(0, 63, .agg #[.int .u64 t121_55]), (1, 64, .agg #[.int .u64 t121_46]), (2, 65, .agg #[.int .u64 t121_62]), (3, 66, .agg #[.int .u64 t121_66]), (4, 67, .agg #[.int .u64 t121_67]), (5, 68, .agg #[.int .u64 8]), (6, 69, .agg #[.int .u64 t121_35]), (7, 70, .agg #[.int .u64 t121_70]), (8, 71, .agg #[.int .u64 t121_35]), (9, 72, .agg #[.int .u64 t121_72]), (10, 73, .agg #[.int .u64 t121_73]), (11, 14, .pointer (some ⟨G 11, 0, none⟩))], [(11, 12, .int .u64 t121_73)], 85, []⟩
  refine drawn_region (IB c) (n := 13) rfl rfl tab121_10 bits121_10 (by kernel_rfl) (by kernel_rfl) (by rw [← eW8]; exact (start_IB c (by intro x hx; cases hx))) ?_ (end_IB c (by intro G e he; exact List.all_eq_true.1 (show ((c.L G).all fun e => (List.range 13).contains e.1) = true from rfl) e he) (by intro e he; have := List.all_eq_true.1 (show (c.E.all fun e => (List.range 13).contains e.1 && (List.range 13).contains e.2.1) = true from rfl) e he; simpa using this) (by intro x hx; exact List.all_eq_true.1 (show (c.R.all fun x => (List.range 13).contains x.1) = true from rfl) x hx) ?_)
  · show ∀ i ∈ [0, 1, 2, 3, 4, 5, 6, 7, 8, 9, 10, 11, 12], StepAt _ _ _ _ _ (IB c) i
    refine steps_cons (step_val c 0 0 _ 63 (.agg #[.int .u64 t121_55]) rfl rfl rfl (fun _ => rfl) (fun _ => rfl) rfl rfl (fun G b w_ hon hg => load_num (.tmp 12) rfl (g121_12) 0 (eval_of ((putSel_off rfl).trans rfl)) ((old_cell hg hg121_12 nofun 0).trans rfl))) ?_
    refine steps_cons (step_val c 1 1 _ 64 (.agg #[.int .u64 t121_46]) rfl rfl rfl (fun _ => rfl) (fun _ => rfl) rfl rfl (fun G b w_ hon hg => load_num (.tmp 11) rfl (g121_11) 0 (eval_of ((putSel_off rfl).trans rfl)) ((old_cell hg hg121_11 nofun 0).trans rfl))) ?_
    refine steps_cons (step_val c 2 2 _ 65 (.agg #[.int .u64 t121_62]) rfl rfl rfl (fun _ => rfl) (fun _ => rfl) rfl rfl (fun G b w_ hon hg => load_num (.tmp 13) rfl (g121_13) 0 (eval_of ((putSel_off rfl).trans rfl)) ((old_cell hg hg121_13 nofun 0).trans rfl))) ?_
    refine steps_cons (step_call c 3 3 _ 66 (.agg #[.int .u64 t121_66]) rfl rfl rfl (fun _ => rfl) (fun _ => rfl) rfl rfl Tryd.func120 rfl rfl rfl #[.agg #[.int .u64 t121_46], .agg #[.int .u64 t121_62]] (fun G b hon => by rw [show (#[.tmp 64, .tmp 65] : Array Operand).map (putSel c.a0 b (c.L G)).eval = #[(putSel c.a0 b (c.L G)).eval (.tmp 64), (putSel c.a0 b (c.L G)).eval (.tmp 65)] from by simp only [List.map_toArray, List.map_cons, List.map_nil], show (putSel c.a0 b (c.L G)).eval (.tmp 64) = .agg #[.int .u64 t121_46] from (eval_of (putSel_on (e := (1, 64, .agg #[.int .u64 t121_46])) 1 rfl rfl (hon 1 rfl) rfl)), show (putSel c.a0 b (c.L G)).eval (.tmp 65) = .agg #[.int .u64 t121_62] from (eval_of (putSel_on (e := (2, 65, .agg #[.int .u64 t121_62])) 2 rfl rfl (hon 2 rfl) rfl))]) (fun w_ => by rw [et121_66]; exact minus_c it121_46 it121_62 w_)) ?_
    refine steps_cons (step_call c 4 4 _ 67 (.agg #[.int .u64 t121_67]) rfl rfl rfl (fun _ => rfl) (fun _ => rfl) rfl rfl Tryd.func111 rfl rfl rfl #[.agg #[.int .u64 t121_55], .agg #[.int .u64 t121_66]] (fun G b hon => by rw [show (#[.tmp 63, .tmp 66] : Array Operand).map (putSel c.a0 b (c.L G)).eval = #[(putSel c.a0 b (c.L G)).eval (.tmp 63), (putSel c.a0 b (c.L G)).eval (.tmp 66)] from by simp only [List.map_toArray, List.map_cons, List.map_nil], show (putSel c.a0 b (c.L G)).eval (.tmp 63) = .agg #[.int .u64 t121_55] from (eval_of (putSel_on (e := (0, 63, .agg #[.int .u64 t121_55])) 0 rfl rfl (hon 0 rfl) rfl)), show (putSel c.a0 b (c.L G)).eval (.tmp 66) = .agg #[.int .u64 t121_66] from (eval_of (putSel_on (e := (3, 66, .agg #[.int .u64 t121_66])) 3 rfl rfl (hon 3 rfl) rfl))]) (fun w_ => by rw [et121_67]; exact times_c it121_55 it121_66 w_)) ?_
    refine steps_cons (step_val c 5 5 _ 68 (.agg #[.int .u64 8]) rfl rfl rfl (fun _ => rfl) (fun _ => rfl) rfl rfl (fun G b w_ hon hg => load_num (.tmp 9) rfl (g121_9) 0 (eval_of ((putSel_off rfl).trans rfl)) ((old_cell hg hg121_9 nofun 0).trans rfl))) ?_
    refine steps_cons (step_val c 6 6 _ 69 (.agg #[.int .u64 t121_35]) rfl rfl rfl (fun _ => rfl) (fun _ => rfl) rfl rfl (fun G b w_ hon hg => load_num (.tmp 6) rfl (g121_6) 0 (eval_of ((putSel_off rfl).trans rfl)) ((old_cell hg hg121_6 nofun 0).trans rfl))) ?_
    refine steps_cons (step_call c 7 7 _ 70 (.agg #[.int .u64 t121_70]) rfl rfl rfl (fun _ => rfl) (fun _ => rfl) rfl rfl Tryd.func111 rfl rfl rfl #[.agg #[.int .u64 8], .agg #[.int .u64 t121_35]] (fun G b hon => by rw [show (#[.tmp 68, .tmp 69] : Array Operand).map (putSel c.a0 b (c.L G)).eval = #[(putSel c.a0 b (c.L G)).eval (.tmp 68), (putSel c.a0 b (c.L G)).eval (.tmp 69)] from by simp only [List.map_toArray, List.map_cons, List.map_nil], show (putSel c.a0 b (c.L G)).eval (.tmp 68) = .agg #[.int .u64 8] from (eval_of (putSel_on (e := (5, 68, .agg #[.int .u64 8])) 5 rfl rfl (hon 5 rfl) rfl)), show (putSel c.a0 b (c.L G)).eval (.tmp 69) = .agg #[.int .u64 t121_35] from (eval_of (putSel_on (e := (6, 69, .agg #[.int .u64 t121_35])) 6 rfl rfl (hon 6 rfl) rfl))]) (fun w_ => by rw [et121_70]; exact times_c (i_lit 8) it121_35 w_)) ?_
    refine steps_cons (step_val c 8 8 _ 71 (.agg #[.int .u64 t121_35]) rfl rfl rfl (fun _ => rfl) (fun _ => rfl) rfl rfl (fun G b w_ hon hg => load_num (.tmp 6) rfl (g121_6) 0 (eval_of ((putSel_off rfl).trans rfl)) ((old_cell hg hg121_6 nofun 0).trans rfl))) ?_
    refine steps_cons (step_call c 9 9 _ 72 (.agg #[.int .u64 t121_72]) rfl rfl rfl (fun _ => rfl) (fun _ => rfl) rfl rfl Tryd.func111 rfl rfl rfl #[.agg #[.int .u64 t121_70], .agg #[.int .u64 t121_35]] (fun G b hon => by rw [show (#[.tmp 70, .tmp 71] : Array Operand).map (putSel c.a0 b (c.L G)).eval = #[(putSel c.a0 b (c.L G)).eval (.tmp 70), (putSel c.a0 b (c.L G)).eval (.tmp 71)] from by simp only [List.map_toArray, List.map_cons, List.map_nil], show (putSel c.a0 b (c.L G)).eval (.tmp 70) = .agg #[.int .u64 t121_70] from (eval_of (putSel_on (e := (7, 70, .agg #[.int .u64 t121_70])) 7 rfl rfl (hon 7 rfl) rfl)), show (putSel c.a0 b (c.L G)).eval (.tmp 71) = .agg #[.int .u64 t121_35] from (eval_of (putSel_on (e := (8, 71, .agg #[.int .u64 t121_35])) 8 rfl rfl (hon 8 rfl) rfl))]) (fun w_ => by rw [et121_72]; exact times_c it121_70 it121_35 w_)) ?_
    refine steps_cons (step_call c 10 10 _ 73 (.agg #[.int .u64 t121_73]) rfl rfl rfl (fun _ => rfl) (fun _ => rfl) rfl rfl Tryd.func120 rfl rfl rfl #[.agg #[.int .u64 t121_67], .agg #[.int .u64 t121_72]] (fun G b hon => by rw [show (#[.tmp 67, .tmp 72] : Array Operand).map (putSel c.a0 b (c.L G)).eval = #[(putSel c.a0 b (c.L G)).eval (.tmp 67), (putSel c.a0 b (c.L G)).eval (.tmp 72)] from by simp only [List.map_toArray, List.map_cons, List.map_nil], show (putSel c.a0 b (c.L G)).eval (.tmp 67) = .agg #[.int .u64 t121_67] from (eval_of (putSel_on (e := (4, 67, .agg #[.int .u64 t121_67])) 4 rfl rfl (hon 4 rfl) rfl)), show (putSel c.a0 b (c.L G)).eval (.tmp 72) = .agg #[.int .u64 t121_72] from (eval_of (putSel_on (e := (9, 72, .agg #[.int .u64 t121_72])) 9 rfl rfl (hon 9 rfl) rfl))]) (fun w_ => by rw [et121_73]; exact minus_c it121_67 it121_72 w_)) ?_
    refine steps_cons (step_alloc c 11 11 12 _ 14 undef rfl rfl rfl (fun _ => rfl) (fun _ _ => rfl) (fun _ => rfl) rfl rfl rfl (alloc_num rfl)) ?_
    refine steps_cons (step_store c 12 11 _ (.int .u64 t121_73) rfl rfl rfl (fun _ => rfl) rfl rfl 0 rfl rfl rfl (fun G b w_ hon hb => store_num (.tmp 14) (.tmp 73) rfl (G 11) (eval_of (putSel_on (e := (11, 14, .pointer (some ⟨G 11, 0, none⟩))) 11 rfl rfl (hon 11 rfl) rfl)) (eval_of (putSel_on (e := (10, 73, .agg #[.int .u64 t121_73])) 10 rfl rfl (hon 10 rfl) rfl)) hb.choose_spec)) ?_
    exact steps_nil
  intro G V8 hgr hE hR
  obtain ⟨lg121_14, hg121_14⟩ := hE (11, 12, .int .u64 t121_73) (by simp [c])
  dsimp only [c] at lg121_14 hg121_14
  replace hb0 := (hgr.block _ (lt_of_heap hb0) nofun).trans hb0
  replace hb1 := (hgr.block _ (lt_of_heap hb1) nofun).trans hb1
  replace hg121_3 := (hgr.block _ (lt_of_heap hg121_3) nofun).trans hg121_3
  replace hg121_4 := (hgr.block _ (lt_of_heap hg121_4) nofun).trans hg121_4
  replace hg121_5 := (hgr.block _ (lt_of_heap hg121_5) nofun).trans hg121_5
  replace hg121_6 := (hgr.block _ (lt_of_heap hg121_6) nofun).trans hg121_6
  replace hg121_7 := (hgr.block _ (lt_of_heap hg121_7) nofun).trans hg121_7
  replace hg121_8 := (hgr.block _ (lt_of_heap hg121_8) nofun).trans hg121_8
  replace hg121_9 := (hgr.block _ (lt_of_heap hg121_9) nofun).trans hg121_9
  replace hg121_10 := (hgr.block _ (lt_of_heap hg121_10) nofun).trans hg121_10
  replace hg121_11 := (hgr.block _ (lt_of_heap hg121_11) nofun).trans hg121_11
  replace hg121_12 := (hgr.block _ (lt_of_heap hg121_12) nofun).trans hg121_12
  replace hg121_13 := (hgr.block _ (lt_of_heap hg121_13) nofun).trans hg121_13
  replace hB := below_none hB hgr
  have ha_ : putAll' c.a0 (c.L G) = { tmps := #[.agg #[.int .u64 X, .int .u64 Y, .int .u64 Z], .pointer (some ⟨w.heap.size, 0, none⟩), .pointer (some ⟨w.heap.size + 1, 0, none⟩), .pointer (some ⟨g121_3, 0, none⟩), .pointer (some ⟨g121_4, 0, none⟩), .pointer (some ⟨g121_5, 0, none⟩), .pointer (some ⟨g121_6, 0, none⟩), .pointer (some ⟨g121_7, 0, none⟩), .pointer (some ⟨g121_8, 0, none⟩), .pointer (some ⟨g121_9, 0, none⟩), .pointer (some ⟨g121_10, 0, none⟩), .pointer (some ⟨g121_11, 0, none⟩), .pointer (some ⟨g121_12, 0, none⟩), .pointer (some ⟨g121_13, 0, none⟩), .pointer (some ⟨G 11, 0, none⟩), .pointer (some ⟨w.heap.size, 0, none⟩), .agg #[.int .u64 X], .pointer (some ⟨w.heap.size, 1, none⟩), .agg #[.int .u64 Y], .pointer (some ⟨w.heap.size, 2, none⟩), .agg #[.int .u64 Z], .pointer (some ⟨g121_4, 0, none⟩), .int .u64 Y, .bool false, .bool false, .pointer (some ⟨g121_5, 0, none⟩), .int .u64 Z, .bool false, .bool false, undef, undef, undef, undef, .agg #[.int .u64 Y], .agg #[.int .u64 Y], .agg #[.int .u64 t121_35], .agg #[.int .u64 Z], .agg #[.int .u64 Z], .agg #[.int .u64 t121_38], .agg #[.int .u64 4], .agg #[.int .u64 8], .agg #[.int .u64 3], .agg #[.int .u64 4], .agg #[.int .u64 X], .agg #[.int .u64 t121_44], .agg #[.int .u64 t121_35], .agg #[.int .u64 t121_46], .agg #[.int .u64 3], .agg #[.int .u64 X], .agg #[.int .u64 X], .agg #[.int .u64 t121_50], .agg #[.int .u64 t121_38], .agg #[.int .u64 t121_38], .agg #[.int .u64 t121_53], .agg #[.int .u64 t121_54], .agg #[.int .u64 t121_55], .agg #[.int .u64 t121_55], .agg #[.int .u64 t121_55], .agg #[.int .u64 t121_58], .agg #[.int .u64 t121_46], .agg #[.int .u64 t121_60], .agg #[.int .u64 t121_46], .agg #[.int .u64 t121_62], .agg #[.int .u64 t121_55], .agg #[.int .u64 t121_46], .agg #[.int .u64 t121_62], .agg #[.int .u64 t121_66], .agg #[.int .u64 t121_67], .agg #[.int .u64 8], .agg #[.int .u64 t121_35], .agg #[.int .u64 t121_70], .agg #[.int .u64 t121_35], .agg #[.int .u64 t121_72], .agg #[.int .u64 t121_73], undef, undef, undef, undef, undef, undef, undef, undef, undef, undef], defers := [] } := by kernel_rfl
  rw [ha_]
  clear ha_
  generalize G 11 = g121_14 at *
  have ng121_14 : some g121_14 ≠ some (w.heap.size + 1) := by intro e_; injection e_; omega
  clear c hE hR hgr hr_ eW8
  refine hK _ _ ?_
  clear hK K
  refine wp_seq_k fun K hK => ?_
  obtain ⟨t121_78, et121_78⟩ : ∃ t, t = tm Y Z := ⟨_, rfl⟩
  have it121_78 : In t121_78 := by rw [et121_78]; exact in_tm _ _
  obtain ⟨t121_81, et121_81⟩ : ∃ t, t = tm Y Z := ⟨_, rfl⟩
  have it121_81 : In t121_81 := by rw [et121_81]; exact in_tm _ _
  obtain ⟨t121_82, et121_82⟩ : ∃ t, t = ad t121_78 t121_81 := ⟨_, rfl⟩
  have it121_82 : In t121_82 := by rw [et121_82]; exact in_ad _ _
  obtain ⟨W9, eW9⟩ : ∃ W_, W_ = V8.drew := ⟨_, rfl⟩
  replace hb0 := (show W9.heap[w.heap.size]? = V8.heap[w.heap.size]? by rw [eW9]; rfl).trans hb0
  replace hb1 := (show W9.heap[w.heap.size + 1]? = V8.heap[w.heap.size + 1]? by rw [eW9]; rfl).trans hb1
  replace hg121_3 := (show W9.heap[g121_3]? = V8.heap[g121_3]? by rw [eW9]; rfl).trans hg121_3
  replace hg121_4 := (show W9.heap[g121_4]? = V8.heap[g121_4]? by rw [eW9]; rfl).trans hg121_4
  replace hg121_5 := (show W9.heap[g121_5]? = V8.heap[g121_5]? by rw [eW9]; rfl).trans hg121_5
  replace hg121_6 := (show W9.heap[g121_6]? = V8.heap[g121_6]? by rw [eW9]; rfl).trans hg121_6
  replace hg121_7 := (show W9.heap[g121_7]? = V8.heap[g121_7]? by rw [eW9]; rfl).trans hg121_7
  replace hg121_8 := (show W9.heap[g121_8]? = V8.heap[g121_8]? by rw [eW9]; rfl).trans hg121_8
  replace hg121_9 := (show W9.heap[g121_9]? = V8.heap[g121_9]? by rw [eW9]; rfl).trans hg121_9
  replace hg121_10 := (show W9.heap[g121_10]? = V8.heap[g121_10]? by rw [eW9]; rfl).trans hg121_10
  replace hg121_11 := (show W9.heap[g121_11]? = V8.heap[g121_11]? by rw [eW9]; rfl).trans hg121_11
  replace hg121_12 := (show W9.heap[g121_12]? = V8.heap[g121_12]? by rw [eW9]; rfl).trans hg121_12
  replace hg121_13 := (show W9.heap[g121_13]? = V8.heap[g121_13]? by rw [eW9]; rfl).trans hg121_13
  replace hg121_14 := (show W9.heap[g121_14]? = V8.heap[g121_14]? by rw [eW9]; rfl).trans hg121_14
  replace hB : Below w.heap.size w W9 := by rw [eW9]; exact below_drew' hB
  have hr_ := lt_of_heap hb1
  let c : Cfg := ⟨{ tmps := #[.agg #[.int .u64 X, .int .u64 Y, .int .u64 Z], .pointer (some ⟨w.heap.size, 0, none⟩), .pointer (some ⟨w.heap.size + 1, 0, none⟩), .pointer (some ⟨g121_3, 0, none⟩), .pointer (some ⟨g121_4, 0, none⟩), .pointer (some ⟨g121_5, 0, none⟩), .pointer (some ⟨g121_6, 0, none⟩), .pointer (some ⟨g121_7, 0, none⟩), .pointer (some ⟨g121_8, 0, none⟩), .pointer (some ⟨g121_9, 0, none⟩), .pointer (some ⟨g121_10, 0, none⟩), .pointer (some ⟨g121_11, 0, none⟩), .pointer (some ⟨g121_12, 0, none⟩), .pointer (some ⟨g121_13, 0, none⟩), .pointer (some ⟨g121_14, 0, none⟩), .pointer (some ⟨w.heap.size, 0, none⟩), .agg #[.int .u64 X], .pointer (some ⟨w.heap.size, 1, none⟩), .agg #[.int .u64 Y], .pointer (some ⟨w.heap.size, 2, none⟩), .agg #[.int .u64 Z], .pointer (some ⟨g121_4, 0, none⟩), .int .u64 Y, .bool false, .bool false, .pointer (some ⟨g121_5, 0, none⟩), .int .u64 Z, .bool false, .bool false, undef, undef, undef, undef, .agg #[.int .u64 Y], .agg #[.int .u64 Y], .agg #[.int .u64 t121_35], .agg #[.int .u64 Z], .agg #[.int .u64 Z], .agg #[.int .u64 t121_38], .agg #[.int .u64 4], .agg #[.int .u64 8], .agg #[.int .u64 3], .agg #[.int .u64 4], .agg #[.int .u64 X], .agg #[.int .u64 t121_44], .agg #[.int .u64 t121_35], .agg #[.int .u64 t121_46], .agg #[.int .u64 3], .agg #[.int .u64 X], .agg #[.int .u64 X], .agg #[.int .u64 t121_50], .agg #[.int .u64 t121_38], .agg #[.int .u64 t121_38], .agg #[.int .u64 t121_53], .agg #[.int .u64 t121_54], .agg #[.int .u64 t121_55], .agg #[.int .u64 t121_55], .agg #[.int .u64 t121_55], .agg #[.int .u64 t121_58], .agg #[.int .u64 t121_46], .agg #[.int .u64 t121_60], .agg #[.int .u64 t121_46], .agg #[.int .u64 t121_62], .agg #[.int .u64 t121_55], .agg #[.int .u64 t121_46], .agg #[.int .u64 t121_62], .agg #[.int .u64 t121_66], .agg #[.int .u64 t121_67], .agg #[.int .u64 8], .agg #[.int .u64 t121_35], .agg #[.int .u64 t121_70], .agg #[.int .u64 t121_35], .agg #[.int .u64 t121_72], .agg #[.int .u64 t121_73], undef, undef, undef, undef, undef, undef, undef, undef, undef, undef], defers := [] }, W9, some (w.heap.size + 1), fun G => [(0, 74, .agg #[.int .u64 t121_62]), (1, 75, .agg #[.int .u64 t121_73]), (2, 76, .agg #[.int .u64 Y]), (3, 77, .agg #[.int .u64 Z]), (4, 78, .agg #[.int .u64 t121_78]), (5, 79, .agg #[.int .u64 Y]), (6, 80, .agg #[.int .u64 Z]), (7, 81, .agg #[.int .u64 t121_81]), (8, 82, .agg #[.int .u64 t121_82]), (9, 83, .agg #[.int .u64 t121_62, .int .u64 t121_73, .int .u64 t121_82])], [], 85, [(10, w.heap.size + 1, #[.int .u64 0, .int .u64 0, .int .u64 0], #[.int .u64 t121_62, .int .u64 t121_73, .int .u64 t121_82], 98)]⟩
  refine drawn_region (IB c) (n := 11) rfl rfl tab121_11 bits121_11 (by kernel_rfl) (by kernel_rfl) (by rw [← eW9]; exact (start_IB c (by intro x hx; obtain rfl := List.mem_singleton.1 hx; exact ⟨lt_of_heap hb1, hb1⟩))) ?_ (end_IB c (by intro G e he; exact List.all_eq_true.1 (show ((c.L G).all fun e => (List.range 11).contains e.1) = true from rfl) e he) (by intro e he; have := List.all_eq_true.1 (show (c.E.all fun e => (List.range 11).contains e.1 && (List.range 11).contains e.2.1) = true from rfl) e he; simpa using this) (by intro x hx; exact List.all_eq_true.1 (show (c.R.all fun x => (List.range 11).contains x.1) = true from rfl) x hx) ?_)
  · show ∀ i ∈ [0, 1, 2, 3, 4, 5, 6, 7, 8, 9, 10], StepAt _ _ _ _ _ (IB c) i
    refine steps_cons (step_val c 0 0 _ 74 (.agg #[.int .u64 t121_62]) rfl rfl rfl (fun _ => rfl) (fun _ => rfl) rfl rfl (fun G b w_ hon hg => load_num (.tmp 13) rfl (g121_13) 0 (eval_of ((putSel_off rfl).trans rfl)) ((old_cell hg hg121_13 ng121_13 0).trans rfl))) ?_
    refine steps_cons (step_val c 1 1 _ 75 (.agg #[.int .u64 t121_73]) rfl rfl rfl (fun _ => rfl) (fun _ => rfl) rfl rfl (fun G b w_ hon hg => load_num (.tmp 14) rfl (g121_14) 0 (eval_of ((putSel_off rfl).trans rfl)) ((old_cell hg hg121_14 ng121_14 0).trans rfl))) ?_
    refine steps_cons (step_val c 2 2 _ 76 (.agg #[.int .u64 Y]) rfl rfl rfl (fun _ => rfl) (fun _ => rfl) rfl rfl (fun G b w_ hon hg => load_num (.tmp 4) rfl (g121_4) 0 (eval_of ((putSel_off rfl).trans rfl)) ((old_cell hg hg121_4 ng121_4 0).trans rfl))) ?_
    refine steps_cons (step_val c 3 3 _ 77 (.agg #[.int .u64 Z]) rfl rfl rfl (fun _ => rfl) (fun _ => rfl) rfl rfl (fun G b w_ hon hg => load_num (.tmp 5) rfl (g121_5) 0 (eval_of ((putSel_off rfl).trans rfl)) ((old_cell hg hg121_5 ng121_5 0).trans rfl))) ?_
    refine steps_cons (step_call c 4 4 _ 78 (.agg #[.int .u64 t121_78]) rfl rfl rfl (fun _ => rfl) (fun _ => rfl) rfl rfl Tryd.func111 rfl rfl rfl #[.agg #[.int .u64 Y], .agg #[.int .u64 Z]] (fun G b hon => by rw [show (#[.tmp 76, .tmp 77] : Array Operand).map (putSel c.a0 b (c.L G)).eval = #[(putSel c.a0 b (c.L G)).eval (.tmp 76), (putSel c.a0 b (c.L G)).eval (.tmp 77)] from by simp only [List.map_toArray, List.map_cons, List.map_nil], show (putSel c.a0 b (c.L G)).eval (.tmp 76) = .agg #[.int .u64 Y] from (eval_of (putSel_on (e := (2, 76, .agg #[.int .u64 Y])) 2 rfl rfl (hon 2 rfl) rfl)), show (putSel c.a0 b (c.L G)).eval (.tmp 77) = .agg #[.int .u64 Z] from (eval_of (putSel_on (e := (3, 77, .agg #[.int .u64 Z])) 3 rfl rfl (hon 3 rfl) rfl))]) (fun w_ => by rw [et121_78]; exact times_c hY hZ w_)) ?_
    refine steps_cons (step_val c 5 5 _ 79 (.agg #[.int .u64 Y]) rfl rfl rfl (fun _ => rfl) (fun _ => rfl) rfl rfl (fun G b w_ hon hg => load_num (.tmp 4) rfl (g121_4) 0 (eval_of ((putSel_off rfl).trans rfl)) ((old_cell hg hg121_4 ng121_4 0).trans rfl))) ?_
    refine steps_cons (step_val c 6 6 _ 80 (.agg #[.int .u64 Z]) rfl rfl rfl (fun _ => rfl) (fun _ => rfl) rfl rfl (fun G b w_ hon hg => load_num (.tmp 5) rfl (g121_5) 0 (eval_of ((putSel_off rfl).trans rfl)) ((old_cell hg hg121_5 ng121_5 0).trans rfl))) ?_
    refine steps_cons (step_call c 7 7 _ 81 (.agg #[.int .u64 t121_81]) rfl rfl rfl (fun _ => rfl) (fun _ => rfl) rfl rfl Tryd.func111 rfl rfl rfl #[.agg #[.int .u64 Y], .agg #[.int .u64 Z]] (fun G b hon => by rw [show (#[.tmp 79, .tmp 80] : Array Operand).map (putSel c.a0 b (c.L G)).eval = #[(putSel c.a0 b (c.L G)).eval (.tmp 79), (putSel c.a0 b (c.L G)).eval (.tmp 80)] from by simp only [List.map_toArray, List.map_cons, List.map_nil], show (putSel c.a0 b (c.L G)).eval (.tmp 79) = .agg #[.int .u64 Y] from (eval_of (putSel_on (e := (5, 79, .agg #[.int .u64 Y])) 5 rfl rfl (hon 5 rfl) rfl)), show (putSel c.a0 b (c.L G)).eval (.tmp 80) = .agg #[.int .u64 Z] from (eval_of (putSel_on (e := (6, 80, .agg #[.int .u64 Z])) 6 rfl rfl (hon 6 rfl) rfl))]) (fun w_ => by rw [et121_81]; exact times_c hY hZ w_)) ?_
    refine steps_cons (step_call c 8 8 _ 82 (.agg #[.int .u64 t121_82]) rfl rfl rfl (fun _ => rfl) (fun _ => rfl) rfl rfl Tryd.func124 rfl rfl rfl #[.agg #[.int .u64 t121_78], .agg #[.int .u64 t121_81]] (fun G b hon => by rw [show (#[.tmp 78, .tmp 81] : Array Operand).map (putSel c.a0 b (c.L G)).eval = #[(putSel c.a0 b (c.L G)).eval (.tmp 78), (putSel c.a0 b (c.L G)).eval (.tmp 81)] from by simp only [List.map_toArray, List.map_cons, List.map_nil], show (putSel c.a0 b (c.L G)).eval (.tmp 78) = .agg #[.int .u64 t121_78] from (eval_of (putSel_on (e := (4, 78, .agg #[.int .u64 t121_78])) 4 rfl rfl (hon 4 rfl) rfl)), show (putSel c.a0 b (c.L G)).eval (.tmp 81) = .agg #[.int .u64 t121_81] from (eval_of (putSel_on (e := (7, 81, .agg #[.int .u64 t121_81])) 7 rfl rfl (hon 7 rfl) rfl))]) (fun w_ => by rw [et121_82]; exact plus_c it121_78 it121_81 w_)) ?_
    refine steps_cons (step_val c 9 9 _ 83 (.agg #[.int .u64 t121_62, .int .u64 t121_73, .int .u64 t121_82]) rfl rfl rfl (fun _ => rfl) (fun _ => rfl) rfl rfl (fun G b w_ hon hg => build_sp (.tmp 74) (.tmp 75) (.tmp 82) rfl (eval_of (putSel_on (e := (0, 74, .agg #[.int .u64 t121_62])) 0 rfl rfl (hon 0 rfl) rfl)) (eval_of (putSel_on (e := (1, 75, .agg #[.int .u64 t121_73])) 1 rfl rfl (hon 1 rfl) rfl)) (eval_of (putSel_on (e := (8, 82, .agg #[.int .u64 t121_82])) 8 rfl rfl (hon 8 rfl) rfl)))) ?_
    refine steps_cons (step_back c 10 (w.heap.size + 1) _ _ _ _ rfl rfl rfl (fun _ => rfl) rfl rfl rfl (fun G b w_ hon hb hg => store_sp (.tmp 2) (.tmp 83) rfl (w.heap.size + 1) (eval_of ((putSel_off rfl).trans rfl)) (eval_of (putSel_on (e := (9, 83, .agg #[.int .u64 t121_62, .int .u64 t121_73, .int .u64 t121_82])) 9 rfl rfl (hon 9 rfl) rfl)) hb)) ?_
    exact steps_nil
  intro G V9 hgr hE hR
  have hres := hR _ (List.mem_singleton.2 rfl)
  dsimp only [c] at hres hgr
  have ha_ : putAll' c.a0 (c.L G) = { tmps := #[.agg #[.int .u64 X, .int .u64 Y, .int .u64 Z], .pointer (some ⟨w.heap.size, 0, none⟩), .pointer (some ⟨w.heap.size + 1, 0, none⟩), .pointer (some ⟨g121_3, 0, none⟩), .pointer (some ⟨g121_4, 0, none⟩), .pointer (some ⟨g121_5, 0, none⟩), .pointer (some ⟨g121_6, 0, none⟩), .pointer (some ⟨g121_7, 0, none⟩), .pointer (some ⟨g121_8, 0, none⟩), .pointer (some ⟨g121_9, 0, none⟩), .pointer (some ⟨g121_10, 0, none⟩), .pointer (some ⟨g121_11, 0, none⟩), .pointer (some ⟨g121_12, 0, none⟩), .pointer (some ⟨g121_13, 0, none⟩), .pointer (some ⟨g121_14, 0, none⟩), .pointer (some ⟨w.heap.size, 0, none⟩), .agg #[.int .u64 X], .pointer (some ⟨w.heap.size, 1, none⟩), .agg #[.int .u64 Y], .pointer (some ⟨w.heap.size, 2, none⟩), .agg #[.int .u64 Z], .pointer (some ⟨g121_4, 0, none⟩), .int .u64 Y, .bool false, .bool false, .pointer (some ⟨g121_5, 0, none⟩), .int .u64 Z, .bool false, .bool false, undef, undef, undef, undef, .agg #[.int .u64 Y], .agg #[.int .u64 Y], .agg #[.int .u64 t121_35], .agg #[.int .u64 Z], .agg #[.int .u64 Z], .agg #[.int .u64 t121_38], .agg #[.int .u64 4], .agg #[.int .u64 8], .agg #[.int .u64 3], .agg #[.int .u64 4], .agg #[.int .u64 X], .agg #[.int .u64 t121_44], .agg #[.int .u64 t121_35], .agg #[.int .u64 t121_46], .agg #[.int .u64 3], .agg #[.int .u64 X], .agg #[.int .u64 X], .agg #[.int .u64 t121_50], .agg #[.int .u64 t121_38], .agg #[.int .u64 t121_38], .agg #[.int .u64 t121_53], .agg #[.int .u64 t121_54], .agg #[.int .u64 t121_55], .agg #[.int .u64 t121_55], .agg #[.int .u64 t121_55], .agg #[.int .u64 t121_58], .agg #[.int .u64 t121_46], .agg #[.int .u64 t121_60], .agg #[.int .u64 t121_46], .agg #[.int .u64 t121_62], .agg #[.int .u64 t121_55], .agg #[.int .u64 t121_46], .agg #[.int .u64 t121_62], .agg #[.int .u64 t121_66], .agg #[.int .u64 t121_67], .agg #[.int .u64 8], .agg #[.int .u64 t121_35], .agg #[.int .u64 t121_70], .agg #[.int .u64 t121_35], .agg #[.int .u64 t121_72], .agg #[.int .u64 t121_73], .agg #[.int .u64 t121_62], .agg #[.int .u64 t121_73], .agg #[.int .u64 Y], .agg #[.int .u64 Z], .agg #[.int .u64 t121_78], .agg #[.int .u64 Y], .agg #[.int .u64 Z], .agg #[.int .u64 t121_81], .agg #[.int .u64 t121_82], .agg #[.int .u64 t121_62, .int .u64 t121_73, .int .u64 t121_82]], defers := [] } := by kernel_rfl
  rw [ha_]
  clear ha_
  refine hK _ _ ?_
  refine wp_ret ?_
  try simp only [Exit.inBlock, Exit.then]
  refine bodyPost_ret (results_cell_row rfl _ _ (w.heap.size + 1) 98 #[.int .u64 t121_62, .int .u64 t121_73, .int .u64 t121_82] (0, 0) _ rfl hres Tryd.underlying98 rfl (by kernel_rfl)) rfl ⟨?_, below_of_gb hB hgr (by omega) (by omega)⟩
  clear hres hgr hE hR c; subst et121_82; subst et121_81; subst et121_78; subst et121_73; subst et121_72; subst et121_70; subst et121_67; subst et121_66; subst et121_62; subst et121_60; subst et121_58; subst et121_55; subst et121_54; subst et121_53; subst et121_50; subst et121_46; subst et121_44; subst et121_38; subst et121_35; rfl
set_option maxRecDepth 100000 in
set_option maxHeartbeats 8000000 in
theorem double_y {X Y Z : Int} (hX : In X) (hY : In Y) (hZ : In Z) (hy : Y = 0) (w : World) : Calls Tryd.prog 121 #[.agg #[.int .u64 X, .int .u64 Y, .int .u64 Z]] w fun e w' => e = .returned (.agg #[.int .u64 (1), .int .u64 (1), .int .u64 (0)]) ∧ Below w.heap.size w w' := by
  have yb : (Y == 0) = true := by simpa using hy
  clear hy
  go_enter Tryd.func121, Tryd.ntmps121
  refine wp_seq_k fun K hK => ?_
  replace hK := Aside0.mk hK
  go_wp2
  refine hK.out _ _ ?_
  clear hK K
  have hb0 : ((w.alloc (.cells #[.int .u64 X, .int .u64 Y, .int .u64 Z] 98)).alloc (.cells #[.int .u64 0, .int .u64 0, .int .u64 0] 98)).heap[w.heap.size]? = some (.cells #[.int .u64 X, .int .u64 Y, .int .u64 Z] 98 (0, 0)) := new2_0 _ _ _
  have hb1 : ((w.alloc (.cells #[.int .u64 X, .int .u64 Y, .int .u64 Z] 98)).alloc (.cells #[.int .u64 0, .int .u64 0, .int .u64 0] 98)).heap[w.heap.size + 1]? = some (.cells #[.int .u64 0, .int .u64 0, .int .u64 0] 98 (0, 0)) := new2_1 _ _ _
  have n0 : some (w.heap.size) ≠ some (w.heap.size + 1) := by intro e_; injection e_; omega
  have hB : Below w.heap.size w ((w.alloc (.cells #[.int .u64 X, .int .u64 Y, .int .u64 Z] 98)).alloc (.cells #[.int .u64 0, .int .u64 0, .int .u64 0] 98)) := newB2 _ _ _
  generalize ((w.alloc (.cells #[.int .u64 X, .int .u64 Y, .int .u64 Z] 98)).alloc (.cells #[.int .u64 0, .int .u64 0, .int .u64 0] 98)) = V0 at *
  refine wp_seq_k fun K hK => ?_
  obtain ⟨W10, eW10⟩ : ∃ W_, W_ = V0.drew := ⟨_, rfl⟩
  replace hb0 := (show W10.heap[w.heap.size]? = V0.heap[w.heap.size]? by rw [eW10]; rfl).trans hb0
  replace hb1 := (show W10.heap[w.heap.size + 1]? = V0.heap[w.heap.size + 1]? by rw [eW10]; rfl).trans hb1
  replace hB : Below w.heap.size w W10 := by rw [eW10]; exact below_drew' hB
  have hr_ := lt_of_heap hb1
  let c : Cfg := ⟨{ tmps := #[.agg #[.int .u64 X, .int .u64 Y, .int .u64 Z], .pointer (some ⟨w.heap.size, 0, none⟩), .pointer (some ⟨w.heap.size + 1, 0, none⟩), undef, undef, undef, undef, undef, undef, undef, undef, undef, undef, undef, undef, undef, undef, undef, undef, undef, undef, undef, undef, undef, undef, undef, undef, undef, undef, undef, undef, undef, undef, undef, undef, undef, undef, undef, undef, undef, undef, undef, undef, undef, undef, undef, undef, undef, undef, undef, undef, undef, undef, undef, undef, undef, undef, undef, undef, undef, undef, undef, undef, undef, undef, undef, undef, undef, undef, undef, undef, undef, undef, undef, undef, undef, undef, undef, undef, undef, undef, undef, undef, undef], defers := [] }, W10, none, fun G => [(0, 15, .pointer (some ⟨w.heap.size, 0, none⟩)), (1, 16, .agg #[.int .u64 X]), (2, 17, .pointer (some ⟨w.heap.size, 1, none⟩)), (3, 18, .agg #[.int .u64 Y]), (4, 19, .pointer (some ⟨w.heap.size, 2, none⟩)), (5, 20, .agg #[.int .u64 Z]), (6, 3, .pointer (some ⟨G 6, 0, none⟩)), (7, 4, .pointer (some ⟨G 7, 0, none⟩)), (8, 5, .pointer (some ⟨G 8, 0, none⟩))], [(6, 9, .int .u64 X), (7, 10, .int .u64 Y), (8, 11, .int .u64 Z)], 85, []⟩
  refine drawn_region (IB c) (n := 12) rfl rfl tab121_1 bits121_1 (by kernel_rfl) (by kernel_rfl) (by rw [← eW10]; exact (start_IB c (by intro x hx; cases hx))) ?_ (end_IB c (by intro G e he; exact List.all_eq_true.1 (show ((c.L G).all fun e => (List.range 12).contains e.1) = true from rfl) e he) (by intro e he; have := List.all_eq_true.1 (show (c.E.all fun e => (List.range 12).contains e.1 && (List.range 12).contains e.2.1) = true from rfl) e he; simpa using this) (by intro x hx; exact List.all_eq_true.1 (show (c.R.all fun x => (List.range 12).contains x.1) = true from rfl) x hx) ?_)
  · show ∀ i ∈ [0, 1, 2, 3, 4, 5, 6, 7, 8, 9, 10, 11], StepAt _ _ _ _ _ (IB c) i
    refine steps_cons (step_val c 0 0 _ 15 (.pointer (some ⟨w.heap.size, 0, none⟩)) rfl rfl rfl (fun _ => rfl) (fun _ => rfl) rfl rfl (fun G b w_ hon hg => index_sp (.tmp 1) 0 (by decide) rfl rfl (w.heap.size) (eval_of ((putSel_off rfl).trans rfl)))) ?_
    refine steps_cons (step_val c 1 1 _ 16 (.agg #[.int .u64 X]) rfl rfl rfl (fun _ => rfl) (fun _ => rfl) rfl rfl (fun G b w_ hon hg => load_num (.tmp 15) rfl (w.heap.size) 0 (eval_of (putSel_on (e := (0, 15, .pointer (some ⟨w.heap.size, 0, none⟩))) 0 rfl rfl (hon 0 rfl) rfl)) ((old_cell hg hb0 nofun 0).trans rfl))) ?_
    refine steps_cons (step_val c 2 2 _ 17 (.pointer (some ⟨w.heap.size, 1, none⟩)) rfl rfl rfl (fun _ => rfl) (fun _ => rfl) rfl rfl (fun G b w_ hon hg => index_sp (.tmp 1) 1 (by decide) rfl rfl (w.heap.size) (eval_of ((putSel_off rfl).trans rfl)))) ?_
    refine steps_cons (step_val c 3 3 _ 18 (.agg #[.int .u64 Y]) rfl rfl rfl (fun _ => rfl) (fun _ => rfl) rfl rfl (fun G b w_ hon hg => load_num (.tmp 17) rfl (w.heap.size) 1 (eval_of (putSel_on (e := (2, 17, .pointer (some ⟨w.heap.size, 1, none⟩))) 2 rfl rfl (hon 2 rfl) rfl)) ((old_cell hg hb0 nofun 1).trans rfl))) ?_
    refine steps_cons (step_val c 4 4 _ 19 (.pointer (some ⟨w.heap.size, 2, none⟩)) rfl rfl rfl (fun _ => rfl) (fun _ => rfl) rfl rfl (fun G b w_ hon hg => index_sp (.tmp 1) 2 (by decide) rfl rfl (w.heap.size) (eval_of ((putSel_off rfl).trans rfl)))) ?_
    refine steps_cons (step_val c 5 5 _ 20 (.agg #[.int .u64 Z]) rfl rfl rfl (fun _ => rfl) (fun _ => rfl) rfl rfl (fun G b w_ hon hg => load_num (.tmp 19) rfl (w.heap.size) 2 (eval_of (putSel_on (e := (4, 19, .pointer (some ⟨w.heap.size, 2, none⟩))) 4 rfl rfl (hon 4 rfl) rfl)) ((old_cell hg hb0 nofun 2).trans rfl))) ?_
    refine steps_cons (step_alloc c 6 6 9 _ 3 undef rfl rfl rfl (fun _ => rfl) (fun _ _ => rfl) (fun _ => rfl) rfl rfl rfl (alloc_num rfl)) ?_
    refine steps_cons (step_alloc c 7 7 10 _ 4 undef rfl rfl rfl (fun _ => rfl) (fun _ _ => rfl) (fun _ => rfl) rfl rfl rfl (alloc_num rfl)) ?_
    refine steps_cons (step_alloc c 8 8 11 _ 5 undef rfl rfl rfl (fun _ => rfl) (fun _ _ => rfl) (fun _ => rfl) rfl rfl rfl (alloc_num rfl)) ?_
    refine steps_cons (step_store c 9 6 _ (.int .u64 X) rfl rfl rfl (fun _ => rfl) rfl rfl 0 rfl rfl rfl (fun G b w_ hon hb => store_num (.tmp 3) (.tmp 16) rfl (G 6) (eval_of (putSel_on (e := (6, 3, .pointer (some ⟨G 6, 0, none⟩))) 6 rfl rfl (hon 6 rfl) rfl)) (eval_of (putSel_on (e := (1, 16, .agg #[.int .u64 X])) 1 rfl rfl (hon 1 rfl) rfl)) hb.choose_spec)) ?_
    refine steps_cons (step_store c 10 7 _ (.int .u64 Y) rfl rfl rfl (fun _ => rfl) rfl rfl 1 rfl rfl rfl (fun G b w_ hon hb => store_num (.tmp 4) (.tmp 18) rfl (G 7) (eval_of (putSel_on (e := (7, 4, .pointer (some ⟨G 7, 0, none⟩))) 7 rfl rfl (hon 7 rfl) rfl)) (eval_of (putSel_on (e := (3, 18, .agg #[.int .u64 Y])) 3 rfl rfl (hon 3 rfl) rfl)) hb.choose_spec)) ?_
    refine steps_cons (step_store c 11 8 _ (.int .u64 Z) rfl rfl rfl (fun _ => rfl) rfl rfl 2 rfl rfl rfl (fun G b w_ hon hb => store_num (.tmp 5) (.tmp 20) rfl (G 8) (eval_of (putSel_on (e := (8, 5, .pointer (some ⟨G 8, 0, none⟩))) 8 rfl rfl (hon 8 rfl) rfl)) (eval_of (putSel_on (e := (5, 20, .agg #[.int .u64 Z])) 5 rfl rfl (hon 5 rfl) rfl)) hb.choose_spec)) ?_
    exact steps_nil
  intro G V10 hgr hE hR
  obtain ⟨lg121_3, hg121_3⟩ := hE (6, 9, .int .u64 X) (by simp [c])
  dsimp only [c] at lg121_3 hg121_3
  obtain ⟨lg121_4, hg121_4⟩ := hE (7, 10, .int .u64 Y) (by simp [c])
  dsimp only [c] at lg121_4 hg121_4
  obtain ⟨lg121_5, hg121_5⟩ := hE (8, 11, .int .u64 Z) (by simp [c])
  dsimp only [c] at lg121_5 hg121_5
  replace hb0 := (hgr.block _ (lt_of_heap hb0) nofun).trans hb0
  replace hb1 := (hgr.block _ (lt_of_heap hb1) nofun).trans hb1
  replace hB := below_none hB hgr
  have ha_ : putAll' c.a0 (c.L G) = { tmps := #[.agg #[.int .u64 X, .int .u64 Y, .int .u64 Z], .pointer (some ⟨w.heap.size, 0, none⟩), .pointer (some ⟨w.heap.size + 1, 0, none⟩), .pointer (some ⟨G 6, 0, none⟩), .pointer (some ⟨G 7, 0, none⟩), .pointer (some ⟨G 8, 0, none⟩), undef, undef, undef, undef, undef, undef, undef, undef, undef, .pointer (some ⟨w.heap.size, 0, none⟩), .agg #[.int .u64 X], .pointer (some ⟨w.heap.size, 1, none⟩), .agg #[.int .u64 Y], .pointer (some ⟨w.heap.size, 2, none⟩), .agg #[.int .u64 Z], undef, undef, undef, undef, undef, undef, undef, undef, undef, undef, undef, undef, undef, undef, undef, undef, undef, undef, undef, undef, undef, undef, undef, undef, undef, undef, undef, undef, undef, undef, undef, undef, undef, undef, undef, undef, undef, undef, undef, undef, undef, undef, undef, undef, undef, undef, undef, undef, undef, undef, undef, undef, undef, undef, undef, undef, undef, undef, undef, undef, undef, undef, undef], defers := [] } := by kernel_rfl
  rw [ha_]
  clear ha_
  generalize G 6 = g121_3 at *
  have ng121_3 : some g121_3 ≠ some (w.heap.size + 1) := by intro e_; injection e_; omega
  generalize G 7 = g121_4 at *
  have ng121_4 : some g121_4 ≠ some (w.heap.size + 1) := by intro e_; injection e_; omega
  generalize G 8 = g121_5 at *
  have ng121_5 : some g121_5 ≠ some (w.heap.size + 1) := by intro e_; injection e_; omega
  clear c hE hR hgr hr_ eW10
  refine hK _ _ ?_
  clear hK K
  have hbr_ := hb1
  have cr0 : V10.cell? ⟨w.heap.size + 1, 0, none⟩ = some (.int .u64 0) := (blk_cell hb1 0).trans rfl
  have fr0 : V10.frozen? ⟨w.heap.size + 1, 0, none⟩ = false := frozen_of_row _ _ 0 _ _ hbr_
  have cr1 : V10.cell? ⟨w.heap.size + 1, 1, none⟩ = some (.int .u64 0) := (blk_cell hb1 1).trans rfl
  have fr1 : V10.frozen? ⟨w.heap.size + 1, 1, none⟩ = false := frozen_of_row _ _ 1 _ _ hbr_
  have cr2 : V10.cell? ⟨w.heap.size + 1, 2, none⟩ = some (.int .u64 0) := (blk_cell hb1 2).trans rfl
  have fr2 : V10.frozen? ⟨w.heap.size + 1, 2, none⟩ = false := frozen_of_row _ _ 2 _ _ hbr_
  replace hbr_ := Aside0.mk hbr_
  have HB_ := Aside0.mk hB
  have c4 : V10.cell? ⟨g121_4, 0, none⟩ = some (.int .u64 Y) := (blk_cell hg121_4 0).trans rfl
  have c5 : V10.cell? ⟨g121_5, 0, none⟩ = some (.int .u64 Z) := (blk_cell hg121_5 0).trans rfl
  clear hb0 hb1 hg121_3 hg121_4 hg121_5 hB
  go_wp2
  have hB := HB_.out
  have hbr_ := hbr_.out
  refine bodyPost_ret (results_cell_row rfl _ _ (w.heap.size + 1) 98 #[.int .u64 1, .int .u64 1, .int .u64 0] (0, 0) _ rfl (set3 hbr_) Tryd.underlying98 rfl (by kernel_rfl)) rfl ⟨rfl, ((hB.setCell (by first | (simp; done) | (simp; omega)) _).setCell (by first | (simp; done) | (simp; omega)) _).setCell (by first | (simp; done) | (simp; omega)) _⟩
set_option maxRecDepth 100000 in
set_option maxHeartbeats 8000000 in
theorem double_z {X Y Z : Int} (hX : In X) (hY : In Y) (hZ : In Z) (hy : Y ≠ 0) (hz : Z = 0) (w : World) : Calls Tryd.prog 121 #[.agg #[.int .u64 X, .int .u64 Y, .int .u64 Z]] w fun e w' => e = .returned (.agg #[.int .u64 (1), .int .u64 (1), .int .u64 (0)]) ∧ Below w.heap.size w w' := by
  have yb : (Y == 0) = false := by simpa using hy
  have zb : (Z == 0) = true := by simpa using hz
  clear hy hz
  go_enter Tryd.func121, Tryd.ntmps121
  refine wp_seq_k fun K hK => ?_
  replace hK := Aside0.mk hK
  go_wp2
  refine hK.out _ _ ?_
  clear hK K
  have hb0 : ((w.alloc (.cells #[.int .u64 X, .int .u64 Y, .int .u64 Z] 98)).alloc (.cells #[.int .u64 0, .int .u64 0, .int .u64 0] 98)).heap[w.heap.size]? = some (.cells #[.int .u64 X, .int .u64 Y, .int .u64 Z] 98 (0, 0)) := new2_0 _ _ _
  have hb1 : ((w.alloc (.cells #[.int .u64 X, .int .u64 Y, .int .u64 Z] 98)).alloc (.cells #[.int .u64 0, .int .u64 0, .int .u64 0] 98)).heap[w.heap.size + 1]? = some (.cells #[.int .u64 0, .int .u64 0, .int .u64 0] 98 (0, 0)) := new2_1 _ _ _
  have n0 : some (w.heap.size) ≠ some (w.heap.size + 1) := by intro e_; injection e_; omega
  have hB : Below w.heap.size w ((w.alloc (.cells #[.int .u64 X, .int .u64 Y, .int .u64 Z] 98)).alloc (.cells #[.int .u64 0, .int .u64 0, .int .u64 0] 98)) := newB2 _ _ _
  generalize ((w.alloc (.cells #[.int .u64 X, .int .u64 Y, .int .u64 Z] 98)).alloc (.cells #[.int .u64 0, .int .u64 0, .int .u64 0] 98)) = V0 at *
  refine wp_seq_k fun K hK => ?_
  obtain ⟨W11, eW11⟩ : ∃ W_, W_ = V0.drew := ⟨_, rfl⟩
  replace hb0 := (show W11.heap[w.heap.size]? = V0.heap[w.heap.size]? by rw [eW11]; rfl).trans hb0
  replace hb1 := (show W11.heap[w.heap.size + 1]? = V0.heap[w.heap.size + 1]? by rw [eW11]; rfl).trans hb1
  replace hB : Below w.heap.size w W11 := by rw [eW11]; exact below_drew' hB
  have hr_ := lt_of_heap hb1
  let c : Cfg := ⟨{ tmps := #[.agg #[.int .u64 X, .int .u64 Y, .int .u64 Z], .pointer (some ⟨w.heap.size, 0, none⟩), .pointer (some ⟨w.heap.size + 1, 0, none⟩), undef, undef, undef, undef, undef, undef, undef, undef, undef, undef, undef, undef, undef, undef, undef, undef, undef, undef, undef, undef, undef, undef, undef, undef, undef, undef, undef, undef, undef, undef, undef, undef, undef, undef, undef, undef, undef, undef, undef, undef, undef, undef, undef, undef, undef, undef, undef, undef, undef, undef, undef, undef, undef, undef, undef, undef, undef, undef, undef, undef, undef, undef, undef, undef, undef, undef, undef, undef, undef, undef, undef, undef, undef, undef, undef, undef, undef, undef, undef, undef, undef], defers := [] }, W11, none, fun G => [(0, 15, .pointer (some ⟨w.heap.size, 0, none⟩)), (1, 16, .agg #[.int .u64 X]), (2, 17, .pointer (some ⟨w.heap.size, 1, none⟩)), (3, 18, .agg #[.int .u64 Y]), (4, 19, .pointer (some ⟨w.heap.size, 2, none⟩)), (5, 20, .agg #[.int .u64 Z]), (6, 3, .pointer (some ⟨G 6, 0, none⟩)), (7, 4, .pointer (some ⟨G 7, 0, none⟩)), (8, 5, .pointer (some ⟨G 8, 0, none⟩))], [(6, 9, .int .u64 X), (7, 10, .int .u64 Y), (8, 11, .int .u64 Z)], 85, []⟩
  refine drawn_region (IB c) (n := 12) rfl rfl tab121_1 bits121_1 (by kernel_rfl) (by kernel_rfl) (by rw [← eW11]; exact (start_IB c (by intro x hx; cases hx))) ?_ (end_IB c (by intro G e he; exact List.all_eq_true.1 (show ((c.L G).all fun e => (List.range 12).contains e.1) = true from rfl) e he) (by intro e he; have := List.all_eq_true.1 (show (c.E.all fun e => (List.range 12).contains e.1 && (List.range 12).contains e.2.1) = true from rfl) e he; simpa using this) (by intro x hx; exact List.all_eq_true.1 (show (c.R.all fun x => (List.range 12).contains x.1) = true from rfl) x hx) ?_)
  · show ∀ i ∈ [0, 1, 2, 3, 4, 5, 6, 7, 8, 9, 10, 11], StepAt _ _ _ _ _ (IB c) i
    refine steps_cons (step_val c 0 0 _ 15 (.pointer (some ⟨w.heap.size, 0, none⟩)) rfl rfl rfl (fun _ => rfl) (fun _ => rfl) rfl rfl (fun G b w_ hon hg => index_sp (.tmp 1) 0 (by decide) rfl rfl (w.heap.size) (eval_of ((putSel_off rfl).trans rfl)))) ?_
    refine steps_cons (step_val c 1 1 _ 16 (.agg #[.int .u64 X]) rfl rfl rfl (fun _ => rfl) (fun _ => rfl) rfl rfl (fun G b w_ hon hg => load_num (.tmp 15) rfl (w.heap.size) 0 (eval_of (putSel_on (e := (0, 15, .pointer (some ⟨w.heap.size, 0, none⟩))) 0 rfl rfl (hon 0 rfl) rfl)) ((old_cell hg hb0 nofun 0).trans rfl))) ?_
    refine steps_cons (step_val c 2 2 _ 17 (.pointer (some ⟨w.heap.size, 1, none⟩)) rfl rfl rfl (fun _ => rfl) (fun _ => rfl) rfl rfl (fun G b w_ hon hg => index_sp (.tmp 1) 1 (by decide) rfl rfl (w.heap.size) (eval_of ((putSel_off rfl).trans rfl)))) ?_
    refine steps_cons (step_val c 3 3 _ 18 (.agg #[.int .u64 Y]) rfl rfl rfl (fun _ => rfl) (fun _ => rfl) rfl rfl (fun G b w_ hon hg => load_num (.tmp 17) rfl (w.heap.size) 1 (eval_of (putSel_on (e := (2, 17, .pointer (some ⟨w.heap.size, 1, none⟩))) 2 rfl rfl (hon 2 rfl) rfl)) ((old_cell hg hb0 nofun 1).trans rfl))) ?_
    refine steps_cons (step_val c 4 4 _ 19 (.pointer (some ⟨w.heap.size, 2, none⟩)) rfl rfl rfl (fun _ => rfl) (fun _ => rfl) rfl rfl (fun G b w_ hon hg => index_sp (.tmp 1) 2 (by decide) rfl rfl (w.heap.size) (eval_of ((putSel_off rfl).trans rfl)))) ?_
    refine steps_cons (step_val c 5 5 _ 20 (.agg #[.int .u64 Z]) rfl rfl rfl (fun _ => rfl) (fun _ => rfl) rfl rfl (fun G b w_ hon hg => load_num (.tmp 19) rfl (w.heap.size) 2 (eval_of (putSel_on (e := (4, 19, .pointer (some ⟨w.heap.size, 2, none⟩))) 4 rfl rfl (hon 4 rfl) rfl)) ((old_cell hg hb0 nofun 2).trans rfl))) ?_
    refine steps_cons (step_alloc c 6 6 9 _ 3 undef rfl rfl rfl (fun _ => rfl) (fun _ _ => rfl) (fun _ => rfl) rfl rfl rfl (alloc_num rfl)) ?_
    refine steps_cons (step_alloc c 7 7 10 _ 4 undef rfl rfl rfl (fun _ => rfl) (fun _ _ => rfl) (fun _ => rfl) rfl rfl rfl (alloc_num rfl)) ?_
    refine steps_cons (step_alloc c 8 8 11 _ 5 undef rfl rfl rfl (fun _ => rfl) (fun _ _ => rfl) (fun _ => rfl) rfl rfl rfl (alloc_num rfl)) ?_
    refine steps_cons (step_store c 9 6 _ (.int .u64 X) rfl rfl rfl (fun _ => rfl) rfl rfl 0 rfl rfl rfl (fun G b w_ hon hb => store_num (.tmp 3) (.tmp 16) rfl (G 6) (eval_of (putSel_on (e := (6, 3, .pointer (some ⟨G 6, 0, none⟩))) 6 rfl rfl (hon 6 rfl) rfl)) (eval_of (putSel_on (e := (1, 16, .agg #[.int .u64 X])) 1 rfl rfl (hon 1 rfl) rfl)) hb.choose_spec)) ?_
    refine steps_cons (step_store c 10 7 _ (.int .u64 Y) rfl rfl rfl (fun _ => rfl) rfl rfl 1 rfl rfl rfl (fun G b w_ hon hb => store_num (.tmp 4) (.tmp 18) rfl (G 7) (eval_of (putSel_on (e := (7, 4, .pointer (some ⟨G 7, 0, none⟩))) 7 rfl rfl (hon 7 rfl) rfl)) (eval_of (putSel_on (e := (3, 18, .agg #[.int .u64 Y])) 3 rfl rfl (hon 3 rfl) rfl)) hb.choose_spec)) ?_
    refine steps_cons (step_store c 11 8 _ (.int .u64 Z) rfl rfl rfl (fun _ => rfl) rfl rfl 2 rfl rfl rfl (fun G b w_ hon hb => store_num (.tmp 5) (.tmp 20) rfl (G 8) (eval_of (putSel_on (e := (8, 5, .pointer (some ⟨G 8, 0, none⟩))) 8 rfl rfl (hon 8 rfl) rfl)) (eval_of (putSel_on (e := (5, 20, .agg #[.int .u64 Z])) 5 rfl rfl (hon 5 rfl) rfl)) hb.choose_spec)) ?_
    exact steps_nil
  intro G V11 hgr hE hR
  obtain ⟨lg121_3, hg121_3⟩ := hE (6, 9, .int .u64 X) (by simp [c])
  dsimp only [c] at lg121_3 hg121_3
  obtain ⟨lg121_4, hg121_4⟩ := hE (7, 10, .int .u64 Y) (by simp [c])
  dsimp only [c] at lg121_4 hg121_4
  obtain ⟨lg121_5, hg121_5⟩ := hE (8, 11, .int .u64 Z) (by simp [c])
  dsimp only [c] at lg121_5 hg121_5
  replace hb0 := (hgr.block _ (lt_of_heap hb0) nofun).trans hb0
  replace hb1 := (hgr.block _ (lt_of_heap hb1) nofun).trans hb1
  replace hB := below_none hB hgr
  have ha_ : putAll' c.a0 (c.L G) = { tmps := #[.agg #[.int .u64 X, .int .u64 Y, .int .u64 Z], .pointer (some ⟨w.heap.size, 0, none⟩), .pointer (some ⟨w.heap.size + 1, 0, none⟩), .pointer (some ⟨G 6, 0, none⟩), .pointer (some ⟨G 7, 0, none⟩), .pointer (some ⟨G 8, 0, none⟩), undef, undef, undef, undef, undef, undef, undef, undef, undef, .pointer (some ⟨w.heap.size, 0, none⟩), .agg #[.int .u64 X], .pointer (some ⟨w.heap.size, 1, none⟩), .agg #[.int .u64 Y], .pointer (some ⟨w.heap.size, 2, none⟩), .agg #[.int .u64 Z], undef, undef, undef, undef, undef, undef, undef, undef, undef, undef, undef, undef, undef, undef, undef, undef, undef, undef, undef, undef, undef, undef, undef, undef, undef, undef, undef, undef, undef, undef, undef, undef, undef, undef, undef, undef, undef, undef, undef, undef, undef, undef, undef, undef, undef, undef, undef, undef, undef, undef, undef, undef, undef, undef, undef, undef, undef, undef, undef, undef, undef, undef, undef], defers := [] } := by kernel_rfl
  rw [ha_]
  clear ha_
  generalize G 6 = g121_3 at *
  have ng121_3 : some g121_3 ≠ some (w.heap.size + 1) := by intro e_; injection e_; omega
  generalize G 7 = g121_4 at *
  have ng121_4 : some g121_4 ≠ some (w.heap.size + 1) := by intro e_; injection e_; omega
  generalize G 8 = g121_5 at *
  have ng121_5 : some g121_5 ≠ some (w.heap.size + 1) := by intro e_; injection e_; omega
  clear c hE hR hgr hr_ eW11
  refine hK _ _ ?_
  clear hK K
  have hbr_ := hb1
  have cr0 : V11.cell? ⟨w.heap.size + 1, 0, none⟩ = some (.int .u64 0) := (blk_cell hb1 0).trans rfl
  have fr0 : V11.frozen? ⟨w.heap.size + 1, 0, none⟩ = false := frozen_of_row _ _ 0 _ _ hbr_
  have cr1 : V11.cell? ⟨w.heap.size + 1, 1, none⟩ = some (.int .u64 0) := (blk_cell hb1 1).trans rfl
  have fr1 : V11.frozen? ⟨w.heap.size + 1, 1, none⟩ = false := frozen_of_row _ _ 1 _ _ hbr_
  have cr2 : V11.cell? ⟨w.heap.size + 1, 2, none⟩ = some (.int .u64 0) := (blk_cell hb1 2).trans rfl
  have fr2 : V11.frozen? ⟨w.heap.size + 1, 2, none⟩ = false := frozen_of_row _ _ 2 _ _ hbr_
  replace hbr_ := Aside0.mk hbr_
  have HB_ := Aside0.mk hB
  have c4 : V11.cell? ⟨g121_4, 0, none⟩ = some (.int .u64 Y) := (blk_cell hg121_4 0).trans rfl
  have c5 : V11.cell? ⟨g121_5, 0, none⟩ = some (.int .u64 Z) := (blk_cell hg121_5 0).trans rfl
  clear hb0 hb1 hg121_3 hg121_4 hg121_5 hB
  go_wp2
  have hB := HB_.out
  have hbr_ := hbr_.out
  refine bodyPost_ret (results_cell_row rfl _ _ (w.heap.size + 1) 98 #[.int .u64 1, .int .u64 1, .int .u64 0] (0, 0) _ rfl (set3 hbr_) Tryd.underlying98 rfl (by kernel_rfl)) rfl ⟨rfl, ((hB.setCell (by first | (simp; done) | (simp; omega)) _).setCell (by first | (simp; done) | (simp; omega)) _).setCell (by first | (simp; done) | (simp; omega)) _⟩
def impl_spatial_double.f (X Y Z : Int) : Option (Int × Int × Int) := if 0 ≤ X ∧ X < 2305843009213693951 ∧ 0 ≤ Y ∧ Y < 2305843009213693951 ∧ 0 ≤ Z ∧ Z < 2305843009213693951 then some (if Y = 0 ∨ Z = 0 then (1, 1, 0) else dblN X Y Z) else none
theorem impl_spatial_double.calls (X Y Z r1 r2 r3 : Int) (w : World) (h : impl_spatial_double.f X Y Z = some (r1, r2, r3)) : Calls Tryd.prog 121 #[.agg #[.int .u64 X, .int .u64 Y, .int .u64 Z]] w fun e w' => e = .returned (.agg #[.int .u64 (r1), .int .u64 (r2), .int .u64 (r3)]) ∧ Below w.heap.size w w' := by
  unfold impl_spatial_double.f at h
  split at h
  case isFalse => cases h
  rename_i hh
  obtain ⟨h1, h2, h3, h4, h5, h6⟩ := hh
  have e := Option.some.inj h
  by_cases hy : Y = 0
  · rw [if_pos (.inl hy)] at e
    obtain ⟨rfl, rfl, rfl⟩ : 1 = r1 ∧ 1 = r2 ∧ 0 = r3 := by simpa using e
    exact double_y ⟨h1, h2⟩ ⟨h3, h4⟩ ⟨h5, h6⟩ hy w
  · by_cases hz : Z = 0
    · rw [if_pos (.inr hz)] at e
      obtain ⟨rfl, rfl, rfl⟩ : 1 = r1 ∧ 1 = r2 ∧ 0 = r3 := by simpa using e
      exact double_z ⟨h1, h2⟩ ⟨h3, h4⟩ ⟨h5, h6⟩ hy hz w
    · rw [if_neg (fun h_ => h_.elim hy hz)] at e
      have := double_nz ⟨h1, h2⟩ ⟨h3, h4⟩ ⟨h5, h6⟩ hy hz w
      rw [e] at this
      exact this
theorem tab78_5 : rtab .any (opsOf Tryd.f78 5) = (rtab .any (opsOf Tryd.f78 5)) := rfl
theorem bits78_5 : waitsOk (rtab .any (opsOf Tryd.f78 5)).2 [0, 1, 0, 4, 15, 0, 32, 0, 128, 511, 0, 0, 4095, 8191] = true := by kernel_rfl
theorem tab78_6 : rtab .any (opsOf Tryd.f78 6) = (rtab .any (opsOf Tryd.f78 6)) := rfl
theorem bits78_6 : waitsOk (rtab .any (opsOf Tryd.f78 6)).2 [0, 1, 0, 7, 0, 16, 0, 127, 0, 0, 1023, 2047] = true := by kernel_rfl
theorem tab78_7 : rtab .any (opsOf Tryd.f78 7) = (rtab .any (opsOf Tryd.f78 7)) := rfl
theorem bits78_7 : waitsOk (rtab .any (opsOf Tryd.f78 7)).2 [0, 1, 0, 7, 0, 16, 63, 0, 128, 0, 1023, 0, 2048, 8191, 0, 0, 65535, 131071] = true := by kernel_rfl
theorem tab78_8 : rtab .any (opsOf Tryd.f78 8) = (rtab .any (opsOf Tryd.f78 8)) := rfl
theorem bits78_8 : waitsOk (rtab .any (opsOf Tryd.f78 8)).2 [0, 0, 3, 0, 0, 31, 0, 0, 255, 511] = true := by kernel_rfl
theorem tab78_16 : rtab .any (opsOf Tryd.f78 16) = (rtab .any (opsOf Tryd.f78 16)) := rfl
theorem bits78_16 : waitsOk (rtab .any (opsOf Tryd.f78 16)).2 [0, 0, 3, 0, 15, 0, 63, 0, 255, 0, 1023] = true := by kernel_rfl
theorem tab78_17 : rtab .any (opsOf Tryd.f78 17) = (rtab .any (opsOf Tryd.f78 17)) := rfl
theorem bits78_17 : waitsOk (rtab .any (opsOf Tryd.f78 17)).2 [0, 0, 0, 0, 12, 30, 0, 0, 254, 510, 0, 0, 2048, 8190, 0, 16384, 65534, 131071, 262143] = true := by kernel_rfl
set_option maxRecDepth 100000 in
set_option maxHeartbeats 8000000 in
theorem plus_a {X1 Y1 Z1 X2 Y2 Z2 : Int} (hX1 : In X1) (hY1 : In Y1) (hZ1 : In Z1) (hX2 : In X2) (hY2 : In Y2) (hZ2 : In Z2) (hz : Z1 = 0) (w : World) : Calls Tryd.prog 78 #[.agg #[.int .u64 X1, .int .u64 Y1, .int .u64 Z1], .agg #[.int .u64 X2, .int .u64 Y2, .int .u64 Z2]] w fun e w' => e = .returned (.agg #[.int .u64 (X2), .int .u64 (Y2), .int .u64 (Z2)]) ∧ Below w.heap.size w w' := by
  have z1 : (Z1 == 0) = true := by simpa using hz
  clear hz
  go_enter Tryd.func78, Tryd.ntmps78
  refine wp_seq_k fun K hK => ?_
  replace hK := Aside0.mk hK
  go_wp2
  refine hK.out _ _ ?_
  clear hK K
  have hb0 : (((w.alloc (.cells #[.int .u64 X1, .int .u64 Y1, .int .u64 Z1] 98)).alloc (.cells #[.int .u64 X2, .int .u64 Y2, .int .u64 Z2] 98)).alloc (.cells #[.int .u64 0, .int .u64 0, .int .u64 0] 98)).heap[w.heap.size]? = some (.cells #[.int .u64 X1, .int .u64 Y1, .int .u64 Z1] 98 (0, 0)) := new3_0 _ _ _ _
  have hb1 : (((w.alloc (.cells #[.int .u64 X1, .int .u64 Y1, .int .u64 Z1] 98)).alloc (.cells #[.int .u64 X2, .int .u64 Y2, .int .u64 Z2] 98)).alloc (.cells #[.int .u64 0, .int .u64 0, .int .u64 0] 98)).heap[w.heap.size + 1]? = some (.cells #[.int .u64 X2, .int .u64 Y2, .int .u64 Z2] 98 (0, 0)) := new3_1 _ _ _ _
  have hb2 : (((w.alloc (.cells #[.int .u64 X1, .int .u64 Y1, .int .u64 Z1] 98)).alloc (.cells #[.int .u64 X2, .int .u64 Y2, .int .u64 Z2] 98)).alloc (.cells #[.int .u64 0, .int .u64 0, .int .u64 0] 98)).heap[w.heap.size + 1 + 1]? = some (.cells #[.int .u64 0, .int .u64 0, .int .u64 0] 98 (0, 0)) := new3_2 _ _ _ _
  have n0 : some (w.heap.size) ≠ some (w.heap.size + 1 + 1) := by intro e_; injection e_; omega
  have n1 : some (w.heap.size + 1) ≠ some (w.heap.size + 1 + 1) := by intro e_; injection e_; omega
  have hB : Below w.heap.size w (((w.alloc (.cells #[.int .u64 X1, .int .u64 Y1, .int .u64 Z1] 98)).alloc (.cells #[.int .u64 X2, .int .u64 Y2, .int .u64 Z2] 98)).alloc (.cells #[.int .u64 0, .int .u64 0, .int .u64 0] 98)) := newB3 _ _ _ _
  generalize (((w.alloc (.cells #[.int .u64 X1, .int .u64 Y1, .int .u64 Z1] 98)).alloc (.cells #[.int .u64 X2, .int .u64 Y2, .int .u64 Z2] 98)).alloc (.cells #[.int .u64 0, .int .u64 0, .int .u64 0] 98)) = V0 at *
  have ca0 : V0.cell? ⟨w.heap.size, 0, none⟩ = some (.int .u64 X1) := (blk_cell hb0 0).trans rfl
  have ca1 : V0.cell? ⟨w.heap.size, 1, none⟩ = some (.int .u64 Y1) := (blk_cell hb0 1).trans rfl
  have ca2 : V0.cell? ⟨w.heap.size, 2, none⟩ = some (.int .u64 Z1) := (blk_cell hb0 2).trans rfl
  have cb0 : V0.cell? ⟨w.heap.size + 1, 0, none⟩ = some (.int .u64 X2) := (blk_cell hb1 0).trans rfl
  have cb1 : V0.cell? ⟨w.heap.size + 1, 1, none⟩ = some (.int .u64 Y2) := (blk_cell hb1 1).trans rfl
  have cb2 : V0.cell? ⟨w.heap.size + 1, 2, none⟩ = some (.int .u64 Z2) := (blk_cell hb1 2).trans rfl
  have hbr_ := hb2
  have cr0 : V0.cell? ⟨w.heap.size + 1 + 1, 0, none⟩ = some (.int .u64 0) := (blk_cell hb2 0).trans rfl
  have fr0 : V0.frozen? ⟨w.heap.size + 1 + 1, 0, none⟩ = false := frozen_of_row _ _ 0 _ _ hbr_
  have cr1 : V0.cell? ⟨w.heap.size + 1 + 1, 1, none⟩ = some (.int .u64 0) := (blk_cell hb2 1).trans rfl
  have fr1 : V0.frozen? ⟨w.heap.size + 1 + 1, 1, none⟩ = false := frozen_of_row _ _ 1 _ _ hbr_
  have cr2 : V0.cell? ⟨w.heap.size + 1 + 1, 2, none⟩ = some (.int .u64 0) := (blk_cell hb2 2).trans rfl
  have fr2 : V0.frozen? ⟨w.heap.size + 1 + 1, 2, none⟩ = false := frozen_of_row _ _ 2 _ _ hbr_
  replace hbr_ := Aside0.mk hbr_
  have HB_ := Aside0.mk hB
  clear hb0 hb1 hb2 hB
  go_wp2
  have hB := HB_.out
  have hbr_ := hbr_.out
  refine bodyPost_ret (results_cell_row rfl _ _ (w.heap.size + 1 + 1) 98 #[.int .u64 X2, .int .u64 Y2, .int .u64 Z2] (0, 0) _ rfl (set3 hbr_) Tryd.underlying98 rfl (by kernel_rfl)) rfl ⟨rfl, ((hB.setCell (by first | (simp; done) | (simp; omega)) _).setCell (by first | (simp; done) | (simp; omega)) _).setCell (by first | (simp; done) | (simp; omega)) _⟩
set_option maxRecDepth 100000 in
set_option maxHeartbeats 8000000 in
theorem plus_b {X1 Y1 Z1 X2 Y2 Z2 : Int} (hX1 : In X1) (hY1 : In Y1) (hZ1 : In Z1) (hX2 : In X2) (hY2 : In Y2) (hZ2 : In Z2) (hy : Z1 ≠ 0) (hz : Z2 = 0) (w : World) : Calls Tryd.prog 78 #[.agg #[.int .u64 X1, .int .u64 Y1, .int .u64 Z1], .agg #[.int .u64 X2, .int .u64 Y2, .int .u64 Z2]] w fun e w' => e = .returned (.agg #[.int .u64 (X1), .int .u64 (Y1), .int .u64 (Z1)]) ∧ Below w.heap.size w w' := by
  have z1 : (Z1 == 0) = false := by simpa using hy
  have z2 : (Z2 == 0) = true := by simpa using hz
  clear hz hy
  go_enter Tryd.func78, Tryd.ntmps78
  refine wp_seq_k fun K hK => ?_
  replace hK := Aside0.mk hK
  go_wp2
  refine hK.out _ _ ?_
  clear hK K
  have hb0 : (((w.alloc (.cells #[.int .u64 X1, .int .u64 Y1, .int .u64 Z1] 98)).alloc (.cells #[.int .u64 X2, .int .u64 Y2, .int .u64 Z2] 98)).alloc (.cells #[.int .u64 0, .int .u64 0, .int .u64 0] 98)).heap[w.heap.size]? = some (.cells #[.int .u64 X1, .int .u64 Y1, .int .u64 Z1] 98 (0, 0)) := new3_0 _ _ _ _
  have hb1 : (((w.alloc (.cells #[.int .u64 X1, .int .u64 Y1, .int .u64 Z1] 98)).alloc (.cells #[.int .u64 X2, .int .u64 Y2, .int .u64 Z2] 98)).alloc (.cells #[.int .u64 0, .int .u64 0, .int .u64 0] 98)).heap[w.heap.size + 1]? = some (.cells #[.int .u64 X2, .int .u64 Y2, .int .u64 Z2] 98 (0, 0)) := new3_1 _ _ _ _
  have hb2 : (((w.alloc (.cells #[.int .u64 X1, .int .u64 Y1, .int .u64 Z1] 98)).alloc (.cells #[.int .u64 X2, .int .u64 Y2, .int .u64 Z2] 98)).alloc (.cells #[.int .u64 0, .int .u64 0, .int .u64 0] 98)).heap[w.heap.size + 1 + 1]? = some (.cells #[.int .u64 0, .int .u64 0, .int .u64 0] 98 (0, 0)) := new3_2 _ _ _ _
  have n0 : some (w.heap.size) ≠ some (w.heap.size + 1 + 1) := by intro e_; injection e_; omega
  have n1 : some (w.heap.size + 1) ≠ some (w.heap.size + 1 + 1) := by intro e_; injection e_; omega
  have hB : Below w.heap.size w (((w.alloc (.cells #[.int .u64 X1, .int .u64 Y1, .int .u64 Z1] 98)).alloc (.cells #[.int .u64 X2, .int .u64 Y2, .int .u64 Z2] 98)).alloc (.cells #[.int .u64 0, .int .u64 0, .int .u64 0] 98)) := newB3 _ _ _ _
  generalize (((w.alloc (.cells #[.int .u64 X1, .int .u64 Y1, .int .u64 Z1] 98)).alloc (.cells #[.int .u64 X2, .int .u64 Y2, .int .u64 Z2] 98)).alloc (.cells #[.int .u64 0, .int .u64 0, .int .u64 0] 98)) = V0 at *
  have ca0 : V0.cell? ⟨w.heap.size, 0, none⟩ = some (.int .u64 X1) := (blk_cell hb0 0).trans rfl
  have ca1 : V0.cell? ⟨w.heap.size, 1, none⟩ = some (.int .u64 Y1) := (blk_cell hb0 1).trans rfl
  have ca2 : V0.cell? ⟨w.heap.size, 2, none⟩ = some (.int .u64 Z1) := (blk_cell hb0 2).trans rfl
  have cb0 : V0.cell? ⟨w.heap.size + 1, 0, none⟩ = some (.int .u64 X2) := (blk_cell hb1 0).trans rfl
  have cb1 : V0.cell? ⟨w.heap.size + 1, 1, none⟩ = some (.int .u64 Y2) := (blk_cell hb1 1).trans rfl
  have cb2 : V0.cell? ⟨w.heap.size + 1, 2, none⟩ = some (.int .u64 Z2) := (blk_cell hb1 2).trans rfl
  have hbr_ := hb2
  have cr0 : V0.cell? ⟨w.heap.size + 1 + 1, 0, none⟩ = some (.int .u64 0) := (blk_cell hb2 0).trans rfl
  have fr0 : V0.frozen? ⟨w.heap.size + 1 + 1, 0, none⟩ = false := frozen_of_row _ _ 0 _ _ hbr_
  have cr1 : V0.cell? ⟨w.heap.size + 1 + 1, 1, none⟩ = some (.int .u64 0) := (blk_cell hb2 1).trans rfl
  have fr1 : V0.frozen? ⟨w.heap.size + 1 + 1, 1, none⟩ = false := frozen_of_row _ _ 1 _ _ hbr_
  have cr2 : V0.cell? ⟨w.heap.size + 1 + 1, 2, none⟩ = some (.int .u64 0) := (blk_cell hb2 2).trans rfl
  have fr2 : V0.frozen? ⟨w.heap.size + 1 + 1, 2, none⟩ = false := frozen_of_row _ _ 2 _ _ hbr_
  replace hbr_ := Aside0.mk hbr_
  have HB_ := Aside0.mk hB
  clear hb0 hb1 hb2 hB
  go_wp2
  have hB := HB_.out
  have hbr_ := hbr_.out
  refine bodyPost_ret (results_cell_row rfl _ _ (w.heap.size + 1 + 1) 98 #[.int .u64 X1, .int .u64 Y1, .int .u64 Z1] (0, 0) _ rfl (set3 hbr_) Tryd.underlying98 rfl (by kernel_rfl)) rfl ⟨rfl, ((hB.setCell (by first | (simp; done) | (simp; omega)) _).setCell (by first | (simp; done) | (simp; omega)) _).setCell (by first | (simp; done) | (simp; omega)) _⟩
/-- The numbers h and r of two points. -/
def hN (X1 Z1 X2 Z2 : Int) : Int := mi (tm X2 (tm Z1 Z1)) (tm X1 (tm Z2 Z2))
def rN (Y1 Z1 Y2 Z2 : Int) : Int := mi (tm (tm Y2 (tm Z1 Z1)) Z1) (tm (tm Y1 (tm Z2 Z2)) Z2)
/-- The sum of two with unlike x, number by number. -/
def plsN (X1 Y1 Z1 X2 Y2 Z2 : Int) : Int × Int × Int :=
  let t78_33 := tm Z1 Z1
  let t78_38 := tm Z2 Z2
  let t78_42 := tm X1 t78_38
  let t78_46 := tm X2 t78_33
  let t78_50 := tm Y1 t78_38
  let t78_53 := tm t78_50 Z2
  let t78_57 := tm Y2 t78_33
  let t78_60 := tm t78_57 Z1
  let t78_63 := mi t78_46 t78_42
  let t78_66 := mi t78_60 t78_53
  let t78_81 := tm t78_63 t78_63
  let t78_84 := tm t78_81 t78_63
  let t78_87 := tm t78_42 t78_81
  let t78_90 := tm t78_66 t78_66
  let t78_92 := mi t78_90 t78_84
  let t78_94 := mi t78_92 t78_87
  let t78_96 := mi t78_94 t78_87
  let t78_101 := mi t78_87 t78_96
  let t78_102 := tm t78_66 t78_101
  let t78_105 := tm t78_53 t78_84
  let t78_106 := mi t78_102 t78_105
  let t78_110 := tm t78_63 Z1
  let t78_113 := tm t78_110 Z2
  (t78_96, t78_106, t78_113)
set_option maxRecDepth 100000 in
set_option maxHeartbeats 8000000 in
theorem plus_nz {X1 Y1 Z1 X2 Y2 Z2 : Int} (hX1 : In X1) (hY1 : In Y1) (hZ1 : In Z1) (hX2 : In X2) (hY2 : In Y2) (hZ2 : In Z2) (hz1 : Z1 ≠ 0) (hz2 : Z2 ≠ 0) {r1 r2 r3 : Int} (h : (if hN X1 Z1 X2 Z2 = 0 then if rN Y1 Z1 Y2 Z2 = 0 then impl_spatial_double.f X1 Y1 Z1 else some (1, 1, 0) else some (plsN X1 Y1 Z1 X2 Y2 Z2)) = some (r1, r2, r3)) (w : World) : Calls Tryd.prog 78 #[.agg #[.int .u64 X1, .int .u64 Y1, .int .u64 Z1], .agg #[.int .u64 X2, .int .u64 Y2, .int .u64 Z2]] w fun e w' => e = .returned (.agg #[.int .u64 (r1), .int .u64 (r2), .int .u64 (r3)]) ∧ Below w.heap.size w w' := by
  have z1 : (Z1 == 0) = false := by simpa using hz1
  have z2 : (Z2 == 0) = false := by simpa using hz2
  clear hz1 hz2
  replace h := Aside0.mk h
  go_enter Tryd.func78, Tryd.ntmps78
  refine wp_seq_k fun K hK => ?_
  replace hK := Aside0.mk hK
  go_wp2
  refine hK.out _ _ ?_
  clear hK K
  have hb0 : (((w.alloc (.cells #[.int .u64 X1, .int .u64 Y1, .int .u64 Z1] 98)).alloc (.cells #[.int .u64 X2, .int .u64 Y2, .int .u64 Z2] 98)).alloc (.cells #[.int .u64 0, .int .u64 0, .int .u64 0] 98)).heap[w.heap.size]? = some (.cells #[.int .u64 X1, .int .u64 Y1, .int .u64 Z1] 98 (0, 0)) := new3_0 _ _ _ _
  have hb1 : (((w.alloc (.cells #[.int .u64 X1, .int .u64 Y1, .int .u64 Z1] 98)).alloc (.cells #[.int .u64 X2, .int .u64 Y2, .int .u64 Z2] 98)).alloc (.cells #[.int .u64 0, .int .u64 0, .int .u64 0] 98)).heap[w.heap.size + 1]? = some (.cells #[.int .u64 X2, .int .u64 Y2, .int .u64 Z2] 98 (0, 0)) := new3_1 _ _ _ _
  have hb2 : (((w.alloc (.cells #[.int .u64 X1, .int .u64 Y1, .int .u64 Z1] 98)).alloc (.cells #[.int .u64 X2, .int .u64 Y2, .int .u64 Z2] 98)).alloc (.cells #[.int .u64 0, .int .u64 0, .int .u64 0] 98)).heap[w.heap.size + 1 + 1]? = some (.cells #[.int .u64 0, .int .u64 0, .int .u64 0] 98 (0, 0)) := new3_2 _ _ _ _
  have n0 : some (w.heap.size) ≠ some (w.heap.size + 1 + 1) := by intro e_; injection e_; omega
  have n1 : some (w.heap.size + 1) ≠ some (w.heap.size + 1 + 1) := by intro e_; injection e_; omega
  have hB : Below w.heap.size w (((w.alloc (.cells #[.int .u64 X1, .int .u64 Y1, .int .u64 Z1] 98)).alloc (.cells #[.int .u64 X2, .int .u64 Y2, .int .u64 Z2] 98)).alloc (.cells #[.int .u64 0, .int .u64 0, .int .u64 0] 98)) := newB3 _ _ _ _
  generalize (((w.alloc (.cells #[.int .u64 X1, .int .u64 Y1, .int .u64 Z1] 98)).alloc (.cells #[.int .u64 X2, .int .u64 Y2, .int .u64 Z2] 98)).alloc (.cells #[.int .u64 0, .int .u64 0, .int .u64 0] 98)) = V0 at *
  have c2 : V0.cell? ⟨w.heap.size, 2, none⟩ = some (.int .u64 Z1) := (blk_cell hb0 2).trans rfl
  have c3 : V0.cell? ⟨w.heap.size + 1, 2, none⟩ = some (.int .u64 Z2) := (blk_cell hb1 2).trans rfl
  refine wp_seq_k fun K hK => ?_
  replace hK := Aside0.mk hK
  go_wp2
  refine hK.out _ _ ?_
  clear hK K
  clear c2 c3 z1 z2
  refine wp_seq_k fun K hK => ?_
  obtain ⟨t78_33, et78_33⟩ : ∃ t, t = tm Z1 Z1 := ⟨_, rfl⟩
  have it78_33 : In t78_33 := by rw [et78_33]; exact in_tm _ _
  obtain ⟨t78_38, et78_38⟩ : ∃ t, t = tm Z2 Z2 := ⟨_, rfl⟩
  have it78_38 : In t78_38 := by rw [et78_38]; exact in_tm _ _
  obtain ⟨W12, eW12⟩ : ∃ W_, W_ = V0.drew := ⟨_, rfl⟩
  replace hb0 := (show W12.heap[w.heap.size]? = V0.heap[w.heap.size]? by rw [eW12]; rfl).trans hb0
  replace hb1 := (show W12.heap[w.heap.size + 1]? = V0.heap[w.heap.size + 1]? by rw [eW12]; rfl).trans hb1
  replace hb2 := (show W12.heap[w.heap.size + 1 + 1]? = V0.heap[w.heap.size + 1 + 1]? by rw [eW12]; rfl).trans hb2
  replace hB : Below w.heap.size w W12 := by rw [eW12]; exact below_drew' hB
  have hr_ := lt_of_heap hb2
  let c : Cfg := ⟨{ tmps := #[.agg #[.int .u64 X1, .int .u64 Y1, .int .u64 Z1], .agg #[.int .u64 X2, .int .u64 Y2, .int .u64 Z2], .pointer (some ⟨w.heap.size, 0, none⟩), .pointer (some ⟨w.heap.size + 1, 0, none⟩), .pointer (some ⟨w.heap.size + 1 + 1, 0, none⟩), undef, undef, undef, undef, undef, undef, undef, undef, undef, undef, undef, undef, .bool false, .pointer (some ⟨w.heap.size, 2, none⟩), .pointer (some ⟨w.heap.size, 2, none⟩), .int .u64 Z1, .bool false, undef, .bool false, .pointer (some ⟨w.heap.size + 1, 2, none⟩), .pointer (some ⟨w.heap.size + 1, 2, none⟩), .int .u64 Z2, .bool false, undef, undef, undef, undef, undef, undef, undef, undef, undef, undef, undef, undef, undef, undef, undef, undef, undef, undef, undef, undef, undef, undef, undef, undef, undef, undef, undef, undef, undef, undef, undef, undef, undef, undef, undef, undef, undef, undef, undef, undef, undef, undef, undef, undef, undef, undef, undef, undef, undef, undef, undef, undef, undef, undef, undef, undef, undef, undef, undef, undef, undef, undef, undef, undef, undef, undef, undef, undef, undef, undef, undef, undef, undef, undef, undef, undef, undef, undef, undef, undef, undef, undef, undef, undef, undef, undef, undef], defers := [] }, W12, none, fun G => [(0, 29, .pointer (some ⟨w.heap.size, 2, none⟩)), (1, 30, .agg #[.int .u64 Z1]), (2, 31, .pointer (some ⟨w.heap.size, 2, none⟩)), (3, 32, .agg #[.int .u64 Z1]), (4, 33, .agg #[.int .u64 t78_33]), (5, 34, .pointer (some ⟨w.heap.size + 1, 2, none⟩)), (6, 35, .agg #[.int .u64 Z2]), (7, 36, .pointer (some ⟨w.heap.size + 1, 2, none⟩)), (8, 37, .agg #[.int .u64 Z2]), (9, 38, .agg #[.int .u64 t78_38]), (10, 5, .pointer (some ⟨G 10, 0, none⟩)), (11, 6, .pointer (some ⟨G 11, 0, none⟩))], [(10, 12, .int .u64 t78_33), (11, 13, .int .u64 t78_38)], 85, []⟩
  refine drawn_region (IB c) (n := 14) rfl rfl tab78_5 bits78_5 (by kernel_rfl) (by kernel_rfl) (by rw [← eW12]; exact (start_IB c (by intro x hx; cases hx))) ?_ (end_IB c (by intro G e he; exact List.all_eq_true.1 (show ((c.L G).all fun e => (List.range 14).contains e.1) = true from rfl) e he) (by intro e he; have := List.all_eq_true.1 (show (c.E.all fun e => (List.range 14).contains e.1 && (List.range 14).contains e.2.1) = true from rfl) e he; simpa using this) (by intro x hx; exact List.all_eq_true.1 (show (c.R.all fun x => (List.range 14).contains x.1) = true from rfl) x hx) ?_)
  · show ∀ i ∈ [0, 1, 2, 3, 4, 5, 6, 7, 8, 9, 10, 11, 12, 13], StepAt _ _ _ _ _ (IB c) i
    refine steps_cons (step_val c 0 0 _ 29 (.pointer (some ⟨w.heap.size, 2, none⟩)) rfl rfl rfl (fun _ => rfl) (fun _ => rfl) rfl rfl (fun G b w_ hon hg => index_sp (.tmp 2) 2 (by decide) rfl rfl (w.heap.size) (eval_of ((putSel_off rfl).trans rfl)))) ?_
    refine steps_cons (step_val c 1 1 _ 30 (.agg #[.int .u64 Z1]) rfl rfl rfl (fun _ => rfl) (fun _ => rfl) rfl rfl (fun G b w_ hon hg => load_num (.tmp 29) rfl (w.heap.size) 2 (eval_of (putSel_on (e := (0, 29, .pointer (some ⟨w.heap.size, 2, none⟩))) 0 rfl rfl (hon 0 rfl) rfl)) ((old_cell hg hb0 nofun 2).trans rfl))) ?_
    refine steps_cons (step_val c 2 2 _ 31 (.pointer (some ⟨w.heap.size, 2, none⟩)) rfl rfl rfl (fun _ => rfl) (fun _ => rfl) rfl rfl (fun G b w_ hon hg => index_sp (.tmp 2) 2 (by decide) rfl rfl (w.heap.size) (eval_of ((putSel_off rfl).trans rfl)))) ?_
    refine steps_cons (step_val c 3 3 _ 32 (.agg #[.int .u64 Z1]) rfl rfl rfl (fun _ => rfl) (fun _ => rfl) rfl rfl (fun G b w_ hon hg => load_num (.tmp 31) rfl (w.heap.size) 2 (eval_of (putSel_on (e := (2, 31, .pointer (some ⟨w.heap.size, 2, none⟩))) 2 rfl rfl (hon 2 rfl) rfl)) ((old_cell hg hb0 nofun 2).trans rfl))) ?_
    refine steps_cons (step_call c 4 4 _ 33 (.agg #[.int .u64 t78_33]) rfl rfl rfl (fun _ => rfl) (fun _ => rfl) rfl rfl Tryd.func111 rfl rfl rfl #[.agg #[.int .u64 Z1], .agg #[.int .u64 Z1]] (fun G b hon => by rw [show (#[.tmp 30, .tmp 32] : Array Operand).map (putSel c.a0 b (c.L G)).eval = #[(putSel c.a0 b (c.L G)).eval (.tmp 30), (putSel c.a0 b (c.L G)).eval (.tmp 32)] from by simp only [List.map_toArray, List.map_cons, List.map_nil], show (putSel c.a0 b (c.L G)).eval (.tmp 30) = .agg #[.int .u64 Z1] from (eval_of (putSel_on (e := (1, 30, .agg #[.int .u64 Z1])) 1 rfl rfl (hon 1 rfl) rfl)), show (putSel c.a0 b (c.L G)).eval (.tmp 32) = .agg #[.int .u64 Z1] from (eval_of (putSel_on (e := (3, 32, .agg #[.int .u64 Z1])) 3 rfl rfl (hon 3 rfl) rfl))]) (fun w_ => by rw [et78_33]; exact times_c hZ1 hZ1 w_)) ?_
    refine steps_cons (step_val c 5 5 _ 34 (.pointer (some ⟨w.heap.size + 1, 2, none⟩)) rfl rfl rfl (fun _ => rfl) (fun _ => rfl) rfl rfl (fun G b w_ hon hg => index_sp (.tmp 3) 2 (by decide) rfl rfl (w.heap.size + 1) (eval_of ((putSel_off rfl).trans rfl)))) ?_
    refine steps_cons (step_val c 6 6 _ 35 (.agg #[.int .u64 Z2]) rfl rfl rfl (fun _ => rfl) (fun _ => rfl) rfl rfl (fun G b w_ hon hg => load_num (.tmp 34) rfl (w.heap.size + 1) 2 (eval_of (putSel_on (e := (5, 34, .pointer (some ⟨w.heap.size + 1, 2, none⟩))) 5 rfl rfl (hon 5 rfl) rfl)) ((old_cell hg hb1 nofun 2).trans rfl))) ?_
    refine steps_cons (step_val c 7 7 _ 36 (.pointer (some ⟨w.heap.size + 1, 2, none⟩)) rfl rfl rfl (fun _ => rfl) (fun _ => rfl) rfl rfl (fun G b w_ hon hg => index_sp (.tmp 3) 2 (by decide) rfl rfl (w.heap.size + 1) (eval_of ((putSel_off rfl).trans rfl)))) ?_
    refine steps_cons (step_val c 8 8 _ 37 (.agg #[.int .u64 Z2]) rfl rfl rfl (fun _ => rfl) (fun _ => rfl) rfl rfl (fun G b w_ hon hg => load_num (.tmp 36) rfl (w.heap.size + 1) 2 (eval_of (putSel_on (e := (7, 36, .pointer (some ⟨w.heap.size + 1, 2, none⟩))) 7 rfl rfl (hon 7 rfl) rfl)) ((old_cell hg hb1 nofun 2).trans rfl))) ?_
    refine steps_cons (step_call c 9 9 _ 38 (.agg #[.int .u64 t78_38]) rfl rfl rfl (fun _ => rfl) (fun _ => rfl) rfl rfl Tryd.func111 rfl rfl rfl #[.agg #[.int .u64 Z2], .agg #[.int .u64 Z2]] (fun G b hon => by rw [show (#[.tmp 35, .tmp 37] : Array Operand).map (putSel c.a0 b (c.L G)).eval = #[(putSel c.a0 b (c.L G)).eval (.tmp 35), (putSel c.a0 b (c.L G)).eval (.tmp 37)] from by simp only [List.map_toArray, List.map_cons, List.map_nil], show (putSel c.a0 b (c.L G)).eval (.tmp 35) = .agg #[.int .u64 Z2] from (eval_of (putSel_on (e := (6, 35, .agg #[.int .u64 Z2])) 6 rfl rfl (hon 6 rfl) rfl)), show (putSel c.a0 b (c.L G)).eval (.tmp 37) = .agg #[.int .u64 Z2] from (eval_of (putSel_on (e := (8, 37, .agg #[.int .u64 Z2])) 8 rfl rfl (hon 8 rfl) rfl))]) (fun w_ => by rw [et78_38]; exact times_c hZ2 hZ2 w_)) ?_
    refine steps_cons (step_alloc c 10 10 12 _ 5 undef rfl rfl rfl (fun _ => rfl) (fun _ _ => rfl) (fun _ => rfl) rfl rfl rfl (alloc_num rfl)) ?_
    refine steps_cons (step_alloc c 11 11 13 _ 6 undef rfl rfl rfl (fun _ => rfl) (fun _ _ => rfl) (fun _ => rfl) rfl rfl rfl (alloc_num rfl)) ?_
    refine steps_cons (step_store c 12 10 _ (.int .u64 t78_33) rfl rfl rfl (fun _ => rfl) rfl rfl 0 rfl rfl rfl (fun G b w_ hon hb => store_num (.tmp 5) (.tmp 33) rfl (G 10) (eval_of (putSel_on (e := (10, 5, .pointer (some ⟨G 10, 0, none⟩))) 10 rfl rfl (hon 10 rfl) rfl)) (eval_of (putSel_on (e := (4, 33, .agg #[.int .u64 t78_33])) 4 rfl rfl (hon 4 rfl) rfl)) hb.choose_spec)) ?_
    refine steps_cons (step_store c 13 11 _ (.int .u64 t78_38) rfl rfl rfl (fun _ => rfl) rfl rfl 1 rfl rfl rfl (fun G b w_ hon hb => store_num (.tmp 6) (.tmp 38) rfl (G 11) (eval_of (putSel_on (e := (11, 6, .pointer (some ⟨G 11, 0, none⟩))) 11 rfl rfl (hon 11 rfl) rfl)) (eval_of (putSel_on (e := (9, 38, .agg #[.int .u64 t78_38])) 9 rfl rfl (hon 9 rfl) rfl)) hb.choose_spec)) ?_
    exact steps_nil
  intro G V12 hgr hE hR
  obtain ⟨lg78_5, hg78_5⟩ := hE (10, 12, .int .u64 t78_33) (by simp [c])
  dsimp only [c] at lg78_5 hg78_5
  obtain ⟨lg78_6, hg78_6⟩ := hE (11, 13, .int .u64 t78_38) (by simp [c])
  dsimp only [c] at lg78_6 hg78_6
  replace hb0 := (hgr.block _ (lt_of_heap hb0) nofun).trans hb0
  replace hb1 := (hgr.block _ (lt_of_heap hb1) nofun).trans hb1
  replace hb2 := (hgr.block _ (lt_of_heap hb2) nofun).trans hb2
  replace hB := below_none hB hgr
  have ha_ : putAll' c.a0 (c.L G) = { tmps := #[.agg #[.int .u64 X1, .int .u64 Y1, .int .u64 Z1], .agg #[.int .u64 X2, .int .u64 Y2, .int .u64 Z2], .pointer (some ⟨w.heap.size, 0, none⟩), .pointer (some ⟨w.heap.size + 1, 0, none⟩), .pointer (some ⟨w.heap.size + 1 + 1, 0, none⟩), .pointer (some ⟨G 10, 0, none⟩), .pointer (some ⟨G 11, 0, none⟩), undef, undef, undef, undef, undef, undef, undef, undef, undef, undef, .bool false, .pointer (some ⟨w.heap.size, 2, none⟩), .pointer (some ⟨w.heap.size, 2, none⟩), .int .u64 Z1, .bool false, undef, .bool false, .pointer (some ⟨w.heap.size + 1, 2, none⟩), .pointer (some ⟨w.heap.size + 1, 2, none⟩), .int .u64 Z2, .bool false, undef, .pointer (some ⟨w.heap.size, 2, none⟩), .agg #[.int .u64 Z1], .pointer (some ⟨w.heap.size, 2, none⟩), .agg #[.int .u64 Z1], .agg #[.int .u64 t78_33], .pointer (some ⟨w.heap.size + 1, 2, none⟩), .agg #[.int .u64 Z2], .pointer (some ⟨w.heap.size + 1, 2, none⟩), .agg #[.int .u64 Z2], .agg #[.int .u64 t78_38], undef, undef, undef, undef, undef, undef, undef, undef, undef, undef, undef, undef, undef, undef, undef, undef, undef, undef, undef, undef, undef, undef, undef, undef, undef, undef, undef, undef, undef, undef, undef, undef, undef, undef, undef, undef, undef, undef, undef, undef, undef, undef, undef, undef, undef, undef, undef, undef, undef, undef, undef, undef, undef, undef, undef, undef, undef, undef, undef, undef, undef, undef, undef, undef, undef, undef, undef, undef, undef, undef, undef, undef, undef, undef, undef, undef], defers := [] } := by kernel_rfl
  rw [ha_]
  clear ha_
  generalize G 10 = g78_5 at *
  have ng78_5 : some g78_5 ≠ some (w.heap.size + 1 + 1) := by intro e_; injection e_; omega
  generalize G 11 = g78_6 at *
  have ng78_6 : some g78_6 ≠ some (w.heap.size + 1 + 1) := by intro e_; injection e_; omega
  clear c hE hR hgr hr_ eW12
  refine hK _ _ ?_
  clear hK K
  refine wp_seq_k fun K hK => ?_
  obtain ⟨t78_42, et78_42⟩ : ∃ t, t = tm X1 t78_38 := ⟨_, rfl⟩
  have it78_42 : In t78_42 := by rw [et78_42]; exact in_tm _ _
  obtain ⟨t78_46, et78_46⟩ : ∃ t, t = tm X2 t78_33 := ⟨_, rfl⟩
  have it78_46 : In t78_46 := by rw [et78_46]; exact in_tm _ _
  obtain ⟨W13, eW13⟩ : ∃ W_, W_ = V12.drew := ⟨_, rfl⟩
  replace hb0 := (show W13.heap[w.heap.size]? = V12.heap[w.heap.size]? by rw [eW13]; rfl).trans hb0
  replace hb1 := (show W13.heap[w.heap.size + 1]? = V12.heap[w.heap.size + 1]? by rw [eW13]; rfl).trans hb1
  replace hb2 := (show W13.heap[w.heap.size + 1 + 1]? = V12.heap[w.heap.size + 1 + 1]? by rw [eW13]; rfl).trans hb2
  replace hg78_5 := (show W13.heap[g78_5]? = V12.heap[g78_5]? by rw [eW13]; rfl).trans hg78_5
  replace hg78_6 := (show W13.heap[g78_6]? = V12.heap[g78_6]? by rw [eW13]; rfl).trans hg78_6
  replace hB : Below w.heap.size w W13 := by rw [eW13]; exact below_drew' hB
  have hr_ := lt_of_heap hb2
  let c : Cfg := ⟨{ tmps := #[.agg #[.int .u64 X1, .int .u64 Y1, .int .u64 Z1], .agg #[.int .u64 X2, .int .u64 Y2, .int .u64 Z2], .pointer (some ⟨w.heap.size, 0, none⟩), .pointer (some ⟨w.heap.size + 1, 0, none⟩), .pointer (some ⟨w.heap.size + 1 + 1, 0, none⟩), .pointer (some ⟨g78_5, 0, none⟩), .pointer (some ⟨g78_6, 0, none⟩), undef, undef, undef, undef, undef, undef, undef, undef, undef, undef, .bool false, .pointer (some ⟨w.heap.size, 2, none⟩), .pointer (some ⟨w.heap.size, 2, none⟩), .int .u64 Z1, .bool false, undef, .bool false, .pointer (some ⟨w.heap.size + 1, 2, none⟩), .pointer (some ⟨w.heap.size + 1, 2, none⟩), .int .u64 Z2, .bool false, undef, .pointer (some ⟨w.heap.size, 2, none⟩), .agg #[.int .u64 Z1], .pointer (some ⟨w.heap.size, 2, none⟩), .agg #[.int .u64 Z1], .agg #[.int .u64 t78_33], .pointer (some ⟨w.heap.size + 1, 2, none⟩), .agg #[.int .u64 Z2], .pointer (some ⟨w.heap.size + 1, 2, none⟩), .agg #[.int .u64 Z2], .agg #[.int .u64 t78_38], undef, undef, undef, undef, undef, undef, undef, undef, undef, undef, undef, undef, undef, undef, undef, undef, undef, undef, undef, undef, undef, undef, undef, undef, undef, undef, undef, undef, undef, undef, undef, undef, undef, undef, undef, undef, undef, undef, undef, undef, undef, undef, undef, undef, undef, undef, undef, undef, undef, undef, undef, undef, undef, undef, undef, undef, undef, undef, undef, undef, undef, undef, undef, undef, undef, undef, undef, undef, undef, undef, undef, undef, undef, undef, undef, undef], defers := [] }, W13, none, fun G => [(0, 39, .pointer (some ⟨w.heap.size, 0, none⟩)), (1, 40, .agg #[.int .u64 X1]), (2, 41, .agg #[.int .u64 t78_38]), (3, 42, .agg #[.int .u64 t78_42]), (4, 43, .pointer (some ⟨w.heap.size + 1, 0, none⟩)), (5, 44, .agg #[.int .u64 X2]), (6, 45, .agg #[.int .u64 t78_33]), (7, 46, .agg #[.int .u64 t78_46]), (8, 7, .pointer (some ⟨G 8, 0, none⟩)), (9, 8, .pointer (some ⟨G 9, 0, none⟩))], [(8, 10, .int .u64 t78_42), (9, 11, .int .u64 t78_46)], 85, []⟩
  refine drawn_region (IB c) (n := 12) rfl rfl tab78_6 bits78_6 (by kernel_rfl) (by kernel_rfl) (by rw [← eW13]; exact (start_IB c (by intro x hx; cases hx))) ?_ (end_IB c (by intro G e he; exact List.all_eq_true.1 (show ((c.L G).all fun e => (List.range 12).contains e.1) = true from rfl) e he) (by intro e he; have := List.all_eq_true.1 (show (c.E.all fun e => (List.range 12).contains e.1 && (List.range 12).contains e.2.1) = true from rfl) e he; simpa using this) (by intro x hx; exact List.all_eq_true.1 (show (c.R.all fun x => (List.range 12).contains x.1) = true from rfl) x hx) ?_)
  · show ∀ i ∈ [0, 1, 2, 3, 4, 5, 6, 7, 8, 9, 10, 11], StepAt _ _ _ _ _ (IB c) i
    refine steps_cons (step_val c 0 0 _ 39 (.pointer (some ⟨w.heap.size, 0, none⟩)) rfl rfl rfl (fun _ => rfl) (fun _ => rfl) rfl rfl (fun G b w_ hon hg => index_sp (.tmp 2) 0 (by decide) rfl rfl (w.heap.size) (eval_of ((putSel_off rfl).trans rfl)))) ?_
    refine steps_cons (step_val c 1 1 _ 40 (.agg #[.int .u64 X1]) rfl rfl rfl (fun _ => rfl) (fun _ => rfl) rfl rfl (fun G b w_ hon hg => load_num (.tmp 39) rfl (w.heap.size) 0 (eval_of (putSel_on (e := (0, 39, .pointer (some ⟨w.heap.size, 0, none⟩))) 0 rfl rfl (hon 0 rfl) rfl)) ((old_cell hg hb0 nofun 0).trans rfl))) ?_
    refine steps_cons (step_val c 2 2 _ 41 (.agg #[.int .u64 t78_38]) rfl rfl rfl (fun _ => rfl) (fun _ => rfl) rfl rfl (fun G b w_ hon hg => load_num (.tmp 6) rfl (g78_6) 0 (eval_of ((putSel_off rfl).trans rfl)) ((old_cell hg hg78_6 nofun 0).trans rfl))) ?_
    refine steps_cons (step_call c 3 3 _ 42 (.agg #[.int .u64 t78_42]) rfl rfl rfl (fun _ => rfl) (fun _ => rfl) rfl rfl Tryd.func111 rfl rfl rfl #[.agg #[.int .u64 X1], .agg #[.int .u64 t78_38]] (fun G b hon => by rw [show (#[.tmp 40, .tmp 41] : Array Operand).map (putSel c.a0 b (c.L G)).eval = #[(putSel c.a0 b (c.L G)).eval (.tmp 40), (putSel c.a0 b (c.L G)).eval (.tmp 41)] from by simp only [List.map_toArray, List.map_cons, List.map_nil], show (putSel c.a0 b (c.L G)).eval (.tmp 40) = .agg #[.int .u64 X1] from (eval_of (putSel_on (e := (1, 40, .agg #[.int .u64 X1])) 1 rfl rfl (hon 1 rfl) rfl)), show (putSel c.a0 b (c.L G)).eval (.tmp 41) = .agg #[.int .u64 t78_38] from (eval_of (putSel_on (e := (2, 41, .agg #[.int .u64 t78_38])) 2 rfl rfl (hon 2 rfl) rfl))]) (fun w_ => by rw [et78_42]; exact times_c hX1 it78_38 w_)) ?_
    refine steps_cons (step_val c 4 4 _ 43 (.pointer (some ⟨w.heap.size + 1, 0, none⟩)) rfl rfl rfl (fun _ => rfl) (fun _ => rfl) rfl rfl (fun G b w_ hon hg => index_sp (.tmp 3) 0 (by decide) rfl rfl (w.heap.size + 1) (eval_of ((putSel_off rfl).trans rfl)))) ?_
    refine steps_cons (step_val c 5 5 _ 44 (.agg #[.int .u64 X2]) rfl rfl rfl (fun _ => rfl) (fun _ => rfl) rfl rfl (fun G b w_ hon hg => load_num (.tmp 43) rfl (w.heap.size + 1) 0 (eval_of (putSel_on (e := (4, 43, .pointer (some ⟨w.heap.size + 1, 0, none⟩))) 4 rfl rfl (hon 4 rfl) rfl)) ((old_cell hg hb1 nofun 0).trans rfl))) ?_
    refine steps_cons (step_val c 6 6 _ 45 (.agg #[.int .u64 t78_33]) rfl rfl rfl (fun _ => rfl) (fun _ => rfl) rfl rfl (fun G b w_ hon hg => load_num (.tmp 5) rfl (g78_5) 0 (eval_of ((putSel_off rfl).trans rfl)) ((old_cell hg hg78_5 nofun 0).trans rfl))) ?_
    refine steps_cons (step_call c 7 7 _ 46 (.agg #[.int .u64 t78_46]) rfl rfl rfl (fun _ => rfl) (fun _ => rfl) rfl rfl Tryd.func111 rfl rfl rfl #[.agg #[.int .u64 X2], .agg #[.int .u64 t78_33]] (fun G b hon => by rw [show (#[.tmp 44, .tmp 45] : Array Operand).map (putSel c.a0 b (c.L G)).eval = #[(putSel c.a0 b (c.L G)).eval (.tmp 44), (putSel c.a0 b (c.L G)).eval (.tmp 45)] from by simp only [List.map_toArray, List.map_cons, List.map_nil], show (putSel c.a0 b (c.L G)).eval (.tmp 44) = .agg #[.int .u64 X2] from (eval_of (putSel_on (e := (5, 44, .agg #[.int .u64 X2])) 5 rfl rfl (hon 5 rfl) rfl)), show (putSel c.a0 b (c.L G)).eval (.tmp 45) = .agg #[.int .u64 t78_33] from (eval_of (putSel_on (e := (6, 45, .agg #[.int .u64 t78_33])) 6 rfl rfl (hon 6 rfl) rfl))]) (fun w_ => by rw [et78_46]; exact times_c hX2 it78_33 w_)) ?_
    refine steps_cons (step_alloc c 8 8 10 _ 7 undef rfl rfl rfl (fun _ => rfl) (fun _ _ => rfl) (fun _ => rfl) rfl rfl rfl (alloc_num rfl)) ?_
    refine steps_cons (step_alloc c 9 9 11 _ 8 undef rfl rfl rfl (fun _ => rfl) (fun _ _ => rfl) (fun _ => rfl) rfl rfl rfl (alloc_num rfl)) ?_
    refine steps_cons (step_store c 10 8 _ (.int .u64 t78_42) rfl rfl rfl (fun _ => rfl) rfl rfl 0 rfl rfl rfl (fun G b w_ hon hb => store_num (.tmp 7) (.tmp 42) rfl (G 8) (eval_of (putSel_on (e := (8, 7, .pointer (some ⟨G 8, 0, none⟩))) 8 rfl rfl (hon 8 rfl) rfl)) (eval_of (putSel_on (e := (3, 42, .agg #[.int .u64 t78_42])) 3 rfl rfl (hon 3 rfl) rfl)) hb.choose_spec)) ?_
    refine steps_cons (step_store c 11 9 _ (.int .u64 t78_46) rfl rfl rfl (fun _ => rfl) rfl rfl 1 rfl rfl rfl (fun G b w_ hon hb => store_num (.tmp 8) (.tmp 46) rfl (G 9) (eval_of (putSel_on (e := (9, 8, .pointer (some ⟨G 9, 0, none⟩))) 9 rfl rfl (hon 9 rfl) rfl)) (eval_of (putSel_on (e := (7, 46, .agg #[.int .u64 t78_46])) 7 rfl rfl (hon 7 rfl) rfl)) hb.choose_spec)) ?_
    exact steps_nil
  intro G V13 hgr hE hR
  obtain ⟨lg78_7, hg78_7⟩ := hE (8, 10, .int .u64 t78_42) (by simp [c])
  dsimp only [c] at lg78_7 hg78_7
  obtain ⟨lg78_8, hg78_8⟩ := hE (9, 11, .int .u64 t78_46) (by simp [c])
  dsimp only [c] at lg78_8 hg78_8
  replace hb0 := (hgr.block _ (lt_of_heap hb0) nofun).trans hb0
  replace hb1 := (hgr.block _ (lt_of_heap hb1) nofun).trans hb1
  replace hb2 := (hgr.block _ (lt_of_heap hb2) nofun).trans hb2
  replace hg78_5 := (hgr.block _ (lt_of_heap hg78_5) nofun).trans hg78_5
  replace hg78_6 := (hgr.block _ (lt_of_heap hg78_6) nofun).trans hg78_6
  replace hB := below_none hB hgr
  have ha_ : putAll' c.a0 (c.L G) = { tmps := #[.agg #[.int .u64 X1, .int .u64 Y1, .int .u64 Z1], .agg #[.int .u64 X2, .int .u64 Y2, .int .u64 Z2], .pointer (some ⟨w.heap.size, 0, none⟩), .pointer (some ⟨w.heap.size + 1, 0, none⟩), .pointer (some ⟨w.heap.size + 1 + 1, 0, none⟩), .pointer (some ⟨g78_5, 0, none⟩), .pointer (some ⟨g78_6, 0, none⟩), .pointer (some ⟨G 8, 0, none⟩), .pointer (some ⟨G 9, 0, none⟩), undef, undef, undef, undef, undef, undef, undef, undef, .bool false, .pointer (some ⟨w.heap.size, 2, none⟩), .pointer (some ⟨w.heap.size, 2, none⟩), .int .u64 Z1, .bool false, undef, .bool false, .pointer (some ⟨w.heap.size + 1, 2, none⟩), .pointer (some ⟨w.heap.size + 1, 2, none⟩), .int .u64 Z2, .bool false, undef, .pointer (some ⟨w.heap.size, 2, none⟩), .agg #[.int .u64 Z1], .pointer (some ⟨w.heap.size, 2, none⟩), .agg #[.int .u64 Z1], .agg #[.int .u64 t78_33], .pointer (some ⟨w.heap.size + 1, 2, none⟩), .agg #[.int .u64 Z2], .pointer (some ⟨w.heap.size + 1, 2, none⟩), .agg #[.int .u64 Z2], .agg #[.int .u64 t78_38], .pointer (some ⟨w.heap.size, 0, none⟩), .agg #[.int .u64 X1], .agg #[.int .u64 t78_38], .agg #[.int .u64 t78_42], .pointer (some ⟨w.heap.size + 1, 0, none⟩), .agg #[.int .u64 X2], .agg #[.int .u64 t78_33], .agg #[.int .u64 t78_46], undef, undef, undef, undef, undef, undef, undef, undef, undef, undef, undef, undef, undef, undef, undef, undef, undef, undef, undef, undef, undef, undef, undef, undef, undef, undef, undef, undef, undef, undef, undef, undef, undef, undef, undef, undef, undef, undef, undef, undef, undef, undef, undef, undef, undef, undef, undef, undef, undef, undef, undef, undef, undef, undef, undef, undef, undef, undef, undef, undef, undef, undef, undef, undef, undef, undef, undef, undef], defers := [] } := by kernel_rfl
  rw [ha_]
  clear ha_
  generalize G 8 = g78_7 at *
  have ng78_7 : some g78_7 ≠ some (w.heap.size + 1 + 1) := by intro e_; injection e_; omega
  generalize G 9 = g78_8 at *
  have ng78_8 : some g78_8 ≠ some (w.heap.size + 1 + 1) := by intro e_; injection e_; omega
  clear c hE hR hgr hr_ eW13
  refine hK _ _ ?_
  clear hK K
  refine wp_seq_k fun K hK => ?_
  obtain ⟨t78_50, et78_50⟩ : ∃ t, t = tm Y1 t78_38 := ⟨_, rfl⟩
  have it78_50 : In t78_50 := by rw [et78_50]; exact in_tm _ _
  obtain ⟨t78_53, et78_53⟩ : ∃ t, t = tm t78_50 Z2 := ⟨_, rfl⟩
  have it78_53 : In t78_53 := by rw [et78_53]; exact in_tm _ _
  obtain ⟨t78_57, et78_57⟩ : ∃ t, t = tm Y2 t78_33 := ⟨_, rfl⟩
  have it78_57 : In t78_57 := by rw [et78_57]; exact in_tm _ _
  obtain ⟨t78_60, et78_60⟩ : ∃ t, t = tm t78_57 Z1 := ⟨_, rfl⟩
  have it78_60 : In t78_60 := by rw [et78_60]; exact in_tm _ _
  obtain ⟨W14, eW14⟩ : ∃ W_, W_ = V13.drew := ⟨_, rfl⟩
  replace hb0 := (show W14.heap[w.heap.size]? = V13.heap[w.heap.size]? by rw [eW14]; rfl).trans hb0
  replace hb1 := (show W14.heap[w.heap.size + 1]? = V13.heap[w.heap.size + 1]? by rw [eW14]; rfl).trans hb1
  replace hb2 := (show W14.heap[w.heap.size + 1 + 1]? = V13.heap[w.heap.size + 1 + 1]? by rw [eW14]; rfl).trans hb2
  replace hg78_5 := (show W14.heap[g78_5]? = V13.heap[g78_5]? by rw [eW14]; rfl).trans hg78_5
  replace hg78_6 := (show W14.heap[g78_6]? = V13.heap[g78_6]? by rw [eW14]; rfl).trans hg78_6
  replace hg78_7 := (show W14.heap[g78_7]? = V13.heap[g78_7]? by rw [eW14]; rfl).trans hg78_7
  replace hg78_8 := (show W14.heap[g78_8]? = V13.heap[g78_8]? by rw [eW14]; rfl).trans hg78_8
  replace hB : Below w.heap.size w W14 := by rw [eW14]; exact below_drew' hB
  have hr_ := lt_of_heap hb2
  let c : Cfg := ⟨{ tmps := #[.agg #[.int .u64 X1, .int .u64 Y1, .int .u64 Z1], .agg #[.int .u64 X2, .int .u64 Y2, .int .u64 Z2], .pointer (some ⟨w.heap.size, 0, none⟩), .pointer (some ⟨w.heap.size + 1, 0, none⟩), .pointer (some ⟨w.heap.size + 1 + 1, 0, none⟩), .pointer (some ⟨g78_5, 0, none⟩), .pointer (some ⟨g78_6, 0, none⟩), .pointer (some ⟨g78_7, 0, none⟩), .pointer (some ⟨g78_8, 0, none⟩), undef, undef, undef, undef, undef, undef, undef, undef, .bool false, .pointer (some ⟨w.heap.size, 2, none⟩), .pointer (some ⟨w.heap.size, 2, none⟩), .int .u64 Z1, .bool false, undef, .bool false, .pointer (some ⟨w.heap.size + 1, 2, none⟩), .pointer (some ⟨w.heap.size + 1, 2, none⟩), .int .u64 Z2, .bool false, undef, .pointer (some ⟨w.heap.size, 2, none⟩), .agg #[.int .u64 Z1], .pointer (some ⟨w.heap.size, 2, none⟩), .agg #[.int .u64 Z1], .agg #[.int .u64 t78_33], .pointer (some ⟨w.heap.size + 1, 2, none⟩), .agg #[.int .u64 Z2], .pointer (some ⟨w.heap.size + 1, 2, none⟩), .agg #[.int .u64 Z2], .agg #[.int .u64 t78_38], .pointer (some ⟨w.heap.size, 0, none⟩), .agg #[.int .u64 X1], .agg #[.int .u64 t78_38], .agg #[.int .u64 t78_42], .pointer (some ⟨w.heap.size + 1, 0, none⟩), .agg #[.int .u64 X2], .agg #[.int .u64 t78_33], .agg #[.int .u64 t78_46], undef, undef, undef, undef, undef, undef, undef, undef, undef, undef, undef, undef, undef, undef, undef, undef, undef, undef, undef, undef, undef, undef, undef, undef, undef, undef, undef, undef, undef, undef, undef, undef, undef, undef, undef, undef, undef, undef, undef, undef, undef, undef, undef, undef, undef, undef, undef, undef, undef, undef, undef, undef, undef, undef, undef, undef, undef, undef, undef, undef, undef, undef, undef, undef, undef, undef, undef, undef], defers := [] }, W14, none, fun G => [(0, 47, .pointer (some ⟨w.heap.size, 1, none⟩)), (1, 48, .agg #[.int .u64 Y1]), (2, 49, .agg #[.int .u64 t78_38]), (3, 50, .agg #[.int .u64 t78_50]), (4, 51, .pointer (some ⟨w.heap.size + 1, 2, none⟩)), (5, 52, .agg #[.int .u64 Z2]), (6, 53, .agg #[.int .u64 t78_53]), (7, 54, .pointer (some ⟨w.heap.size + 1, 1, none⟩)), (8, 55, .agg #[.int .u64 Y2]), (9, 56, .agg #[.int .u64 t78_33]), (10, 57, .agg #[.int .u64 t78_57]), (11, 58, .pointer (some ⟨w.heap.size, 2, none⟩)), (12, 59, .agg #[.int .u64 Z1]), (13, 60, .agg #[.int .u64 t78_60]), (14, 9, .pointer (some ⟨G 14, 0, none⟩)), (15, 10, .pointer (some ⟨G 15, 0, none⟩))], [(14, 16, .int .u64 t78_53), (15, 17, .int .u64 t78_60)], 85, []⟩
  refine drawn_region (IB c) (n := 18) rfl rfl tab78_7 bits78_7 (by kernel_rfl) (by kernel_rfl) (by rw [← eW14]; exact (start_IB c (by intro x hx; cases hx))) ?_ (end_IB c (by intro G e he; exact List.all_eq_true.1 (show ((c.L G).all fun e => (List.range 18).contains e.1) = true from rfl) e he) (by intro e he; have := List.all_eq_true.1 (show (c.E.all fun e => (List.range 18).contains e.1 && (List.range 18).contains e.2.1) = true from rfl) e he; simpa using this) (by intro x hx; exact List.all_eq_true.1 (show (c.R.all fun x => (List.range 18).contains x.1) = true from rfl) x hx) ?_)
  · show ∀ i ∈ [0, 1, 2, 3, 4, 5, 6, 7, 8, 9, 10, 11, 12, 13, 14, 15, 16, 17], StepAt _ _ _ _ _ (IB c) i
    refine steps_cons (step_val c 0 0 _ 47 (.pointer (some ⟨w.heap.size, 1, none⟩)) rfl rfl rfl (fun _ => rfl) (fun _ => rfl) rfl rfl (fun G b w_ hon hg => index_sp (.tmp 2) 1 (by decide) rfl rfl (w.heap.size) (eval_of ((putSel_off rfl).trans rfl)))) ?_
    refine steps_cons (step_val c 1 1 _ 48 (.agg #[.int .u64 Y1]) rfl rfl rfl (fun _ => rfl) (fun _ => rfl) rfl rfl (fun G b w_ hon hg => load_num (.tmp 47) rfl (w.heap.size) 1 (eval_of (putSel_on (e := (0, 47, .pointer (some ⟨w.heap.size, 1, none⟩))) 0 rfl rfl (hon 0 rfl) rfl)) ((old_cell hg hb0 nofun 1).trans rfl))) ?_
    refine steps_cons (step_val c 2 2 _ 49 (.agg #[.int .u64 t78_38]) rfl rfl rfl (fun _ => rfl) (fun _ => rfl) rfl rfl (fun G b w_ hon hg => load_num (.tmp 6) rfl (g78_6) 0 (eval_of ((putSel_off rfl).trans rfl)) ((old_cell hg hg78_6 nofun 0).trans rfl))) ?_
    refine steps_cons (step_call c 3 3 _ 50 (.agg #[.int .u64 t78_50]) rfl rfl rfl (fun _ => rfl) (fun _ => rfl) rfl rfl Tryd.func111 rfl rfl rfl #[.agg #[.int .u64 Y1], .agg #[.int .u64 t78_38]] (fun G b hon => by rw [show (#[.tmp 48, .tmp 49] : Array Operand).map (putSel c.a0 b (c.L G)).eval = #[(putSel c.a0 b (c.L G)).eval (.tmp 48), (putSel c.a0 b (c.L G)).eval (.tmp 49)] from by simp only [List.map_toArray, List.map_cons, List.map_nil], show (putSel c.a0 b (c.L G)).eval (.tmp 48) = .agg #[.int .u64 Y1] from (eval_of (putSel_on (e := (1, 48, .agg #[.int .u64 Y1])) 1 rfl rfl (hon 1 rfl) rfl)), show (putSel c.a0 b (c.L G)).eval (.tmp 49) = .agg #[.int .u64 t78_38] from (eval_of (putSel_on (e := (2, 49, .agg #[.int .u64 t78_38])) 2 rfl rfl (hon 2 rfl) rfl))]) (fun w_ => by rw [et78_50]; exact times_c hY1 it78_38 w_)) ?_
    refine steps_cons (step_val c 4 4 _ 51 (.pointer (some ⟨w.heap.size + 1, 2, none⟩)) rfl rfl rfl (fun _ => rfl) (fun _ => rfl) rfl rfl (fun G b w_ hon hg => index_sp (.tmp 3) 2 (by decide) rfl rfl (w.heap.size + 1) (eval_of ((putSel_off rfl).trans rfl)))) ?_
    refine steps_cons (step_val c 5 5 _ 52 (.agg #[.int .u64 Z2]) rfl rfl rfl (fun _ => rfl) (fun _ => rfl) rfl rfl (fun G b w_ hon hg => load_num (.tmp 51) rfl (w.heap.size + 1) 2 (eval_of (putSel_on (e := (4, 51, .pointer (some ⟨w.heap.size + 1, 2, none⟩))) 4 rfl rfl (hon 4 rfl) rfl)) ((old_cell hg hb1 nofun 2).trans rfl))) ?_
    refine steps_cons (step_call c 6 6 _ 53 (.agg #[.int .u64 t78_53]) rfl rfl rfl (fun _ => rfl) (fun _ => rfl) rfl rfl Tryd.func111 rfl rfl rfl #[.agg #[.int .u64 t78_50], .agg #[.int .u64 Z2]] (fun G b hon => by rw [show (#[.tmp 50, .tmp 52] : Array Operand).map (putSel c.a0 b (c.L G)).eval = #[(putSel c.a0 b (c.L G)).eval (.tmp 50), (putSel c.a0 b (c.L G)).eval (.tmp 52)] from by simp only [List.map_toArray, List.map_cons, List.map_nil], show (putSel c.a0 b (c.L G)).eval (.tmp 50) = .agg #[.int .u64 t78_50] from (eval_of (putSel_on (e := (3, 50, .agg #[.int .u64 t78_50])) 3 rfl rfl (hon 3 rfl) rfl)), show (putSel c.a0 b (c.L G)).eval (.tmp 52) = .agg #[.int .u64 Z2] from (eval_of (putSel_on (e := (5, 52, .agg #[.int .u64 Z2])) 5 rfl rfl (hon 5 rfl) rfl))]) (fun w_ => by rw [et78_53]; exact times_c it78_50 hZ2 w_)) ?_
    refine steps_cons (step_val c 7 7 _ 54 (.pointer (some ⟨w.heap.size + 1, 1, none⟩)) rfl rfl rfl (fun _ => rfl) (fun _ => rfl) rfl rfl (fun G b w_ hon hg => index_sp (.tmp 3) 1 (by decide) rfl rfl (w.heap.size + 1) (eval_of ((putSel_off rfl).trans rfl)))) ?_
    refine steps_cons (step_val c 8 8 _ 55 (.agg #[.int .u64 Y2]) rfl rfl rfl (fun _ => rfl) (fun _ => rfl) rfl rfl (fun G b w_ hon hg => load_num (.tmp 54) rfl (w.heap.size + 1) 1 (eval_of (putSel_on (e := (7, 54, .pointer (some ⟨w.heap.size + 1, 1, none⟩))) 7 rfl rfl (hon 7 rfl) rfl)) ((old_cell hg hb1 nofun 1).trans rfl))) ?_
    refine steps_cons (step_val c 9 9 _ 56 (.agg #[.int .u64 t78_33]) rfl rfl rfl (fun _ => rfl) (fun _ => rfl) rfl rfl (fun G b w_ hon hg => load_num (.tmp 5) rfl (g78_5) 0 (eval_of ((putSel_off rfl).trans rfl)) ((old_cell hg hg78_5 nofun 0).trans rfl))) ?_
    refine steps_cons (step_call c 10 10 _ 57 (.agg #[.int .u64 t78_57]) rfl rfl rfl (fun _ => rfl) (fun _ => rfl) rfl rfl Tryd.func111 rfl rfl rfl #[.agg #[.int .u64 Y2], .agg #[.int .u64 t78_33]] (fun G b hon => by rw [show (#[.tmp 55, .tmp 56] : Array Operand).map (putSel c.a0 b (c.L G)).eval = #[(putSel c.a0 b (c.L G)).eval (.tmp 55), (putSel c.a0 b (c.L G)).eval (.tmp 56)] from by simp only [List.map_toArray, List.map_cons, List.map_nil], show (putSel c.a0 b (c.L G)).eval (.tmp 55) = .agg #[.int .u64 Y2] from (eval_of (putSel_on (e := (8, 55, .agg #[.int .u64 Y2])) 8 rfl rfl (hon 8 rfl) rfl)), show (putSel c.a0 b (c.L G)).eval (.tmp 56) = .agg #[.int .u64 t78_33] from (eval_of (putSel_on (e := (9, 56, .agg #[.int .u64 t78_33])) 9 rfl rfl (hon 9 rfl) rfl))]) (fun w_ => by rw [et78_57]; exact times_c hY2 it78_33 w_)) ?_
    refine steps_cons (step_val c 11 11 _ 58 (.pointer (some ⟨w.heap.size, 2, none⟩)) rfl rfl rfl (fun _ => rfl) (fun _ => rfl) rfl rfl (fun G b w_ hon hg => index_sp (.tmp 2) 2 (by decide) rfl rfl (w.heap.size) (eval_of ((putSel_off rfl).trans rfl)))) ?_
    refine steps_cons (step_val c 12 12 _ 59 (.agg #[.int .u64 Z1]) rfl rfl rfl (fun _ => rfl) (fun _ => rfl) rfl rfl (fun G b w_ hon hg => load_num (.tmp 58) rfl (w.heap.size) 2 (eval_of (putSel_on (e := (11, 58, .pointer (some ⟨w.heap.size, 2, none⟩))) 11 rfl rfl (hon 11 rfl) rfl)) ((old_cell hg hb0 nofun 2).trans rfl))) ?_
    refine steps_cons (step_call c 13 13 _ 60 (.agg #[.int .u64 t78_60]) rfl rfl rfl (fun _ => rfl) (fun _ => rfl) rfl rfl Tryd.func111 rfl rfl rfl #[.agg #[.int .u64 t78_57], .agg #[.int .u64 Z1]] (fun G b hon => by rw [show (#[.tmp 57, .tmp 59] : Array Operand).map (putSel c.a0 b (c.L G)).eval = #[(putSel c.a0 b (c.L G)).eval (.tmp 57), (putSel c.a0 b (c.L G)).eval (.tmp 59)] from by simp only [List.map_toArray, List.map_cons, List.map_nil], show (putSel c.a0 b (c.L G)).eval (.tmp 57) = .agg #[.int .u64 t78_57] from (eval_of (putSel_on (e := (10, 57, .agg #[.int .u64 t78_57])) 10 rfl rfl (hon 10 rfl) rfl)), show (putSel c.a0 b (c.L G)).eval (.tmp 59) = .agg #[.int .u64 Z1] from (eval_of (putSel_on (e := (12, 59, .agg #[.int .u64 Z1])) 12 rfl rfl (hon 12 rfl) rfl))]) (fun w_ => by rw [et78_60]; exact times_c it78_57 hZ1 w_)) ?_
    refine steps_cons (step_alloc c 14 14 16 _ 9 undef rfl rfl rfl (fun _ => rfl) (fun _ _ => rfl) (fun _ => rfl) rfl rfl rfl (alloc_num rfl)) ?_
    refine steps_cons (step_alloc c 15 15 17 _ 10 undef rfl rfl rfl (fun _ => rfl) (fun _ _ => rfl) (fun _ => rfl) rfl rfl rfl (alloc_num rfl)) ?_
    refine steps_cons (step_store c 16 14 _ (.int .u64 t78_53) rfl rfl rfl (fun _ => rfl) rfl rfl 0 rfl rfl rfl (fun G b w_ hon hb => store_num (.tmp 9) (.tmp 53) rfl (G 14) (eval_of (putSel_on (e := (14, 9, .pointer (some ⟨G 14, 0, none⟩))) 14 rfl rfl (hon 14 rfl) rfl)) (eval_of (putSel_on (e := (6, 53, .agg #[.int .u64 t78_53])) 6 rfl rfl (hon 6 rfl) rfl)) hb.choose_spec)) ?_
    refine steps_cons (step_store c 17 15 _ (.int .u64 t78_60) rfl rfl rfl (fun _ => rfl) rfl rfl 1 rfl rfl rfl (fun G b w_ hon hb => store_num (.tmp 10) (.tmp 60) rfl (G 15) (eval_of (putSel_on (e := (15, 10, .pointer (some ⟨G 15, 0, none⟩))) 15 rfl rfl (hon 15 rfl) rfl)) (eval_of (putSel_on (e := (13, 60, .agg #[.int .u64 t78_60])) 13 rfl rfl (hon 13 rfl) rfl)) hb.choose_spec)) ?_
    exact steps_nil
  intro G V14 hgr hE hR
  obtain ⟨lg78_9, hg78_9⟩ := hE (14, 16, .int .u64 t78_53) (by simp [c])
  dsimp only [c] at lg78_9 hg78_9
  obtain ⟨lg78_10, hg78_10⟩ := hE (15, 17, .int .u64 t78_60) (by simp [c])
  dsimp only [c] at lg78_10 hg78_10
  replace hb0 := (hgr.block _ (lt_of_heap hb0) nofun).trans hb0
  replace hb1 := (hgr.block _ (lt_of_heap hb1) nofun).trans hb1
  replace hb2 := (hgr.block _ (lt_of_heap hb2) nofun).trans hb2
  replace hg78_5 := (hgr.block _ (lt_of_heap hg78_5) nofun).trans hg78_5
  replace hg78_6 := (hgr.block _ (lt_of_heap hg78_6) nofun).trans hg78_6
  replace hg78_7 := (hgr.block _ (lt_of_heap hg78_7) nofun).trans hg78_7
  replace hg78_8 := (hgr.block _ (lt_of_heap hg78_8) nofun).trans hg78_8
  replace hB := below_none hB hgr
  have ha_ : putAll' c.a0 (c.L G) = { tmps := #[.agg #[.int .u64 X1, .int .u64 Y1, .int .u64 Z1], .agg #[.int .u64 X2, .int .u64 Y2, .int .u64 Z2], .pointer (some ⟨w.heap.size, 0, none⟩), .pointer (some ⟨w.heap.size + 1, 0, none⟩), .pointer (some ⟨w.heap.size + 1 + 1, 0, none⟩), .pointer (some ⟨g78_5, 0, none⟩), .pointer (some ⟨g78_6, 0, none⟩), .pointer (some ⟨g78_7, 0, none⟩), .pointer (some ⟨g78_8, 0, none⟩), .pointer (some ⟨G 14, 0, none⟩), .pointer (some ⟨G 15, 0, none⟩), undef, undef, undef, undef, undef, undef, .bool false, .pointer (some ⟨w.heap.size, 2, none⟩), .pointer (some ⟨w.heap.size, 2, none⟩), .int .u64 Z1, .bool false, undef, .bool false, .pointer (some ⟨w.heap.size + 1, 2, none⟩), .pointer (some ⟨w.heap.size + 1, 2, none⟩), .int .u64 Z2, .bool false, undef, .pointer (some ⟨w.heap.size, 2, none⟩), .agg #[.int .u64 Z1], .pointer (some ⟨w.heap.size, 2, none⟩), .agg #[.int .u64 Z1], .agg #[.int .u64 t78_33], .pointer (some ⟨w.heap.size + 1, 2, none⟩), .agg #[.int .u64 Z2], .pointer (some ⟨w.heap.size + 1, 2, none⟩), .agg #[.int .u64 Z2], .agg #[.int .u64 t78_38], .pointer (some ⟨w.heap.size, 0, none⟩), .agg #[.int .u64 X1], .agg #[.int .u64 t78_38], .agg #[.int .u64 t78_42], .pointer (some ⟨w.heap.size + 1, 0, none⟩), .agg #[.int .u64 X2], .agg #[.int .u64 t78_33], .agg #[.int .u64 t78_46], .pointer (some ⟨w.heap.size, 1, none⟩), .agg #[.int .u64 Y1], .agg #[.int .u64 t78_38], .agg #[.int .u64 t78_50], .pointer (some ⟨w.heap.size + 1, 2, none⟩), .agg #[.int .u64 Z2], .agg #[.int .u64 t78_53], .pointer (some ⟨w.heap.size + 1, 1, none⟩), .agg #[.int .u64 Y2], .agg #[.int .u64 t78_33], .agg #[.int .u64 t78_57], .pointer (some ⟨w.heap.size, 2, none⟩), .agg #[.int .u64 Z1], .agg #[.int .u64 t78_60], undef, undef, undef, undef, undef, undef, undef, undef, undef, undef, undef, undef, undef, undef, undef, undef, undef, undef, undef, undef, undef, undef, undef, undef, undef, undef, undef, undef, undef, undef, undef, undef, undef, undef, undef, undef, undef, undef, undef, undef, undef, undef, undef, undef, undef, undef, undef, undef, undef, undef, undef, undef, undef, undef], defers := [] } := by kernel_rfl
  rw [ha_]
  clear ha_
  generalize G 14 = g78_9 at *
  have ng78_9 : some g78_9 ≠ some (w.heap.size + 1 + 1) := by intro e_; injection e_; omega
  generalize G 15 = g78_10 at *
  have ng78_10 : some g78_10 ≠ some (w.heap.size + 1 + 1) := by intro e_; injection e_; omega
  clear c hE hR hgr hr_ eW14
  refine hK _ _ ?_
  clear hK K
  refine wp_seq_k fun K hK => ?_
  obtain ⟨t78_63, et78_63⟩ : ∃ t, t = mi t78_46 t78_42 := ⟨_, rfl⟩
  have it78_63 : In t78_63 := by rw [et78_63]; exact in_mi _ _
  obtain ⟨t78_66, et78_66⟩ : ∃ t, t = mi t78_60 t78_53 := ⟨_, rfl⟩
  have it78_66 : In t78_66 := by rw [et78_66]; exact in_mi _ _
  obtain ⟨W15, eW15⟩ : ∃ W_, W_ = V14.drew := ⟨_, rfl⟩
  replace hb0 := (show W15.heap[w.heap.size]? = V14.heap[w.heap.size]? by rw [eW15]; rfl).trans hb0
  replace hb1 := (show W15.heap[w.heap.size + 1]? = V14.heap[w.heap.size + 1]? by rw [eW15]; rfl).trans hb1
  replace hb2 := (show W15.heap[w.heap.size + 1 + 1]? = V14.heap[w.heap.size + 1 + 1]? by rw [eW15]; rfl).trans hb2
  replace hg78_5 := (show W15.heap[g78_5]? = V14.heap[g78_5]? by rw [eW15]; rfl).trans hg78_5
  replace hg78_6 := (show W15.heap[g78_6]? = V14.heap[g78_6]? by rw [eW15]; rfl).trans hg78_6
  replace hg78_7 := (show W15.heap[g78_7]? = V14.heap[g78_7]? by rw [eW15]; rfl).trans hg78_7
  replace hg78_8 := (show W15.heap[g78_8]? = V14.heap[g78_8]? by rw [eW15]; rfl).trans hg78_8
  replace hg78_9 := (show W15.heap[g78_9]? = V14.heap[g78_9]? by rw [eW15]; rfl).trans hg78_9
  replace hg78_10 := (show W15.heap[g78_10]? = V14.heap[g78_10]? by rw [eW15]; rfl).trans hg78_10
  replace hB : Below w.heap.size w W15 := by rw [eW15]; exact below_drew' hB
  have hr_ := lt_of_heap hb2
  let c : Cfg := ⟨{ tmps := #[.agg #[.int .u64 X1, .int .u64 Y1, .int .u64 Z1], .agg #[.int .u64 X2, .int .u64 Y2, .int .u64 Z2], .pointer (some ⟨w.heap.size, 0, none⟩), .pointer (some ⟨w.heap.size + 1, 0, none⟩), .pointer (some ⟨w.heap.size + 1 + 1, 0, none⟩), .pointer (some ⟨g78_5, 0, none⟩), .pointer (some ⟨g78_6, 0, none⟩), .pointer (some ⟨g78_7, 0, none⟩), .pointer (some ⟨g78_8, 0, none⟩), .pointer (some ⟨g78_9, 0, none⟩), .pointer (some ⟨g78_10, 0, none⟩), undef, undef, undef, undef, undef, undef, .bool false, .pointer (some ⟨w.heap.size, 2, none⟩), .pointer (some ⟨w.heap.size, 2, none⟩), .int .u64 Z1, .bool false, undef, .bool false, .pointer (some ⟨w.heap.size + 1, 2, none⟩), .pointer (some ⟨w.heap.size + 1, 2, none⟩), .int .u64 Z2, .bool false, undef, .pointer (some ⟨w.heap.size, 2, none⟩), .agg #[.int .u64 Z1], .pointer (some ⟨w.heap.size, 2, none⟩), .agg #[.int .u64 Z1], .agg #[.int .u64 t78_33], .pointer (some ⟨w.heap.size + 1, 2, none⟩), .agg #[.int .u64 Z2], .pointer (some ⟨w.heap.size + 1, 2, none⟩), .agg #[.int .u64 Z2], .agg #[.int .u64 t78_38], .pointer (some ⟨w.heap.size, 0, none⟩), .agg #[.int .u64 X1], .agg #[.int .u64 t78_38], .agg #[.int .u64 t78_42], .pointer (some ⟨w.heap.size + 1, 0, none⟩), .agg #[.int .u64 X2], .agg #[.int .u64 t78_33], .agg #[.int .u64 t78_46], .pointer (some ⟨w.heap.size, 1, none⟩), .agg #[.int .u64 Y1], .agg #[.int .u64 t78_38], .agg #[.int .u64 t78_50], .pointer (some ⟨w.heap.size + 1, 2, none⟩), .agg #[.int .u64 Z2], .agg #[.int .u64 t78_53], .pointer (some ⟨w.heap.size + 1, 1, none⟩), .agg #[.int .u64 Y2], .agg #[.int .u64 t78_33], .agg #[.int .u64 t78_57], .pointer (some ⟨w.heap.size, 2, none⟩), .agg #[.int .u64 Z1], .agg #[.int .u64 t78_60], undef, undef, undef, undef, undef, undef, undef, undef, undef, undef, undef, undef, undef, undef, undef, undef, undef, undef, undef, undef, undef, undef, undef, undef, undef, undef, undef, undef, undef, undef, undef, undef, undef, undef, undef, undef, undef, undef, undef, undef, undef, undef, undef, undef, undef, undef, undef, undef, undef, undef, undef, undef, undef, undef], defers := [] }, W15, none, fun G => [(0, 61, .agg #[.int .u64 t78_46]), (1, 62, .agg #[.int .u64 t78_42]), (2, 63, .agg #[.int .u64 t78_63]), (3, 64, .agg #[.int .u64 t78_60]), (4, 65, .agg #[.int .u64 t78_53]), (5, 66, .agg #[.int .u64 t78_66]), (6, 11, .pointer (some ⟨G 6, 0, none⟩)), (7, 12, .pointer (some ⟨G 7, 0, none⟩))], [(6, 8, .int .u64 t78_63), (7, 9, .int .u64 t78_66)], 85, []⟩
  refine drawn_region (IB c) (n := 10) rfl rfl tab78_8 bits78_8 (by kernel_rfl) (by kernel_rfl) (by rw [← eW15]; exact (start_IB c (by intro x hx; cases hx))) ?_ (end_IB c (by intro G e he; exact List.all_eq_true.1 (show ((c.L G).all fun e => (List.range 10).contains e.1) = true from rfl) e he) (by intro e he; have := List.all_eq_true.1 (show (c.E.all fun e => (List.range 10).contains e.1 && (List.range 10).contains e.2.1) = true from rfl) e he; simpa using this) (by intro x hx; exact List.all_eq_true.1 (show (c.R.all fun x => (List.range 10).contains x.1) = true from rfl) x hx) ?_)
  · show ∀ i ∈ [0, 1, 2, 3, 4, 5, 6, 7, 8, 9], StepAt _ _ _ _ _ (IB c) i
    refine steps_cons (step_val c 0 0 _ 61 (.agg #[.int .u64 t78_46]) rfl rfl rfl (fun _ => rfl) (fun _ => rfl) rfl rfl (fun G b w_ hon hg => load_num (.tmp 8) rfl (g78_8) 0 (eval_of ((putSel_off rfl).trans rfl)) ((old_cell hg hg78_8 nofun 0).trans rfl))) ?_
    refine steps_cons (step_val c 1 1 _ 62 (.agg #[.int .u64 t78_42]) rfl rfl rfl (fun _ => rfl) (fun _ => rfl) rfl rfl (fun G b w_ hon hg => load_num (.tmp 7) rfl (g78_7) 0 (eval_of ((putSel_off rfl).trans rfl)) ((old_cell hg hg78_7 nofun 0).trans rfl))) ?_
    refine steps_cons (step_call c 2 2 _ 63 (.agg #[.int .u64 t78_63]) rfl rfl rfl (fun _ => rfl) (fun _ => rfl) rfl rfl Tryd.func120 rfl rfl rfl #[.agg #[.int .u64 t78_46], .agg #[.int .u64 t78_42]] (fun G b hon => by rw [show (#[.tmp 61, .tmp 62] : Array Operand).map (putSel c.a0 b (c.L G)).eval = #[(putSel c.a0 b (c.L G)).eval (.tmp 61), (putSel c.a0 b (c.L G)).eval (.tmp 62)] from by simp only [List.map_toArray, List.map_cons, List.map_nil], show (putSel c.a0 b (c.L G)).eval (.tmp 61) = .agg #[.int .u64 t78_46] from (eval_of (putSel_on (e := (0, 61, .agg #[.int .u64 t78_46])) 0 rfl rfl (hon 0 rfl) rfl)), show (putSel c.a0 b (c.L G)).eval (.tmp 62) = .agg #[.int .u64 t78_42] from (eval_of (putSel_on (e := (1, 62, .agg #[.int .u64 t78_42])) 1 rfl rfl (hon 1 rfl) rfl))]) (fun w_ => by rw [et78_63]; exact minus_c it78_46 it78_42 w_)) ?_
    refine steps_cons (step_val c 3 3 _ 64 (.agg #[.int .u64 t78_60]) rfl rfl rfl (fun _ => rfl) (fun _ => rfl) rfl rfl (fun G b w_ hon hg => load_num (.tmp 10) rfl (g78_10) 0 (eval_of ((putSel_off rfl).trans rfl)) ((old_cell hg hg78_10 nofun 0).trans rfl))) ?_
    refine steps_cons (step_val c 4 4 _ 65 (.agg #[.int .u64 t78_53]) rfl rfl rfl (fun _ => rfl) (fun _ => rfl) rfl rfl (fun G b w_ hon hg => load_num (.tmp 9) rfl (g78_9) 0 (eval_of ((putSel_off rfl).trans rfl)) ((old_cell hg hg78_9 nofun 0).trans rfl))) ?_
    refine steps_cons (step_call c 5 5 _ 66 (.agg #[.int .u64 t78_66]) rfl rfl rfl (fun _ => rfl) (fun _ => rfl) rfl rfl Tryd.func120 rfl rfl rfl #[.agg #[.int .u64 t78_60], .agg #[.int .u64 t78_53]] (fun G b hon => by rw [show (#[.tmp 64, .tmp 65] : Array Operand).map (putSel c.a0 b (c.L G)).eval = #[(putSel c.a0 b (c.L G)).eval (.tmp 64), (putSel c.a0 b (c.L G)).eval (.tmp 65)] from by simp only [List.map_toArray, List.map_cons, List.map_nil], show (putSel c.a0 b (c.L G)).eval (.tmp 64) = .agg #[.int .u64 t78_60] from (eval_of (putSel_on (e := (3, 64, .agg #[.int .u64 t78_60])) 3 rfl rfl (hon 3 rfl) rfl)), show (putSel c.a0 b (c.L G)).eval (.tmp 65) = .agg #[.int .u64 t78_53] from (eval_of (putSel_on (e := (4, 65, .agg #[.int .u64 t78_53])) 4 rfl rfl (hon 4 rfl) rfl))]) (fun w_ => by rw [et78_66]; exact minus_c it78_60 it78_53 w_)) ?_
    refine steps_cons (step_alloc c 6 6 8 _ 11 undef rfl rfl rfl (fun _ => rfl) (fun _ _ => rfl) (fun _ => rfl) rfl rfl rfl (alloc_num rfl)) ?_
    refine steps_cons (step_alloc c 7 7 9 _ 12 undef rfl rfl rfl (fun _ => rfl) (fun _ _ => rfl) (fun _ => rfl) rfl rfl rfl (alloc_num rfl)) ?_
    refine steps_cons (step_store c 8 6 _ (.int .u64 t78_63) rfl rfl rfl (fun _ => rfl) rfl rfl 0 rfl rfl rfl (fun G b w_ hon hb => store_num (.tmp 11) (.tmp 63) rfl (G 6) (eval_of (putSel_on (e := (6, 11, .pointer (some ⟨G 6, 0, none⟩))) 6 rfl rfl (hon 6 rfl) rfl)) (eval_of (putSel_on (e := (2, 63, .agg #[.int .u64 t78_63])) 2 rfl rfl (hon 2 rfl) rfl)) hb.choose_spec)) ?_
    refine steps_cons (step_store c 9 7 _ (.int .u64 t78_66) rfl rfl rfl (fun _ => rfl) rfl rfl 1 rfl rfl rfl (fun G b w_ hon hb => store_num (.tmp 12) (.tmp 66) rfl (G 7) (eval_of (putSel_on (e := (7, 12, .pointer (some ⟨G 7, 0, none⟩))) 7 rfl rfl (hon 7 rfl) rfl)) (eval_of (putSel_on (e := (5, 66, .agg #[.int .u64 t78_66])) 5 rfl rfl (hon 5 rfl) rfl)) hb.choose_spec)) ?_
    exact steps_nil
  intro G V15 hgr hE hR
  obtain ⟨lg78_11, hg78_11⟩ := hE (6, 8, .int .u64 t78_63) (by simp [c])
  dsimp only [c] at lg78_11 hg78_11
  obtain ⟨lg78_12, hg78_12⟩ := hE (7, 9, .int .u64 t78_66) (by simp [c])
  dsimp only [c] at lg78_12 hg78_12
  replace hb0 := (hgr.block _ (lt_of_heap hb0) nofun).trans hb0
  replace hb1 := (hgr.block _ (lt_of_heap hb1) nofun).trans hb1
  replace hb2 := (hgr.block _ (lt_of_heap hb2) nofun).trans hb2
  replace hg78_5 := (hgr.block _ (lt_of_heap hg78_5) nofun).trans hg78_5
  replace hg78_6 := (hgr.block _ (lt_of_heap hg78_6) nofun).trans hg78_6
  replace hg78_7 := (hgr.block _ (lt_of_heap hg78_7) nofun).trans hg78_7
  replace hg78_8 := (hgr.block _ (lt_of_heap hg78_8) nofun).trans hg78_8
  replace hg78_9 := (hgr.block _ (lt_of_heap hg78_9) nofun).trans hg78_9
  replace hg78_10 := (hgr.block _ (lt_of_heap hg78_10) nofun).trans hg78_10
  replace hB := below_none hB hgr
  have ha_ : putAll' c.a0 (c.L G) = { tmps := #[.agg #[.int .u64 X1, .int .u64 Y1, .int .u64 Z1], .agg #[.int .u64 X2, .int .u64 Y2, .int .u64 Z2], .pointer (some ⟨w.heap.size, 0, none⟩), .pointer (some ⟨w.heap.size + 1, 0, none⟩), .pointer (some ⟨w.heap.size + 1 + 1, 0, none⟩), .pointer (some ⟨g78_5, 0, none⟩), .pointer (some ⟨g78_6, 0, none⟩), .pointer (some ⟨g78_7, 0, none⟩), .pointer (some ⟨g78_8, 0, none⟩), .pointer (some ⟨g78_9, 0, none⟩), .pointer (some ⟨g78_10, 0, none⟩), .pointer (some ⟨G 6, 0, none⟩), .pointer (some ⟨G 7, 0, none⟩), undef, undef, undef, undef, .bool false, .pointer (some ⟨w.heap.size, 2, none⟩), .pointer (some ⟨w.heap.size, 2, none⟩), .int .u64 Z1, .bool false, undef, .bool false, .pointer (some ⟨w.heap.size + 1, 2, none⟩), .pointer (some ⟨w.heap.size + 1, 2, none⟩), .int .u64 Z2, .bool false, undef, .pointer (some ⟨w.heap.size, 2, none⟩), .agg #[.int .u64 Z1], .pointer (some ⟨w.heap.size, 2, none⟩), .agg #[.int .u64 Z1], .agg #[.int .u64 t78_33], .pointer (some ⟨w.heap.size + 1, 2, none⟩), .agg #[.int .u64 Z2], .pointer (some ⟨w.heap.size + 1, 2, none⟩), .agg #[.int .u64 Z2], .agg #[.int .u64 t78_38], .pointer (some ⟨w.heap.size, 0, none⟩), .agg #[.int .u64 X1], .agg #[.int .u64 t78_38], .agg #[.int .u64 t78_42], .pointer (some ⟨w.heap.size + 1, 0, none⟩), .agg #[.int .u64 X2], .agg #[.int .u64 t78_33], .agg #[.int .u64 t78_46], .pointer (some ⟨w.heap.size, 1, none⟩), .agg #[.int .u64 Y1], .agg #[.int .u64 t78_38], .agg #[.int .u64 t78_50], .pointer (some ⟨w.heap.size + 1, 2, none⟩), .agg #[.int .u64 Z2], .agg #[.int .u64 t78_53], .pointer (some ⟨w.heap.size + 1, 1, none⟩), .agg #[.int .u64 Y2], .agg #[.int .u64 t78_33], .agg #[.int .u64 t78_57], .pointer (some ⟨w.heap.size, 2, none⟩), .agg #[.int .u64 Z1], .agg #[.int .u64 t78_60], .agg #[.int .u64 t78_46], .agg #[.int .u64 t78_42], .agg #[.int .u64 t78_63], .agg #[.int .u64 t78_60], .agg #[.int .u64 t78_53], .agg #[.int .u64 t78_66], undef, undef, undef, undef, undef, undef, undef, undef, undef, undef, undef, undef, undef, undef, undef, undef, undef, undef, undef, undef, undef, undef, undef, undef, undef, undef, undef, undef, undef, undef, undef, undef, undef, undef, undef, undef, undef, undef, undef, undef, undef, undef, undef, undef, undef, undef, undef, undef], defers := [] } := by kernel_rfl
  rw [ha_]
  clear ha_
  generalize G 6 = g78_11 at *
  have ng78_11 : some g78_11 ≠ some (w.heap.size + 1 + 1) := by intro e_; injection e_; omega
  generalize G 7 = g78_12 at *
  have ng78_12 : some g78_12 ≠ some (w.heap.size + 1 + 1) := by intro e_; injection e_; omega
  clear c hE hR hgr hr_ eW15
  refine hK _ _ ?_
  clear hK K
  have eh_ : hN X1 Z1 X2 Z2 = t78_63 := by subst et78_66; subst et78_63; subst et78_60; subst et78_57; subst et78_53; subst et78_50; subst et78_46; subst et78_42; subst et78_38; subst et78_33; rfl
  have er_ : rN Y1 Z1 Y2 Z2 = t78_66 := by subst et78_66; subst et78_63; subst et78_60; subst et78_57; subst et78_53; subst et78_50; subst et78_46; subst et78_42; subst et78_38; subst et78_33; rfl
  rw [eh_, er_] at h
  clear eh_ er_
  by_cases hh : t78_63 = 0
  · have h2 := h.out
    clear h
    rw [if_pos hh] at h2
    have hb_ : (t78_63 == 0) = true := by simpa using hh
    clear hh et78_66 et78_63 et78_60 et78_57 et78_53 et78_50 et78_46 et78_42 et78_38 et78_33
    by_cases hr : t78_66 = 0
    · rw [if_pos hr] at h2
      have rb_ : (t78_66 == 0) = true := by simpa using hr
      clear hr
      replace h2 := Aside0.mk h2
      have c11 : V15.cell? ⟨g78_11, 0, none⟩ = some (.int .u64 t78_63) := (blk_cell hg78_11 0).trans rfl
      have c12 : V15.cell? ⟨g78_12, 0, none⟩ = some (.int .u64 t78_66) := (blk_cell hg78_12 0).trans rfl
      have ca0 : V15.cell? ⟨w.heap.size, 0, none⟩ = some (.int .u64 X1) := (blk_cell hb0 0).trans rfl
      have ca1 : V15.cell? ⟨w.heap.size, 1, none⟩ = some (.int .u64 Y1) := (blk_cell hb0 1).trans rfl
      have ca2 : V15.cell? ⟨w.heap.size, 2, none⟩ = some (.int .u64 Z1) := (blk_cell hb0 2).trans rfl
      have hbr_ := Aside0.mk hb2
      have HB_ := Aside0.mk hB
      clear hb0 hb1 hb2 hg78_5 hg78_6 hg78_7 hg78_8 hg78_9 hg78_10 hg78_11 hg78_12 hB
      go_wp2_with (go_at_call 121; (with_reducible refine (impl_spatial_double.calls X1 Y1 Z1 r1 r2 r3 _ h2.out).mono ?_); rintro e w2 ⟨rfl, hb2⟩; have hB2 := HB_.out.trans (hb2.mono HB_.out.size); have hr2 := (hb2.block _ (lt_of_heap hbr_.out)).trans hbr_.out; have cr0 := (blk_cell hr2 0).trans rfl; have cr1 := (blk_cell hr2 1).trans rfl; have cr2 := (blk_cell hr2 2).trans rfl; have fr0 := frozen_of_row _ _ 0 _ _ hr2; have fr1 := frozen_of_row _ _ 1 _ _ hr2; have fr2 := frozen_of_row _ _ 2 _ _ hr2; replace hr2 := Aside0.mk hr2; replace hB2 := Aside0.mk hB2; clear hb2)
      have hB := hB2.out
      have hbr_ := hr2.out
      refine bodyPost_ret (results_cell_row rfl _ _ (w.heap.size + 1 + 1) 98 #[.int .u64 r1, .int .u64 r2, .int .u64 r3] (0, 0) _ rfl (set3 hbr_) Tryd.underlying98 rfl (by kernel_rfl)) rfl ⟨rfl, ((hB.setCell (by first | (simp; done) | (simp; omega)) _).setCell (by first | (simp; done) | (simp; omega)) _).setCell (by first | (simp; done) | (simp; omega)) _⟩
    · rw [if_neg hr] at h2
      have rb_ : (t78_66 == 0) = false := by simpa using hr
      clear hr
      obtain ⟨rfl, rfl, rfl⟩ : 1 = r1 ∧ 1 = r2 ∧ 0 = r3 := by simpa using h2
      clear h2
      have c11 : V15.cell? ⟨g78_11, 0, none⟩ = some (.int .u64 t78_63) := (blk_cell hg78_11 0).trans rfl
      have c12 : V15.cell? ⟨g78_12, 0, none⟩ = some (.int .u64 t78_66) := (blk_cell hg78_12 0).trans rfl
      have hbr_ := hb2
      have cr0 : V15.cell? ⟨w.heap.size + 1 + 1, 0, none⟩ = some (.int .u64 0) := (blk_cell hb2 0).trans rfl
      have fr0 : V15.frozen? ⟨w.heap.size + 1 + 1, 0, none⟩ = false := frozen_of_row _ _ 0 _ _ hbr_
      have cr1 : V15.cell? ⟨w.heap.size + 1 + 1, 1, none⟩ = some (.int .u64 0) := (blk_cell hb2 1).trans rfl
      have fr1 : V15.frozen? ⟨w.heap.size + 1 + 1, 1, none⟩ = false := frozen_of_row _ _ 1 _ _ hbr_
      have cr2 : V15.cell? ⟨w.heap.size + 1 + 1, 2, none⟩ = some (.int .u64 0) := (blk_cell hb2 2).trans rfl
      have fr2 : V15.frozen? ⟨w.heap.size + 1 + 1, 2, none⟩ = false := frozen_of_row _ _ 2 _ _ hbr_
      replace hbr_ := Aside0.mk hbr_
      have HB_ := Aside0.mk hB
      clear hb0 hb1 hb2 hg78_5 hg78_6 hg78_7 hg78_8 hg78_9 hg78_10 hg78_11 hg78_12 hB
      go_wp2
      have hB := HB_.out
      have hbr_ := hbr_.out
      refine bodyPost_ret (results_cell_row rfl _ _ (w.heap.size + 1 + 1) 98 #[.int .u64 1, .int .u64 1, .int .u64 0] (0, 0) _ rfl (set3 hbr_) Tryd.underlying98 rfl (by kernel_rfl)) rfl ⟨rfl, ((hB.setCell (by first | (simp; done) | (simp; omega)) _).setCell (by first | (simp; done) | (simp; omega)) _).setCell (by first | (simp; done) | (simp; omega)) _⟩
  · have h2 := h.out
    clear h
    rw [if_neg hh] at h2
    have hb_ : (t78_63 == 0) = false := by simpa using hh
    clear hh
    replace h2 := Aside0.mk h2
    replace et78_33 := Aside0.mk et78_33
    replace et78_38 := Aside0.mk et78_38
    replace et78_42 := Aside0.mk et78_42
    replace et78_46 := Aside0.mk et78_46
    replace et78_50 := Aside0.mk et78_50
    replace et78_53 := Aside0.mk et78_53
    replace et78_57 := Aside0.mk et78_57
    replace et78_60 := Aside0.mk et78_60
    replace et78_63 := Aside0.mk et78_63
    replace et78_66 := Aside0.mk et78_66
    have c11 : V15.cell? ⟨g78_11, 0, none⟩ = some (.int .u64 t78_63) := (blk_cell hg78_11 0).trans rfl
    have c12 : V15.cell? ⟨g78_12, 0, none⟩ = some (.int .u64 t78_66) := (blk_cell hg78_12 0).trans rfl
    refine wp_seq ?_
    refine wp_seq_k fun K hK => ?_
    replace hK := Aside0.mk hK
    go_wp2
    refine hK.out _ _ ?_
    clear hK K
    refine wp_cond_false rfl ?_
    refine wp_skip ?_
    dsimp only [Exit.then]
    clear c11 c12
    refine wp_seq_k fun K hK => ?_
    obtain ⟨t78_81, et78_81⟩ : ∃ t, t = tm t78_63 t78_63 := ⟨_, rfl⟩
    have it78_81 : In t78_81 := by rw [et78_81]; exact in_tm _ _
    have hr_ := lt_of_heap hb2
    let c : Cfg := ⟨{ tmps := #[.agg #[.int .u64 X1, .int .u64 Y1, .int .u64 Z1], .agg #[.int .u64 X2, .int .u64 Y2, .int .u64 Z2], .pointer (some ⟨w.heap.size, 0, none⟩), .pointer (some ⟨w.heap.size + 1, 0, none⟩), .pointer (some ⟨w.heap.size + 1 + 1, 0, none⟩), .pointer (some ⟨g78_5, 0, none⟩), .pointer (some ⟨g78_6, 0, none⟩), .pointer (some ⟨g78_7, 0, none⟩), .pointer (some ⟨g78_8, 0, none⟩), .pointer (some ⟨g78_9, 0, none⟩), .pointer (some ⟨g78_10, 0, none⟩), .pointer (some ⟨g78_11, 0, none⟩), .pointer (some ⟨g78_12, 0, none⟩), undef, undef, undef, undef, .bool false, .pointer (some ⟨w.heap.size, 2, none⟩), .pointer (some ⟨w.heap.size, 2, none⟩), .int .u64 Z1, .bool false, undef, .bool false, .pointer (some ⟨w.heap.size + 1, 2, none⟩), .pointer (some ⟨w.heap.size + 1, 2, none⟩), .int .u64 Z2, .bool false, undef, .pointer (some ⟨w.heap.size, 2, none⟩), .agg #[.int .u64 Z1], .pointer (some ⟨w.heap.size, 2, none⟩), .agg #[.int .u64 Z1], .agg #[.int .u64 t78_33], .pointer (some ⟨w.heap.size + 1, 2, none⟩), .agg #[.int .u64 Z2], .pointer (some ⟨w.heap.size + 1, 2, none⟩), .agg #[.int .u64 Z2], .agg #[.int .u64 t78_38], .pointer (some ⟨w.heap.size, 0, none⟩), .agg #[.int .u64 X1], .agg #[.int .u64 t78_38], .agg #[.int .u64 t78_42], .pointer (some ⟨w.heap.size + 1, 0, none⟩), .agg #[.int .u64 X2], .agg #[.int .u64 t78_33], .agg #[.int .u64 t78_46], .pointer (some ⟨w.heap.size, 1, none⟩), .agg #[.int .u64 Y1], .agg #[.int .u64 t78_38], .agg #[.int .u64 t78_50], .pointer (some ⟨w.heap.size + 1, 2, none⟩), .agg #[.int .u64 Z2], .agg #[.int .u64 t78_53], .pointer (some ⟨w.heap.size + 1, 1, none⟩), .agg #[.int .u64 Y2], .agg #[.int .u64 t78_33], .agg #[.int .u64 t78_57], .pointer (some ⟨w.heap.size, 2, none⟩), .agg #[.int .u64 Z1], .agg #[.int .u64 t78_60], .agg #[.int .u64 t78_46], .agg #[.int .u64 t78_42], .agg #[.int .u64 t78_63], .agg #[.int .u64 t78_60], .agg #[.int .u64 t78_53], .agg #[.int .u64 t78_66], .pointer (some ⟨g78_11, 0, none⟩), .int .u64 t78_63, .bool false, undef, undef, undef, undef, undef, undef, undef, undef, undef, undef, undef, undef, undef, undef, undef, undef, undef, undef, undef, undef, undef, undef, undef, undef, undef, undef, undef, undef, undef, undef, undef, undef, undef, undef, undef, undef, undef, undef, undef, undef, undef, undef, undef, undef, undef], defers := [] }, V15, none, fun G => [(0, 79, .agg #[.int .u64 t78_63]), (1, 80, .agg #[.int .u64 t78_63]), (2, 81, .agg #[.int .u64 t78_81]), (3, 13, .pointer (some ⟨G 3, 0, none⟩))], [(3, 4, .int .u64 t78_81)], 85, []⟩
    refine seq_region (IB c) (n := 5) rfl (start_IB c (by intro x hx; cases hx)) ?_ (end_IB c (by intro G e he; exact List.all_eq_true.1 (show ((c.L G).all fun e => (List.range 5).contains e.1) = true from rfl) e he) (by intro e he; have := List.all_eq_true.1 (show (c.E.all fun e => (List.range 5).contains e.1 && (List.range 5).contains e.2.1) = true from rfl) e he; simpa using this) (by intro x hx; exact List.all_eq_true.1 (show (c.R.all fun x => (List.range 5).contains x.1) = true from rfl) x hx) ?_)
    · show ∀ i ∈ [0, 1, 2, 3, 4], StepAt _ _ _ _ _ (IB c) i
      refine steps_cons (step_val c 0 0 _ 79 (.agg #[.int .u64 t78_63]) rfl rfl rfl (fun _ => rfl) (fun _ => rfl) rfl rfl (fun G b w_ hon hg => load_num (.tmp 11) rfl (g78_11) 0 (eval_of ((putSel_off rfl).trans rfl)) ((old_cell hg hg78_11 nofun 0).trans rfl))) ?_
      refine steps_cons (step_val c 1 1 _ 80 (.agg #[.int .u64 t78_63]) rfl rfl rfl (fun _ => rfl) (fun _ => rfl) rfl rfl (fun G b w_ hon hg => load_num (.tmp 11) rfl (g78_11) 0 (eval_of ((putSel_off rfl).trans rfl)) ((old_cell hg hg78_11 nofun 0).trans rfl))) ?_
      refine steps_cons (step_call c 2 2 _ 81 (.agg #[.int .u64 t78_81]) rfl rfl rfl (fun _ => rfl) (fun _ => rfl) rfl rfl Tryd.func111 rfl rfl rfl #[.agg #[.int .u64 t78_63], .agg #[.int .u64 t78_63]] (fun G b hon => by rw [show (#[.tmp 79, .tmp 80] : Array Operand).map (putSel c.a0 b (c.L G)).eval = #[(putSel c.a0 b (c.L G)).eval (.tmp 79), (putSel c.a0 b (c.L G)).eval (.tmp 80)] from by simp only [List.map_toArray, List.map_cons, List.map_nil], show (putSel c.a0 b (c.L G)).eval (.tmp 79) = .agg #[.int .u64 t78_63] from (eval_of (putSel_on (e := (0, 79, .agg #[.int .u64 t78_63])) 0 rfl rfl (hon 0 rfl) rfl)), show (putSel c.a0 b (c.L G)).eval (.tmp 80) = .agg #[.int .u64 t78_63] from (eval_of (putSel_on (e := (1, 80, .agg #[.int .u64 t78_63])) 1 rfl rfl (hon 1 rfl) rfl))]) (fun w_ => by rw [et78_81]; exact times_c it78_63 it78_63 w_)) ?_
      refine steps_cons (step_alloc c 3 3 4 _ 13 undef rfl rfl rfl (fun _ => rfl) (fun _ _ => rfl) (fun _ => rfl) rfl rfl rfl (alloc_num rfl)) ?_
      refine steps_cons (step_store c 4 3 _ (.int .u64 t78_81) rfl rfl rfl (fun _ => rfl) rfl rfl 0 rfl rfl rfl (fun G b w_ hon hb => store_num (.tmp 13) (.tmp 81) rfl (G 3) (eval_of (putSel_on (e := (3, 13, .pointer (some ⟨G 3, 0, none⟩))) 3 rfl rfl (hon 3 rfl) rfl)) (eval_of (putSel_on (e := (2, 81, .agg #[.int .u64 t78_81])) 2 rfl rfl (hon 2 rfl) rfl)) hb.choose_spec)) ?_
      exact steps_nil
    intro G V16 hgr hE hR
    obtain ⟨lg78_13, hg78_13⟩ := hE (3, 4, .int .u64 t78_81) (by simp [c])
    dsimp only [c] at lg78_13 hg78_13
    replace hb0 := (hgr.block _ (lt_of_heap hb0) nofun).trans hb0
    replace hb1 := (hgr.block _ (lt_of_heap hb1) nofun).trans hb1
    replace hb2 := (hgr.block _ (lt_of_heap hb2) nofun).trans hb2
    replace hg78_5 := (hgr.block _ (lt_of_heap hg78_5) nofun).trans hg78_5
    replace hg78_6 := (hgr.block _ (lt_of_heap hg78_6) nofun).trans hg78_6
    replace hg78_7 := (hgr.block _ (lt_of_heap hg78_7) nofun).trans hg78_7
    replace hg78_8 := (hgr.block _ (lt_of_heap hg78_8) nofun).trans hg78_8
    replace hg78_9 := (hgr.block _ (lt_of_heap hg78_9) nofun).trans hg78_9
    replace hg78_10 := (hgr.block _ (lt_of_heap hg78_10) nofun).trans hg78_10
    replace hg78_11 := (hgr.block _ (lt_of_heap hg78_11) nofun).trans hg78_11
    replace hg78_12 := (hgr.block _ (lt_of_heap hg78_12) nofun).trans hg78_12
    replace hB := below_none hB hgr
    have ha_ : putAll' c.a0 (c.L G) = { tmps := #[.agg #[.int .u64 X1, .int .u64 Y1, .int .u64 Z1], .agg #[.int .u64 X2, .int .u64 Y2, .int .u64 Z2], .pointer (some ⟨w.heap.size, 0, none⟩), .pointer (some ⟨w.heap.size + 1, 0, none⟩), .pointer (some ⟨w.heap.size + 1 + 1, 0, none⟩), .pointer (some ⟨g78_5, 0, none⟩), .pointer (some ⟨g78_6, 0, none⟩), .pointer (some ⟨g78_7, 0, none⟩), .pointer (some ⟨g78_8, 0, none⟩), .pointer (some ⟨g78_9, 0, none⟩), .pointer (some ⟨g78_10, 0, none⟩), .pointer (some ⟨g78_11, 0, none⟩), .pointer (some ⟨g78_12, 0, none⟩), .pointer (some ⟨G 3, 0, none⟩), undef, undef, undef, .bool false, .pointer (some ⟨w.heap.size, 2, none⟩), .pointer (some ⟨w.heap.size, 2, none⟩), .int .u64 Z1, .bool false, undef, .bool false, .pointer (some ⟨w.heap.size + 1, 2, none⟩), .pointer (some ⟨w.heap.size + 1, 2, none⟩), .int .u64 Z2, .bool false, undef, .pointer (some ⟨w.heap.size, 2, none⟩), .agg #[.int .u64 Z1], .pointer (some ⟨w.heap.size, 2, none⟩), .agg #[.int .u64 Z1], .agg #[.int .u64 t78_33], .pointer (some ⟨w.heap.size + 1, 2, none⟩), .agg #[.int .u64 Z2], .pointer (some ⟨w.heap.size + 1, 2, none⟩), .agg #[.int .u64 Z2], .agg #[.int .u64 t78_38], .pointer (some ⟨w.heap.size, 0, none⟩), .agg #[.int .u64 X1], .agg #[.int .u64 t78_38], .agg #[.int .u64 t78_42], .pointer (some ⟨w.heap.size + 1, 0, none⟩), .agg #[.int .u64 X2], .agg #[.int .u64 t78_33], .agg #[.int .u64 t78_46], .pointer (some ⟨w.heap.size, 1, none⟩), .agg #[.int .u64 Y1], .agg #[.int .u64 t78_38], .agg #[.int .u64 t78_50], .pointer (some ⟨w.heap.size + 1, 2, none⟩), .agg #[.int .u64 Z2], .agg #[.int .u64 t78_53], .pointer (some ⟨w.heap.size + 1, 1, none⟩), .agg #[.int .u64 Y2], .agg #[.int .u64 t78_33], .agg #[.int .u64 t78_57], .pointer (some ⟨w.heap.size, 2, none⟩), .agg #[.int .u64 Z1], .agg #[.int .u64 t78_60], .agg #[.int .u64 t78_46], .agg #[.int .u64 t78_42], .agg #[.int .u64 t78_63], .agg #[.int .u64 t78_60], .agg #[.int .u64 t78_53], .agg #[.int .u64 t78_66], .pointer (some ⟨g78_11, 0, none⟩), .int .u64 t78_63, .bool false, undef, undef, undef, undef, undef, undef, undef, undef, undef, .agg #[.int .u64 t78_63], .agg #[.int .u64 t78_63], .agg #[.int .u64 t78_81], undef, undef, undef, undef, undef, undef, undef, undef, undef, undef, undef, undef, undef, undef, undef, undef, undef, undef, undef, undef, undef, undef, undef, undef, undef, undef, undef, undef, undef, undef, undef, undef, undef], defers := [] } := by kernel_rfl
    rw [ha_]
    clear ha_
    generalize G 3 = g78_13 at *
    have ng78_13 : some g78_13 ≠ some (w.heap.size + 1 + 1) := by intro e_; injection e_; omega
    clear c hE hR hgr hr_
    refine hK _ _ ?_
    clear hK K
    refine wp_seq_k fun K hK => ?_
    obtain ⟨t78_84, et78_84⟩ : ∃ t, t = tm t78_81 t78_63 := ⟨_, rfl⟩
    have it78_84 : In t78_84 := by rw [et78_84]; exact in_tm _ _
    have hr_ := lt_of_heap hb2
    let c : Cfg := ⟨{ tmps := #[.agg #[.int .u64 X1, .int .u64 Y1, .int .u64 Z1], .agg #[.int .u64 X2, .int .u64 Y2, .int .u64 Z2], .pointer (some ⟨w.heap.size, 0, none⟩), .pointer (some ⟨w.heap.size + 1, 0, none⟩), .pointer (some ⟨w.heap.size + 1 + 1, 0, none⟩), .pointer (some ⟨g78_5, 0, none⟩), .pointer (some ⟨g78_6, 0, none⟩), .pointer (some ⟨g78_7, 0, none⟩), .pointer (some ⟨g78_8, 0, none⟩), .pointer (some ⟨g78_9, 0, none⟩), .pointer (some ⟨g78_10, 0, none⟩), .pointer (some ⟨g78_11, 0, none⟩), .pointer (some ⟨g78_12, 0, none⟩), .pointer (some ⟨g78_13, 0, none⟩), undef, undef, undef, .bool false, .pointer (some ⟨w.heap.size, 2, none⟩), .pointer (some ⟨w.heap.size, 2, none⟩), .int .u64 Z1, .bool false, undef, .bool false, .pointer (some ⟨w.heap.size + 1, 2, none⟩), .pointer (some ⟨w.heap.size + 1, 2, none⟩), .int .u64 Z2, .bool false, undef, .pointer (some ⟨w.heap.size, 2, none⟩), .agg #[.int .u64 Z1], .pointer (some ⟨w.heap.size, 2, none⟩), .agg #[.int .u64 Z1], .agg #[.int .u64 t78_33], .pointer (some ⟨w.heap.size + 1, 2, none⟩), .agg #[.int .u64 Z2], .pointer (some ⟨w.heap.size + 1, 2, none⟩), .agg #[.int .u64 Z2], .agg #[.int .u64 t78_38], .pointer (some ⟨w.heap.size, 0, none⟩), .agg #[.int .u64 X1], .agg #[.int .u64 t78_38], .agg #[.int .u64 t78_42], .pointer (some ⟨w.heap.size + 1, 0, none⟩), .agg #[.int .u64 X2], .agg #[.int .u64 t78_33], .agg #[.int .u64 t78_46], .pointer (some ⟨w.heap.size, 1, none⟩), .agg #[.int .u64 Y1], .agg #[.int .u64 t78_38], .agg #[.int .u64 t78_50], .pointer (some ⟨w.heap.size + 1, 2, none⟩), .agg #[.int .u64 Z2], .agg #[.int .u64 t78_53], .pointer (some ⟨w.heap.size + 1, 1, none⟩), .agg #[.int .u64 Y2], .agg #[.int .u64 t78_33], .agg #[.int .u64 t78_57], .pointer (some ⟨w.heap.size, 2, none⟩), .agg #[.int .u64 Z1], .agg #[.int .u64 t78_60], .agg #[.int .u64 t78_46], .agg #[.int .u64 t78_42], .agg #[.int .u64 t78_63], .agg #[.int .u64 t78_60], .agg #[.int .u64 t78_53], .agg #[.int .u64 t78_66], .pointer (some ⟨g78_11, 0, none⟩), .int .u64 t78_63, .bool false, undef, undef, undef, undef, undef, undef, undef, undef, undef, .agg #[.int .u64 t78_63], .agg #[.int .u64 t78_63], .agg #[.int .u64 t78_81], undef, undef, undef, undef, undef, undef, undef, undef, undef, undef, undef, undef, undef, undef, undef, undef, undef, undef, undef, undef, undef, undef, undef, undef, undef, undef, undef, undef, undef, undef, undef, undef, undef], defers := [] }, V16, none, fun G => [(0, 82, .agg #[.int .u64 t78_81]), (1, 83, .agg #[.int .u64 t78_63]), (2, 84, .agg #[.int .u64 t78_84]), (3, 14, .pointer (some ⟨G 3, 0, none⟩))], [(3, 4, .int .u64 t78_84)], 85, []⟩
    refine seq_region (IB c) (n := 5) rfl (start_IB c (by intro x hx; cases hx)) ?_ (end_IB c (by intro G e he; exact List.all_eq_true.1 (show ((c.L G).all fun e => (List.range 5).contains e.1) = true from rfl) e he) (by intro e he; have := List.all_eq_true.1 (show (c.E.all fun e => (List.range 5).contains e.1 && (List.range 5).contains e.2.1) = true from rfl) e he; simpa using this) (by intro x hx; exact List.all_eq_true.1 (show (c.R.all fun x => (List.range 5).contains x.1) = true from rfl) x hx) ?_)
    · show ∀ i ∈ [0, 1, 2, 3, 4], StepAt _ _ _ _ _ (IB c) i
      refine steps_cons (step_val c 0 0 _ 82 (.agg #[.int .u64 t78_81]) rfl rfl rfl (fun _ => rfl) (fun _ => rfl) rfl rfl (fun G b w_ hon hg => load_num (.tmp 13) rfl (g78_13) 0 (eval_of ((putSel_off rfl).trans rfl)) ((old_cell hg hg78_13 nofun 0).trans rfl))) ?_
      refine steps_cons (step_val c 1 1 _ 83 (.agg #[.int .u64 t78_63]) rfl rfl rfl (fun _ => rfl) (fun _ => rfl) rfl rfl (fun G b w_ hon hg => load_num (.tmp 11) rfl (g78_11) 0 (eval_of ((putSel_off rfl).trans rfl)) ((old_cell hg hg78_11 nofun 0).trans rfl))) ?_
      refine steps_cons (step_call c 2 2 _ 84 (.agg #[.int .u64 t78_84]) rfl rfl rfl (fun _ => rfl) (fun _ => rfl) rfl rfl Tryd.func111 rfl rfl rfl #[.agg #[.int .u64 t78_81], .agg #[.int .u64 t78_63]] (fun G b hon => by rw [show (#[.tmp 82, .tmp 83] : Array Operand).map (putSel c.a0 b (c.L G)).eval = #[(putSel c.a0 b (c.L G)).eval (.tmp 82), (putSel c.a0 b (c.L G)).eval (.tmp 83)] from by simp only [List.map_toArray, List.map_cons, List.map_nil], show (putSel c.a0 b (c.L G)).eval (.tmp 82) = .agg #[.int .u64 t78_81] from (eval_of (putSel_on (e := (0, 82, .agg #[.int .u64 t78_81])) 0 rfl rfl (hon 0 rfl) rfl)), show (putSel c.a0 b (c.L G)).eval (.tmp 83) = .agg #[.int .u64 t78_63] from (eval_of (putSel_on (e := (1, 83, .agg #[.int .u64 t78_63])) 1 rfl rfl (hon 1 rfl) rfl))]) (fun w_ => by rw [et78_84]; exact times_c it78_81 it78_63 w_)) ?_
      refine steps_cons (step_alloc c 3 3 4 _ 14 undef rfl rfl rfl (fun _ => rfl) (fun _ _ => rfl) (fun _ => rfl) rfl rfl rfl (alloc_num rfl)) ?_
      refine steps_cons (step_store c 4 3 _ (.int .u64 t78_84) rfl rfl rfl (fun _ => rfl) rfl rfl 0 rfl rfl rfl (fun G b w_ hon hb => store_num (.tmp 14) (.tmp 84) rfl (G 3) (eval_of (putSel_on (e := (3, 14, .pointer (some ⟨G 3, 0, none⟩))) 3 rfl rfl (hon 3 rfl) rfl)) (eval_of (putSel_on (e := (2, 84, .agg #[.int .u64 t78_84])) 2 rfl rfl (hon 2 rfl) rfl)) hb.choose_spec)) ?_
      exact steps_nil
    intro G V17 hgr hE hR
    obtain ⟨lg78_14, hg78_14⟩ := hE (3, 4, .int .u64 t78_84) (by simp [c])
    dsimp only [c] at lg78_14 hg78_14
    replace hb0 := (hgr.block _ (lt_of_heap hb0) nofun).trans hb0
    replace hb1 := (hgr.block _ (lt_of_heap hb1) nofun).trans hb1
    replace hb2 := (hgr.block _ (lt_of_heap hb2) nofun).trans hb2
    replace hg78_5 := (hgr.block _ (lt_of_heap hg78_5) nofun).trans hg78_5
    replace hg78_6 := (hgr.block _ (lt_of_heap hg78_6) nofun).trans hg78_6
    replace hg78_7 := (hgr.block _ (lt_of_heap hg78_7) nofun).trans hg78_7
    replace hg78_8 := (hgr.block _ (lt_of_heap hg78_8) nofun).trans hg78_8
    replace hg78_9 := (hgr.block _ (lt_of_heap hg78_9) nofun).trans hg78_9
    replace hg78_10 := (hgr.block _ (lt_of_heap hg78_10) nofun).trans hg78_10
    replace hg78_11 := (hgr.block _ (lt_of_heap hg78_11) nofun).trans hg78_11
    replace hg78_12 := (hgr.block _ (lt_of_heap hg78_12) nofun).trans hg78_12
    replace hg78_13 := (hgr.block _ (lt_of_heap hg78_13) nofun).trans hg78_13
    replace hB := below_none hB hgr
    have ha_ : putAll' c.a0 (c.L G) = { tmps := #[.agg #[.int .u64 X1, .int .u64 Y1, .int .u64 Z1], .agg #[.int .u64 X2, .int .u64 Y2, .int .u64 Z2], .pointer (some ⟨w.heap.size, 0, none⟩), .pointer (some ⟨w.heap.size + 1, 0, none⟩), .pointer (some ⟨w.heap.size + 1 + 1, 0, none⟩), .pointer (some ⟨g78_5, 0, none⟩), .pointer (some ⟨g78_6, 0, none⟩), .pointer (some ⟨g78_7, 0, none⟩), .pointer (some ⟨g78_8, 0, none⟩), .pointer (some ⟨g78_9, 0, none⟩), .pointer (some ⟨g78_10, 0, none⟩), .pointer (some ⟨g78_11, 0, none⟩), .pointer (some ⟨g78_12, 0, none⟩), .pointer (some ⟨g78_13, 0, none⟩), .pointer (some ⟨G 3, 0, none⟩), undef, undef, .bool false, .pointer (some ⟨w.heap.size, 2, none⟩), .pointer (some ⟨w.heap.size, 2, none⟩), .int .u64 Z1, .bool false, undef, .bool false, .pointer (some ⟨w.heap.size + 1, 2, none⟩), .pointer (some ⟨w.heap.size + 1, 2, none⟩), .int .u64 Z2, .bool false, undef, .pointer (some ⟨w.heap.size, 2, none⟩), .agg #[.int .u64 Z1], .pointer (some ⟨w.heap.size, 2, none⟩), .agg #[.int .u64 Z1], .agg #[.int .u64 t78_33], .pointer (some ⟨w.heap.size + 1, 2, none⟩), .agg #[.int .u64 Z2], .pointer (some ⟨w.heap.size + 1, 2, none⟩), .agg #[.int .u64 Z2], .agg #[.int .u64 t78_38], .pointer (some ⟨w.heap.size, 0, none⟩), .agg #[.int .u64 X1], .agg #[.int .u64 t78_38], .agg #[.int .u64 t78_42], .pointer (some ⟨w.heap.size + 1, 0, none⟩), .agg #[.int .u64 X2], .agg #[.int .u64 t78_33], .agg #[.int .u64 t78_46], .pointer (some ⟨w.heap.size, 1, none⟩), .agg #[.int .u64 Y1], .agg #[.int .u64 t78_38], .agg #[.int .u64 t78_50], .pointer (some ⟨w.heap.size + 1, 2, none⟩), .agg #[.int .u64 Z2], .agg #[.int .u64 t78_53], .pointer (some ⟨w.heap.size + 1, 1, none⟩), .agg #[.int .u64 Y2], .agg #[.int .u64 t78_33], .agg #[.int .u64 t78_57], .pointer (some ⟨w.heap.size, 2, none⟩), .agg #[.int .u64 Z1], .agg #[.int .u64 t78_60], .agg #[.int .u64 t78_46], .agg #[.int .u64 t78_42], .agg #[.int .u64 t78_63], .agg #[.int .u64 t78_60], .agg #[.int .u64 t78_53], .agg #[.int .u64 t78_66], .pointer (some ⟨g78_11, 0, none⟩), .int .u64 t78_63, .bool false, undef, undef, undef, undef, undef, undef, undef, undef, undef, .agg #[.int .u64 t78_63], .agg #[.int .u64 t78_63], .agg #[.int .u64 t78_81], .agg #[.int .u64 t78_81], .agg #[.int .u64 t78_63], .agg #[.int .u64 t78_84], undef, undef, undef, undef, undef, undef, undef, undef, undef, undef, undef, undef, undef, undef, undef, undef, undef, undef, undef, undef, undef, undef, undef, undef, undef, undef, undef, undef, undef, undef], defers := [] } := by kernel_rfl
    rw [ha_]
    clear ha_
    generalize G 3 = g78_14 at *
    have ng78_14 : some g78_14 ≠ some (w.heap.size + 1 + 1) := by intro e_; injection e_; omega
    clear c hE hR hgr hr_
    refine hK _ _ ?_
    clear hK K
    refine wp_seq_k fun K hK => ?_
    obtain ⟨t78_87, et78_87⟩ : ∃ t, t = tm t78_42 t78_81 := ⟨_, rfl⟩
    have it78_87 : In t78_87 := by rw [et78_87]; exact in_tm _ _
    have hr_ := lt_of_heap hb2
    let c : Cfg := ⟨{ tmps := #[.agg #[.int .u64 X1, .int .u64 Y1, .int .u64 Z1], .agg #[.int .u64 X2, .int .u64 Y2, .int .u64 Z2], .pointer (some ⟨w.heap.size, 0, none⟩), .pointer (some ⟨w.heap.size + 1, 0, none⟩), .pointer (some ⟨w.heap.size + 1 + 1, 0, none⟩), .pointer (some ⟨g78_5, 0, none⟩), .pointer (some ⟨g78_6, 0, none⟩), .pointer (some ⟨g78_7, 0, none⟩), .pointer (some ⟨g78_8, 0, none⟩), .pointer (some ⟨g78_9, 0, none⟩), .pointer (some ⟨g78_10, 0, none⟩), .pointer (some ⟨g78_11, 0, none⟩), .pointer (some ⟨g78_12, 0, none⟩), .pointer (some ⟨g78_13, 0, none⟩), .pointer (some ⟨g78_14, 0, none⟩), undef, undef, .bool false, .pointer (some ⟨w.heap.size, 2, none⟩), .pointer (some ⟨w.heap.size, 2, none⟩), .int .u64 Z1, .bool false, undef, .bool false, .pointer (some ⟨w.heap.size + 1, 2, none⟩), .pointer (some ⟨w.heap.size + 1, 2, none⟩), .int .u64 Z2, .bool false, undef, .pointer (some ⟨w.heap.size, 2, none⟩), .agg #[.int .u64 Z1], .pointer (some ⟨w.heap.size, 2, none⟩), .agg #[.int .u64 Z1], .agg #[.int .u64 t78_33], .pointer (some ⟨w.heap.size + 1, 2, none⟩), .agg #[.int .u64 Z2], .pointer (some ⟨w.heap.size + 1, 2, none⟩), .agg #[.int .u64 Z2], .agg #[.int .u64 t78_38], .pointer (some ⟨w.heap.size, 0, none⟩), .agg #[.int .u64 X1], .agg #[.int .u64 t78_38], .agg #[.int .u64 t78_42], .pointer (some ⟨w.heap.size + 1, 0, none⟩), .agg #[.int .u64 X2], .agg #[.int .u64 t78_33], .agg #[.int .u64 t78_46], .pointer (some ⟨w.heap.size, 1, none⟩), .agg #[.int .u64 Y1], .agg #[.int .u64 t78_38], .agg #[.int .u64 t78_50], .pointer (some ⟨w.heap.size + 1, 2, none⟩), .agg #[.int .u64 Z2], .agg #[.int .u64 t78_53], .pointer (some ⟨w.heap.size + 1, 1, none⟩), .agg #[.int .u64 Y2], .agg #[.int .u64 t78_33], .agg #[.int .u64 t78_57], .pointer (some ⟨w.heap.size, 2, none⟩), .agg #[.int .u64 Z1], .agg #[.int .u64 t78_60], .agg #[.int .u64 t78_46], .agg #[.int .u64 t78_42], .agg #[.int .u64 t78_63], .agg #[.int .u64 t78_60], .agg #[.int .u64 t78_53], .agg #[.int .u64 t78_66], .pointer (some ⟨g78_11, 0, none⟩), .int .u64 t78_63, .bool false, undef, undef, undef, undef, undef, undef, undef, undef, undef, .agg #[.int .u64 t78_63], .agg #[.int .u64 t78_63], .agg #[.int .u64 t78_81], .agg #[.int .u64 t78_81], .agg #[.int .u64 t78_63], .agg #[.int .u64 t78_84], undef, undef, undef, undef, undef, undef, undef, undef, undef, undef, undef, undef, undef, undef, undef, undef, undef, undef, undef, undef, undef, undef, undef, undef, undef, undef, undef, undef, undef, undef], defers := [] }, V17, none, fun G => [(0, 85, .agg #[.int .u64 t78_42]), (1, 86, .agg #[.int .u64 t78_81]), (2, 87, .agg #[.int .u64 t78_87]), (3, 15, .pointer (some ⟨G 3, 0, none⟩))], [(3, 4, .int .u64 t78_87)], 85, []⟩
    refine seq_region (IB c) (n := 5) rfl (start_IB c (by intro x hx; cases hx)) ?_ (end_IB c (by intro G e he; exact List.all_eq_true.1 (show ((c.L G).all fun e => (List.range 5).contains e.1) = true from rfl) e he) (by intro e he; have := List.all_eq_true.1 (show (c.E.all fun e => (List.range 5).contains e.1 && (List.range 5).contains e.2.1) = true from rfl) e he; simpa using this) (by intro x hx; exact List.all_eq_true.1 (show (c.R.all fun x => (List.range 5).contains x.1) = true from rfl) x hx) ?_)
    · show ∀ i ∈ [0, 1, 2, 3, 4], StepAt _ _ _ _ _ (IB c) i
      refine steps_cons (step_val c 0 0 _ 85 (.agg #[.int .u64 t78_42]) rfl rfl rfl (fun _ => rfl) (fun _ => rfl) rfl rfl (fun G b w_ hon hg => load_num (.tmp 7) rfl (g78_7) 0 (eval_of ((putSel_off rfl).trans rfl)) ((old_cell hg hg78_7 nofun 0).trans rfl))) ?_
      refine steps_cons (step_val c 1 1 _ 86 (.agg #[.int .u64 t78_81]) rfl rfl rfl (fun _ => rfl) (fun _ => rfl) rfl rfl (fun G b w_ hon hg => load_num (.tmp 13) rfl (g78_13) 0 (eval_of ((putSel_off rfl).trans rfl)) ((old_cell hg hg78_13 nofun 0).trans rfl))) ?_
      refine steps_cons (step_call c 2 2 _ 87 (.agg #[.int .u64 t78_87]) rfl rfl rfl (fun _ => rfl) (fun _ => rfl) rfl rfl Tryd.func111 rfl rfl rfl #[.agg #[.int .u64 t78_42], .agg #[.int .u64 t78_81]] (fun G b hon => by rw [show (#[.tmp 85, .tmp 86] : Array Operand).map (putSel c.a0 b (c.L G)).eval = #[(putSel c.a0 b (c.L G)).eval (.tmp 85), (putSel c.a0 b (c.L G)).eval (.tmp 86)] from by simp only [List.map_toArray, List.map_cons, List.map_nil], show (putSel c.a0 b (c.L G)).eval (.tmp 85) = .agg #[.int .u64 t78_42] from (eval_of (putSel_on (e := (0, 85, .agg #[.int .u64 t78_42])) 0 rfl rfl (hon 0 rfl) rfl)), show (putSel c.a0 b (c.L G)).eval (.tmp 86) = .agg #[.int .u64 t78_81] from (eval_of (putSel_on (e := (1, 86, .agg #[.int .u64 t78_81])) 1 rfl rfl (hon 1 rfl) rfl))]) (fun w_ => by rw [et78_87]; exact times_c it78_42 it78_81 w_)) ?_
      refine steps_cons (step_alloc c 3 3 4 _ 15 undef rfl rfl rfl (fun _ => rfl) (fun _ _ => rfl) (fun _ => rfl) rfl rfl rfl (alloc_num rfl)) ?_
      refine steps_cons (step_store c 4 3 _ (.int .u64 t78_87) rfl rfl rfl (fun _ => rfl) rfl rfl 0 rfl rfl rfl (fun G b w_ hon hb => store_num (.tmp 15) (.tmp 87) rfl (G 3) (eval_of (putSel_on (e := (3, 15, .pointer (some ⟨G 3, 0, none⟩))) 3 rfl rfl (hon 3 rfl) rfl)) (eval_of (putSel_on (e := (2, 87, .agg #[.int .u64 t78_87])) 2 rfl rfl (hon 2 rfl) rfl)) hb.choose_spec)) ?_
      exact steps_nil
    intro G V18 hgr hE hR
    obtain ⟨lg78_15, hg78_15⟩ := hE (3, 4, .int .u64 t78_87) (by simp [c])
    dsimp only [c] at lg78_15 hg78_15
    replace hb0 := (hgr.block _ (lt_of_heap hb0) nofun).trans hb0
    replace hb1 := (hgr.block _ (lt_of_heap hb1) nofun).trans hb1
    replace hb2 := (hgr.block _ (lt_of_heap hb2) nofun).trans hb2
    replace hg78_5 := (hgr.block _ (lt_of_heap hg78_5) nofun).trans hg78_5
    replace hg78_6 := (hgr.block _ (lt_of_heap hg78_6) nofun).trans hg78_6
    replace hg78_7 := (hgr.block _ (lt_of_heap hg78_7) nofun).trans hg78_7
    replace hg78_8 := (hgr.block _ (lt_of_heap hg78_8) nofun).trans hg78_8
    replace hg78_9 := (hgr.block _ (lt_of_heap hg78_9) nofun).trans hg78_9
    replace hg78_10 := (hgr.block _ (lt_of_heap hg78_10) nofun).trans hg78_10
    replace hg78_11 := (hgr.block _ (lt_of_heap hg78_11) nofun).trans hg78_11
    replace hg78_12 := (hgr.block _ (lt_of_heap hg78_12) nofun).trans hg78_12
    replace hg78_13 := (hgr.block _ (lt_of_heap hg78_13) nofun).trans hg78_13
    replace hg78_14 := (hgr.block _ (lt_of_heap hg78_14) nofun).trans hg78_14
    replace hB := below_none hB hgr
    have ha_ : putAll' c.a0 (c.L G) = { tmps := #[.agg #[.int .u64 X1, .int .u64 Y1, .int .u64 Z1], .agg #[.int .u64 X2, .int .u64 Y2, .int .u64 Z2], .pointer (some ⟨w.heap.size, 0, none⟩), .pointer (some ⟨w.heap.size + 1, 0, none⟩), .pointer (some ⟨w.heap.size + 1 + 1, 0, none⟩), .pointer (some ⟨g78_5, 0, none⟩), .pointer (some ⟨g78_6, 0, none⟩), .pointer (some ⟨g78_7, 0, none⟩), .pointer (some ⟨g78_8, 0, none⟩), .pointer (some ⟨g78_9, 0, none⟩), .pointer (some ⟨g78_10, 0, none⟩), .pointer (some ⟨g78_11, 0, none⟩), .pointer (some ⟨g78_12, 0, none⟩), .pointer (some ⟨g78_13, 0, none⟩), .pointer (some ⟨g78_14, 0, none⟩), .pointer (some ⟨G 3, 0, none⟩), undef, .bool false, .pointer (some ⟨w.heap.size, 2, none⟩), .pointer (some ⟨w.heap.size, 2, none⟩), .int .u64 Z1, .bool false, undef, .bool false, .pointer (some ⟨w.heap.size + 1, 2, none⟩), .pointer (some ⟨w.heap.size + 1, 2, none⟩), .int .u64 Z2, .bool false, undef, .pointer (some ⟨w.heap.size, 2, none⟩), .agg #[.int .u64 Z1], .pointer (some ⟨w.heap.size, 2, none⟩), .agg #[.int .u64 Z1], .agg #[.int .u64 t78_33], .pointer (some ⟨w.heap.size + 1, 2, none⟩), .agg #[.int .u64 Z2], .pointer (some ⟨w.heap.size + 1, 2, none⟩), .agg #[.int .u64 Z2], .agg #[.int .u64 t78_38], .pointer (some ⟨w.heap.size, 0, none⟩), .agg #[.int .u64 X1], .agg #[.int .u64 t78_38], .agg #[.int .u64 t78_42], .pointer (some ⟨w.heap.size + 1, 0, none⟩), .agg #[.int .u64 X2], .agg #[.int .u64 t78_33], .agg #[.int .u64 t78_46], .pointer (some ⟨w.heap.size, 1, none⟩), .agg #[.int .u64 Y1], .agg #[.int .u64 t78_38], .agg #[.int .u64 t78_50], .pointer (some ⟨w.heap.size + 1, 2, none⟩), .agg #[.int .u64 Z2], .agg #[.int .u64 t78_53], .pointer (some ⟨w.heap.size + 1, 1, none⟩), .agg #[.int .u64 Y2], .agg #[.int .u64 t78_33], .agg #[.int .u64 t78_57], .pointer (some ⟨w.heap.size, 2, none⟩), .agg #[.int .u64 Z1], .agg #[.int .u64 t78_60], .agg #[.int .u64 t78_46], .agg #[.int .u64 t78_42], .agg #[.int .u64 t78_63], .agg #[.int .u64 t78_60], .agg #[.int .u64 t78_53], .agg #[.int .u64 t78_66], .pointer (some ⟨g78_11, 0, none⟩), .int .u64 t78_63, .bool false, undef, undef, undef, undef, undef, undef, undef, undef, undef, .agg #[.int .u64 t78_63], .agg #[.int .u64 t78_63], .agg #[.int .u64 t78_81], .agg #[.int .u64 t78_81], .agg #[.int .u64 t78_63], .agg #[.int .u64 t78_84], .agg #[.int .u64 t78_42], .agg #[.int .u64 t78_81], .agg #[.int .u64 t78_87], undef, undef, undef, undef, undef, undef, undef, undef, undef, undef, undef, undef, undef, undef, undef, undef, undef, undef, undef, undef, undef, undef, undef, undef, undef, undef, undef], defers := [] } := by kernel_rfl
    rw [ha_]
    clear ha_
    generalize G 3 = g78_15 at *
    have ng78_15 : some g78_15 ≠ some (w.heap.size + 1 + 1) := by intro e_; injection e_; omega
    clear c hE hR hgr hr_
    refine hK _ _ ?_
    clear hK K
    refine wp_seq_k fun K hK => ?_
    obtain ⟨t78_90, et78_90⟩ : ∃ t, t = tm t78_66 t78_66 := ⟨_, rfl⟩
    have it78_90 : In t78_90 := by rw [et78_90]; exact in_tm _ _
    obtain ⟨t78_92, et78_92⟩ : ∃ t, t = mi t78_90 t78_84 := ⟨_, rfl⟩
    have it78_92 : In t78_92 := by rw [et78_92]; exact in_mi _ _
    obtain ⟨t78_94, et78_94⟩ : ∃ t, t = mi t78_92 t78_87 := ⟨_, rfl⟩
    have it78_94 : In t78_94 := by rw [et78_94]; exact in_mi _ _
    obtain ⟨t78_96, et78_96⟩ : ∃ t, t = mi t78_94 t78_87 := ⟨_, rfl⟩
    have it78_96 : In t78_96 := by rw [et78_96]; exact in_mi _ _
    obtain ⟨W19, eW19⟩ : ∃ W_, W_ = V18.drew := ⟨_, rfl⟩
    replace hb0 := (show W19.heap[w.heap.size]? = V18.heap[w.heap.size]? by rw [eW19]; rfl).trans hb0
    replace hb1 := (show W19.heap[w.heap.size + 1]? = V18.heap[w.heap.size + 1]? by rw [eW19]; rfl).trans hb1
    replace hb2 := (show W19.heap[w.heap.size + 1 + 1]? = V18.heap[w.heap.size + 1 + 1]? by rw [eW19]; rfl).trans hb2
    replace hg78_5 := (show W19.heap[g78_5]? = V18.heap[g78_5]? by rw [eW19]; rfl).trans hg78_5
    replace hg78_6 := (show W19.heap[g78_6]? = V18.heap[g78_6]? by rw [eW19]; rfl).trans hg78_6
    replace hg78_7 := (show W19.heap[g78_7]? = V18.heap[g78_7]? by rw [eW19]; rfl).trans hg78_7
    replace hg78_8 := (show W19.heap[g78_8]? = V18.heap[g78_8]? by rw [eW19]; rfl).trans hg78_8
    replace hg78_9 := (show W19.heap[g78_9]? = V18.heap[g78_9]? by rw [eW19]; rfl).trans hg78_9
    replace hg78_10 := (show W19.heap[g78_10]? = V18.heap[g78_10]? by rw [eW19]; rfl).trans hg78_10
    replace hg78_11 := (show W19.heap[g78_11]? = V18.heap[g78_11]? by rw [eW19]; rfl).trans hg78_11
    replace hg78_12 := (show W19.heap[g78_12]? = V18.heap[g78_12]? by rw [eW19]; rfl).trans hg78_12
    replace hg78_13 := (show W19.heap[g78_13]? = V18.heap[g78_13]? by rw [eW19]; rfl).trans hg78_13
    replace hg78_14 := (show W19.heap[g78_14]? = V18.heap[g78_14]? by rw [eW19]; rfl).trans hg78_14
    replace hg78_15 := (show W19.heap[g78_15]? = V18.heap[g78_15]? by rw [eW19]; rfl).trans hg78_15
    replace hB : Below w.heap.size w W19 := by rw [eW19]; exact below_drew' hB
    have hr_ := lt_of_heap hb2
    let c : Cfg := ⟨{ tmps := #[.agg #[.int .u64 X1, .int .u64 Y1, .int .u64 Z1], .agg #[.int .u64 X2, .int .u64 Y2, .int .u64 Z2], .pointer (some ⟨w.heap.size, 0, none⟩), .pointer (some ⟨w.heap.size + 1, 0, none⟩), .pointer (some ⟨w.heap.size + 1 + 1, 0, none⟩), .pointer (some ⟨g78_5, 0, none⟩), .pointer (some ⟨g78_6, 0, none⟩), .pointer (some ⟨g78_7, 0, none⟩), .pointer (some ⟨g78_8, 0, none⟩), .pointer (some ⟨g78_9, 0, none⟩), .pointer (some ⟨g78_10, 0, none⟩), .pointer (some ⟨g78_11, 0, none⟩), .pointer (some ⟨g78_12, 0, none⟩), .pointer (some ⟨g78_13, 0, none⟩), .pointer (some ⟨g78_14, 0, none⟩), .pointer (some ⟨g78_15, 0, none⟩), undef, .bool false, .pointer (some ⟨w.heap.size, 2, none⟩), .pointer (some ⟨w.heap.size, 2, none⟩), .int .u64 Z1, .bool false, undef, .bool false, .pointer (some ⟨w.heap.size + 1, 2, none⟩), .pointer (some ⟨w.heap.size + 1, 2, none⟩), .int .u64 Z2, .bool false, undef, .pointer (some ⟨w.heap.size, 2, none⟩), .agg #[.int .u64 Z1], .pointer (some ⟨w.heap.size, 2, none⟩), .agg #[.int .u64 Z1], .agg #[.int .u64 t78_33], .pointer (some ⟨w.heap.size + 1, 2, none⟩), .agg #[.int .u64 Z2], .pointer (some ⟨w.heap.size + 1, 2, none⟩), .agg #[.int .u64 Z2], .agg #[.int .u64 t78_38], .pointer (some ⟨w.heap.size, 0, none⟩), .agg #[.int .u64 X1], .agg #[.int .u64 t78_38], .agg #[.int .u64 t78_42], .pointer (some ⟨w.heap.size + 1, 0, none⟩), .agg #[.int .u64 X2], .agg #[.int .u64 t78_33], .agg #[.int .u64 t78_46], .pointer (some ⟨w.heap.size, 1, none⟩), .agg #[.int .u64 Y1], .agg #[.int .u64 t78_38], .agg #[.int .u64 t78_50], .pointer (some ⟨w.heap.size + 1, 2, none⟩), .agg #[.int .u64 Z2], .agg #[.int .u64 t78_53], .pointer (some ⟨w.heap.size + 1, 1, none⟩), .agg #[.int .u64 Y2], .agg #[.int .u64 t78_33], .agg #[.int .u64 t78_57], .pointer (some ⟨w.heap.size, 2, none⟩), .agg #[.int .u64 Z1], .agg #[.int .u64 t78_60], .agg #[.int .u64 t78_46], .agg #[.int .u64 t78_42], .agg #[.int .u64 t78_63], .agg #[.int .u64 t78_60], .agg #[.int .u64 t78_53], .agg #[.int .u64 t78_66], .pointer (some ⟨g78_11, 0, none⟩), .int .u64 t78_63, .bool false, undef, undef, undef, undef, undef, undef, undef, undef, undef, .agg #[.int .u64 t78_63], .agg #[.int .u64 t78_63], .agg #[.int .u64 t78_81], .agg #[.int .u64 t78_81], .agg #[.int .u64 t78_63], .agg #[.int .u64 t78_84], .agg #[.int .u64 t78_42], .agg #[.int .u64 t78_81], .agg #[.int .u64 t78_87], undef, undef, undef, undef, undef, undef, undef, undef, undef, undef, undef, undef, undef, undef, undef, undef, undef, undef, undef, undef, undef, undef, undef, undef, undef, undef, undef], defers := [] }, W19, none, fun G => [(0, 88, .agg #[.int .u64 t78_66]), (1, 89, .agg #[.int .u64 t78_66]), (2, 90, .agg #[.int .u64 t78_90]), (3, 91, .agg #[.int .u64 t78_84]), (4, 92, .agg #[.int .u64 t78_92]), (5, 93, .agg #[.int .u64 t78_87]), (6, 94, .agg #[.int .u64 t78_94]), (7, 95, .agg #[.int .u64 t78_87]), (8, 96, .agg #[.int .u64 t78_96]), (9, 16, .pointer (some ⟨G 9, 0, none⟩))], [(9, 10, .int .u64 t78_96)], 85, []⟩
    refine drawn_region (IB c) (n := 11) rfl rfl tab78_16 bits78_16 (by kernel_rfl) (by kernel_rfl) (by rw [← eW19]; exact (start_IB c (by intro x hx; cases hx))) ?_ (end_IB c (by intro G e he; exact List.all_eq_true.1 (show ((c.L G).all fun e => (List.range 11).contains e.1) = true from rfl) e he) (by intro e he; have := List.all_eq_true.1 (show (c.E.all fun e => (List.range 11).contains e.1 && (List.range 11).contains e.2.1) = true from rfl) e he; simpa using this) (by intro x hx; exact List.all_eq_true.1 (show (c.R.all fun x => (List.range 11).contains x.1) = true from rfl) x hx) ?_)
    · show ∀ i ∈ [0, 1, 2, 3, 4, 5, 6, 7, 8, 9, 10], StepAt _ _ _ _ _ (IB c) i
      refine steps_cons (step_val c 0 0 _ 88 (.agg #[.int .u64 t78_66]) rfl rfl rfl (fun _ => rfl) (fun _ => rfl) rfl rfl (fun G b w_ hon hg => load_num (.tmp 12) rfl (g78_12) 0 (eval_of ((putSel_off rfl).trans rfl)) ((old_cell hg hg78_12 nofun 0).trans rfl))) ?_
      refine steps_cons (step_val c 1 1 _ 89 (.agg #[.int .u64 t78_66]) rfl rfl rfl (fun _ => rfl) (fun _ => rfl) rfl rfl (fun G b w_ hon hg => load_num (.tmp 12) rfl (g78_12) 0 (eval_of ((putSel_off rfl).trans rfl)) ((old_cell hg hg78_12 nofun 0).trans rfl))) ?_
      refine steps_cons (step_call c 2 2 _ 90 (.agg #[.int .u64 t78_90]) rfl rfl rfl (fun _ => rfl) (fun _ => rfl) rfl rfl Tryd.func111 rfl rfl rfl #[.agg #[.int .u64 t78_66], .agg #[.int .u64 t78_66]] (fun G b hon => by rw [show (#[.tmp 88, .tmp 89] : Array Operand).map (putSel c.a0 b (c.L G)).eval = #[(putSel c.a0 b (c.L G)).eval (.tmp 88), (putSel c.a0 b (c.L G)).eval (.tmp 89)] from by simp only [List.map_toArray, List.map_cons, List.map_nil], show (putSel c.a0 b (c.L G)).eval (.tmp 88) = .agg #[.int .u64 t78_66] from (eval_of (putSel_on (e := (0, 88, .agg #[.int .u64 t78_66])) 0 rfl rfl (hon 0 rfl) rfl)), show (putSel c.a0 b (c.L G)).eval (.tmp 89) = .agg #[.int .u64 t78_66] from (eval_of (putSel_on (e := (1, 89, .agg #[.int .u64 t78_66])) 1 rfl rfl (hon 1 rfl) rfl))]) (fun w_ => by rw [et78_90]; exact times_c it78_66 it78_66 w_)) ?_
      refine steps_cons (step_val c 3 3 _ 91 (.agg #[.int .u64 t78_84]) rfl rfl rfl (fun _ => rfl) (fun _ => rfl) rfl rfl (fun G b w_ hon hg => load_num (.tmp 14) rfl (g78_14) 0 (eval_of ((putSel_off rfl).trans rfl)) ((old_cell hg hg78_14 nofun 0).trans rfl))) ?_
      refine steps_cons (step_call c 4 4 _ 92 (.agg #[.int .u64 t78_92]) rfl rfl rfl (fun _ => rfl) (fun _ => rfl) rfl rfl Tryd.func120 rfl rfl rfl #[.agg #[.int .u64 t78_90], .agg #[.int .u64 t78_84]] (fun G b hon => by rw [show (#[.tmp 90, .tmp 91] : Array Operand).map (putSel c.a0 b (c.L G)).eval = #[(putSel c.a0 b (c.L G)).eval (.tmp 90), (putSel c.a0 b (c.L G)).eval (.tmp 91)] from by simp only [List.map_toArray, List.map_cons, List.map_nil], show (putSel c.a0 b (c.L G)).eval (.tmp 90) = .agg #[.int .u64 t78_90] from (eval_of (putSel_on (e := (2, 90, .agg #[.int .u64 t78_90])) 2 rfl rfl (hon 2 rfl) rfl)), show (putSel c.a0 b (c.L G)).eval (.tmp 91) = .agg #[.int .u64 t78_84] from (eval_of (putSel_on (e := (3, 91, .agg #[.int .u64 t78_84])) 3 rfl rfl (hon 3 rfl) rfl))]) (fun w_ => by rw [et78_92]; exact minus_c it78_90 it78_84 w_)) ?_
      refine steps_cons (step_val c 5 5 _ 93 (.agg #[.int .u64 t78_87]) rfl rfl rfl (fun _ => rfl) (fun _ => rfl) rfl rfl (fun G b w_ hon hg => load_num (.tmp 15) rfl (g78_15) 0 (eval_of ((putSel_off rfl).trans rfl)) ((old_cell hg hg78_15 nofun 0).trans rfl))) ?_
      refine steps_cons (step_call c 6 6 _ 94 (.agg #[.int .u64 t78_94]) rfl rfl rfl (fun _ => rfl) (fun _ => rfl) rfl rfl Tryd.func120 rfl rfl rfl #[.agg #[.int .u64 t78_92], .agg #[.int .u64 t78_87]] (fun G b hon => by rw [show (#[.tmp 92, .tmp 93] : Array Operand).map (putSel c.a0 b (c.L G)).eval = #[(putSel c.a0 b (c.L G)).eval (.tmp 92), (putSel c.a0 b (c.L G)).eval (.tmp 93)] from by simp only [List.map_toArray, List.map_cons, List.map_nil], show (putSel c.a0 b (c.L G)).eval (.tmp 92) = .agg #[.int .u64 t78_92] from (eval_of (putSel_on (e := (4, 92, .agg #[.int .u64 t78_92])) 4 rfl rfl (hon 4 rfl) rfl)), show (putSel c.a0 b (c.L G)).eval (.tmp 93) = .agg #[.int .u64 t78_87] from (eval_of (putSel_on (e := (5, 93, .agg #[.int .u64 t78_87])) 5 rfl rfl (hon 5 rfl) rfl))]) (fun w_ => by rw [et78_94]; exact minus_c it78_92 it78_87 w_)) ?_
      refine steps_cons (step_val c 7 7 _ 95 (.agg #[.int .u64 t78_87]) rfl rfl rfl (fun _ => rfl) (fun _ => rfl) rfl rfl (fun G b w_ hon hg => load_num (.tmp 15) rfl (g78_15) 0 (eval_of ((putSel_off rfl).trans rfl)) ((old_cell hg hg78_15 nofun 0).trans rfl))) ?_
      refine steps_cons (step_call c 8 8 _ 96 (.agg #[.int .u64 t78_96]) rfl rfl rfl (fun _ => rfl) (fun _ => rfl) rfl rfl Tryd.func120 rfl rfl rfl #[.agg #[.int .u64 t78_94], .agg #[.int .u64 t78_87]] (fun G b hon => by rw [show (#[.tmp 94, .tmp 95] : Array Operand).map (putSel c.a0 b (c.L G)).eval = #[(putSel c.a0 b (c.L G)).eval (.tmp 94), (putSel c.a0 b (c.L G)).eval (.tmp 95)] from by simp only [List.map_toArray, List.map_cons, List.map_nil], show (putSel c.a0 b (c.L G)).eval (.tmp 94) = .agg #[.int .u64 t78_94] from (eval_of (putSel_on (e := (6, 94, .agg #[.int .u64 t78_94])) 6 rfl rfl (hon 6 rfl) rfl)), show (putSel c.a0 b (c.L G)).eval (.tmp 95) = .agg #[.int .u64 t78_87] from (eval_of (putSel_on (e := (7, 95, .agg #[.int .u64 t78_87])) 7 rfl rfl (hon 7 rfl) rfl))]) (fun w_ => by rw [et78_96]; exact minus_c it78_94 it78_87 w_)) ?_
      refine steps_cons (step_alloc c 9 9 10 _ 16 undef rfl rfl rfl (fun _ => rfl) (fun _ _ => rfl) (fun _ => rfl) rfl rfl rfl (alloc_num rfl)) ?_
      refine steps_cons (step_store c 10 9 _ (.int .u64 t78_96) rfl rfl rfl (fun _ => rfl) rfl rfl 0 rfl rfl rfl (fun G b w_ hon hb => store_num (.tmp 16) (.tmp 96) rfl (G 9) (eval_of (putSel_on (e := (9, 16, .pointer (some ⟨G 9, 0, none⟩))) 9 rfl rfl (hon 9 rfl) rfl)) (eval_of (putSel_on (e := (8, 96, .agg #[.int .u64 t78_96])) 8 rfl rfl (hon 8 rfl) rfl)) hb.choose_spec)) ?_
      exact steps_nil
    intro G V19 hgr hE hR
    obtain ⟨lg78_16, hg78_16⟩ := hE (9, 10, .int .u64 t78_96) (by simp [c])
    dsimp only [c] at lg78_16 hg78_16
    replace hb0 := (hgr.block _ (lt_of_heap hb0) nofun).trans hb0
    replace hb1 := (hgr.block _ (lt_of_heap hb1) nofun).trans hb1
    replace hb2 := (hgr.block _ (lt_of_heap hb2) nofun).trans hb2
    replace hg78_5 := (hgr.block _ (lt_of_heap hg78_5) nofun).trans hg78_5
    replace hg78_6 := (hgr.block _ (lt_of_heap hg78_6) nofun).trans hg78_6
    replace hg78_7 := (hgr.block _ (lt_of_heap hg78_7) nofun).trans hg78_7
    replace hg78_8 := (hgr.block _ (lt_of_heap hg78_8) nofun).trans hg78_8
    replace hg78_9 := (hgr.block _ (lt_of_heap hg78_9) nofun).trans hg78_9
    replace hg78_10 := (hgr.block _ (lt_of_heap hg78_10) nofun).trans hg78_10
    replace hg78_11 := (hgr.block _ (lt_of_heap hg78_11) nofun).trans hg78_11
    replace hg78_12 := (hgr.block _ (lt_of_heap hg78_12) nofun).trans hg78_12
    replace hg78_13 := (hgr.block _ (lt_of_heap hg78_13) nofun).trans hg78_13
    replace hg78_14 := (hgr.block _ (lt_of_heap hg78_14) nofun).trans hg78_14
    replace hg78_15 := (hgr.block _ (lt_of_heap hg78_15) nofun).trans hg78_15
    replace hB := below_none hB hgr
    have ha_ : putAll' c.a0 (c.L G) = { tmps := #[.agg #[.int .u64 X1, .int .u64 Y1, .int .u64 Z1], .agg #[.int .u64 X2, .int .u64 Y2, .int .u64 Z2], .pointer (some ⟨w.heap.size, 0, none⟩), .pointer (some ⟨w.heap.size + 1, 0, none⟩), .pointer (some ⟨w.heap.size + 1 + 1, 0, none⟩), .pointer (some ⟨g78_5, 0, none⟩), .pointer (some ⟨g78_6, 0, none⟩), .pointer (some ⟨g78_7, 0, none⟩), .pointer (some ⟨g78_8, 0, none⟩), .pointer (some ⟨g78_9, 0, none⟩), .pointer (some ⟨g78_10, 0, none⟩), .pointer (some ⟨g78_11, 0, none⟩), .pointer (some ⟨g78_12, 0, none⟩), .pointer (some ⟨g78_13, 0, none⟩), .pointer (some ⟨g78_14, 0, none⟩), .pointer (some ⟨g78_15, 0, none⟩), .pointer (some ⟨G 9, 0, none⟩), .bool false, .pointer (some ⟨w.heap.size, 2, none⟩), .pointer (some ⟨w.heap.size, 2, none⟩), .int .u64 Z1, .bool false, undef, .bool false, .pointer (some ⟨w.heap.size + 1, 2, none⟩), .pointer (some ⟨w.heap.size + 1, 2, none⟩), .int .u64 Z2, .bool false, undef, .pointer (some ⟨w.heap.size, 2, none⟩), .agg #[.int .u64 Z1], .pointer (some ⟨w.heap.size, 2, none⟩), .agg #[.int .u64 Z1], .agg #[.int .u64 t78_33], .pointer (some ⟨w.heap.size + 1, 2, none⟩), .agg #[.int .u64 Z2], .pointer (some ⟨w.heap.size + 1, 2, none⟩), .agg #[.int .u64 Z2], .agg #[.int .u64 t78_38], .pointer (some ⟨w.heap.size, 0, none⟩), .agg #[.int .u64 X1], .agg #[.int .u64 t78_38], .agg #[.int .u64 t78_42], .pointer (some ⟨w.heap.size + 1, 0, none⟩), .agg #[.int .u64 X2], .agg #[.int .u64 t78_33], .agg #[.int .u64 t78_46], .pointer (some ⟨w.heap.size, 1, none⟩), .agg #[.int .u64 Y1], .agg #[.int .u64 t78_38], .agg #[.int .u64 t78_50], .pointer (some ⟨w.heap.size + 1, 2, none⟩), .agg #[.int .u64 Z2], .agg #[.int .u64 t78_53], .pointer (some ⟨w.heap.size + 1, 1, none⟩), .agg #[.int .u64 Y2], .agg #[.int .u64 t78_33], .agg #[.int .u64 t78_57], .pointer (some ⟨w.heap.size, 2, none⟩), .agg #[.int .u64 Z1], .agg #[.int .u64 t78_60], .agg #[.int .u64 t78_46], .agg #[.int .u64 t78_42], .agg #[.int .u64 t78_63], .agg #[.int .u64 t78_60], .agg #[.int .u64 t78_53], .agg #[.int .u64 t78_66], .pointer (some ⟨g78_11, 0, none⟩), .int .u64 t78_63, .bool false, undef, undef, undef, undef, undef, undef, undef, undef, undef, .agg #[.int .u64 t78_63], .agg #[.int .u64 t78_63], .agg #[.int .u64 t78_81], .agg #[.int .u64 t78_81], .agg #[.int .u64 t78_63], .agg #[.int .u64 t78_84], .agg #[.int .u64 t78_42], .agg #[.int .u64 t78_81], .agg #[.int .u64 t78_87], .agg #[.int .u64 t78_66], .agg #[.int .u64 t78_66], .agg #[.int .u64 t78_90], .agg #[.int .u64 t78_84], .agg #[.int .u64 t78_92], .agg #[.int .u64 t78_87], .agg #[.int .u64 t78_94], .agg #[.int .u64 t78_87], .agg #[.int .u64 t78_96], undef, undef, undef, undef, undef, undef, undef, undef, undef, undef, undef, undef, undef, undef, undef, undef, undef, undef], defers := [] } := by kernel_rfl
    rw [ha_]
    clear ha_
    generalize G 9 = g78_16 at *
    have ng78_16 : some g78_16 ≠ some (w.heap.size + 1 + 1) := by intro e_; injection e_; omega
    clear c hE hR hgr hr_ eW19
    refine hK _ _ ?_
    clear hK K
    refine wp_seq_k fun K hK => ?_
    obtain ⟨t78_101, et78_101⟩ : ∃ t, t = mi t78_87 t78_96 := ⟨_, rfl⟩
    have it78_101 : In t78_101 := by rw [et78_101]; exact in_mi _ _
    obtain ⟨t78_102, et78_102⟩ : ∃ t, t = tm t78_66 t78_101 := ⟨_, rfl⟩
    have it78_102 : In t78_102 := by rw [et78_102]; exact in_tm _ _
    obtain ⟨t78_105, et78_105⟩ : ∃ t, t = tm t78_53 t78_84 := ⟨_, rfl⟩
    have it78_105 : In t78_105 := by rw [et78_105]; exact in_tm _ _
    obtain ⟨t78_106, et78_106⟩ : ∃ t, t = mi t78_102 t78_105 := ⟨_, rfl⟩
    have it78_106 : In t78_106 := by rw [et78_106]; exact in_mi _ _
    obtain ⟨t78_110, et78_110⟩ : ∃ t, t = tm t78_63 Z1 := ⟨_, rfl⟩
    have it78_110 : In t78_110 := by rw [et78_110]; exact in_tm _ _
    obtain ⟨t78_113, et78_113⟩ : ∃ t, t = tm t78_110 Z2 := ⟨_, rfl⟩
    have it78_113 : In t78_113 := by rw [et78_113]; exact in_tm _ _
    obtain ⟨W20, eW20⟩ : ∃ W_, W_ = V19.drew := ⟨_, rfl⟩
    replace hb0 := (show W20.heap[w.heap.size]? = V19.heap[w.heap.size]? by rw [eW20]; rfl).trans hb0
    replace hb1 := (show W20.heap[w.heap.size + 1]? = V19.heap[w.heap.size + 1]? by rw [eW20]; rfl).trans hb1
    replace hb2 := (show W20.heap[w.heap.size + 1 + 1]? = V19.heap[w.heap.size + 1 + 1]? by rw [eW20]; rfl).trans hb2
    replace hg78_5 := (show W20.heap[g78_5]? = V19.heap[g78_5]? by rw [eW20]; rfl).trans hg78_5
    replace hg78_6 := (show W20.heap[g78_6]? = V19.heap[g78_6]? by rw [eW20]; rfl).trans hg78_6
    replace hg78_7 := (show W20.heap[g78_7]? = V19.heap[g78_7]? by rw [eW20]; rfl).trans hg78_7
    replace hg78_8 := (show W20.heap[g78_8]? = V19.heap[g78_8]? by rw [eW20]; rfl).trans hg78_8
    replace hg78_9 := (show W20.heap[g78_9]? = V19.heap[g78_9]? by rw [eW20]; rfl).trans hg78_9
    replace hg78_10 := (show W20.heap[g78_10]? = V19.heap[g78_10]? by rw [eW20]; rfl).trans hg78_10
    replace hg78_11 := (show W20.heap[g78_11]? = V19.heap[g78_11]? by rw [eW20]; rfl).trans hg78_11
    replace hg78_12 := (show W20.heap[g78_12]? = V19.heap[g78_12]? by rw [eW20]; rfl).trans hg78_12
    replace hg78_13 := (show W20.heap[g78_13]? = V19.heap[g78_13]? by rw [eW20]; rfl).trans hg78_13
    replace hg78_14 := (show W20.heap[g78_14]? = V19.heap[g78_14]? by rw [eW20]; rfl).trans hg78_14
    replace hg78_15 := (show W20.heap[g78_15]? = V19.heap[g78_15]? by rw [eW20]; rfl).trans hg78_15
    replace hg78_16 := (show W20.heap[g78_16]? = V19.heap[g78_16]? by rw [eW20]; rfl).trans hg78_16
    replace hB : Below w.heap.size w W20 := by rw [eW20]; exact below_drew' hB
    have hr_ := lt_of_heap hb2
    let c : Cfg := ⟨{ tmps := #[.agg #[.int .u64 X1, .int .u64 Y1, .int .u64 Z1], .agg #[.int .u64 X2, .int .u64 Y2, .int .u64 Z2], .pointer (some ⟨w.heap.size, 0, none⟩), .pointer (some ⟨w.heap.size + 1, 0, none⟩), .pointer (some ⟨w.heap.size + 1 + 1, 0, none⟩), .pointer (some ⟨g78_5, 0, none⟩), .pointer (some ⟨g78_6, 0, none⟩), .pointer (some ⟨g78_7, 0, none⟩), .pointer (some ⟨g78_8, 0, none⟩), .pointer (some ⟨g78_9, 0, none⟩), .pointer (some ⟨g78_10, 0, none⟩), .pointer (some ⟨g78_11, 0, none⟩), .pointer (some ⟨g78_12, 0, none⟩), .pointer (some ⟨g78_13, 0, none⟩), .pointer (some ⟨g78_14, 0, none⟩), .pointer (some ⟨g78_15, 0, none⟩), .pointer (some ⟨g78_16, 0, none⟩), .bool false, .pointer (some ⟨w.heap.size, 2, none⟩), .pointer (some ⟨w.heap.size, 2, none⟩), .int .u64 Z1, .bool false, undef, .bool false, .pointer (some ⟨w.heap.size + 1, 2, none⟩), .pointer (some ⟨w.heap.size + 1, 2, none⟩), .int .u64 Z2, .bool false, undef, .pointer (some ⟨w.heap.size, 2, none⟩), .agg #[.int .u64 Z1], .pointer (some ⟨w.heap.size, 2, none⟩), .agg #[.int .u64 Z1], .agg #[.int .u64 t78_33], .pointer (some ⟨w.heap.size + 1, 2, none⟩), .agg #[.int .u64 Z2], .pointer (some ⟨w.heap.size + 1, 2, none⟩), .agg #[.int .u64 Z2], .agg #[.int .u64 t78_38], .pointer (some ⟨w.heap.size, 0, none⟩), .agg #[.int .u64 X1], .agg #[.int .u64 t78_38], .agg #[.int .u64 t78_42], .pointer (some ⟨w.heap.size + 1, 0, none⟩), .agg #[.int .u64 X2], .agg #[.int .u64 t78_33], .agg #[.int .u64 t78_46], .pointer (some ⟨w.heap.size, 1, none⟩), .agg #[.int .u64 Y1], .agg #[.int .u64 t78_38], .agg #[.int .u64 t78_50], .pointer (some ⟨w.heap.size + 1, 2, none⟩), .agg #[.int .u64 Z2], .agg #[.int .u64 t78_53], .pointer (some ⟨w.heap.size + 1, 1, none⟩), .agg #[.int .u64 Y2], .agg #[.int .u64 t78_33], .agg #[.int .u64 t78_57], .pointer (some ⟨w.heap.size, 2, none⟩), .agg #[.int .u64 Z1], .agg #[.int .u64 t78_60], .agg #[.int .u64 t78_46], .agg #[.int .u64 t78_42], .agg #[.int .u64 t78_63], .agg #[.int .u64 t78_60], .agg #[.int .u64 t78_53], .agg #[.int .u64 t78_66], .pointer (some ⟨g78_11, 0, none⟩), .int .u64 t78_63, .bool false, undef, undef, undef, undef, undef, undef, undef, undef, undef, .agg #[.int .u64 t78_63], .agg #[.int .u64 t78_63], .agg #[.int .u64 t78_81], .agg #[.int .u64 t78_81], .agg #[.int .u64 t78_63], .agg #[.int .u64 t78_84], .agg #[.int .u64 t78_42], .agg #[.int .u64 t78_81], .agg #[.int .u64 t78_87], .agg #[.int .u64 t78_66], .agg #[.int .u64 t78_66], .agg #[.int .u64 t78_90], .agg #[.int .u64 t78_84], .agg #[.int .u64 t78_92], .agg #[.int .u64 t78_87], .agg #[.int .u64 t78_94], .agg #[.int .u64 t78_87], .agg #[.int .u64 t78_96], undef, undef, undef, undef, undef, undef, undef, undef, undef, undef, undef, undef, undef, undef, undef, undef, undef, undef], defers := [] }, W20, some (w.heap.size + 1 + 1), fun G => [(0, 97, .agg #[.int .u64 t78_96]), (1, 98, .agg #[.int .u64 t78_66]), (2, 99, .agg #[.int .u64 t78_87]), (3, 100, .agg #[.int .u64 t78_96]), (4, 101, .agg #[.int .u64 t78_101]), (5, 102, .agg #[.int .u64 t78_102]), (6, 103, .agg #[.int .u64 t78_53]), (7, 104, .agg #[.int .u64 t78_84]), (8, 105, .agg #[.int .u64 t78_105]), (9, 106, .agg #[.int .u64 t78_106]), (10, 107, .agg #[.int .u64 t78_63]), (11, 108, .pointer (some ⟨w.heap.size, 2, none⟩)), (12, 109, .agg #[.int .u64 Z1]), (13, 110, .agg #[.int .u64 t78_110]), (14, 111, .pointer (some ⟨w.heap.size + 1, 2, none⟩)), (15, 112, .agg #[.int .u64 Z2]), (16, 113, .agg #[.int .u64 t78_113]), (17, 114, .agg #[.int .u64 t78_96, .int .u64 t78_106, .int .u64 t78_113])], [], 85, [(18, w.heap.size + 1 + 1, #[.int .u64 0, .int .u64 0, .int .u64 0], #[.int .u64 t78_96, .int .u64 t78_106, .int .u64 t78_113], 98)]⟩
    refine drawn_region (IB c) (n := 19) rfl rfl tab78_17 bits78_17 (by kernel_rfl) (by kernel_rfl) (by rw [← eW20]; exact (start_IB c (by intro x hx; obtain rfl := List.mem_singleton.1 hx; exact ⟨lt_of_heap hb2, hb2⟩))) ?_ (end_IB c (by intro G e he; exact List.all_eq_true.1 (show ((c.L G).all fun e => (List.range 19).contains e.1) = true from rfl) e he) (by intro e he; have := List.all_eq_true.1 (show (c.E.all fun e => (List.range 19).contains e.1 && (List.range 19).contains e.2.1) = true from rfl) e he; simpa using this) (by intro x hx; exact List.all_eq_true.1 (show (c.R.all fun x => (List.range 19).contains x.1) = true from rfl) x hx) ?_)
    · show ∀ i ∈ [0, 1, 2, 3, 4, 5, 6, 7, 8, 9, 10, 11, 12, 13, 14, 15, 16, 17, 18], StepAt _ _ _ _ _ (IB c) i
      refine steps_cons (step_val c 0 0 _ 97 (.agg #[.int .u64 t78_96]) rfl rfl rfl (fun _ => rfl) (fun _ => rfl) rfl rfl (fun G b w_ hon hg => load_num (.tmp 16) rfl (g78_16) 0 (eval_of ((putSel_off rfl).trans rfl)) ((old_cell hg hg78_16 ng78_16 0).trans rfl))) ?_
      refine steps_cons (step_val c 1 1 _ 98 (.agg #[.int .u64 t78_66]) rfl rfl rfl (fun _ => rfl) (fun _ => rfl) rfl rfl (fun G b w_ hon hg => load_num (.tmp 12) rfl (g78_12) 0 (eval_of ((putSel_off rfl).trans rfl)) ((old_cell hg hg78_12 ng78_12 0).trans rfl))) ?_
      refine steps_cons (step_val c 2 2 _ 99 (.agg #[.int .u64 t78_87]) rfl rfl rfl (fun _ => rfl) (fun _ => rfl) rfl rfl (fun G b w_ hon hg => load_num (.tmp 15) rfl (g78_15) 0 (eval_of ((putSel_off rfl).trans rfl)) ((old_cell hg hg78_15 ng78_15 0).trans rfl))) ?_
      refine steps_cons (step_val c 3 3 _ 100 (.agg #[.int .u64 t78_96]) rfl rfl rfl (fun _ => rfl) (fun _ => rfl) rfl rfl (fun G b w_ hon hg => load_num (.tmp 16) rfl (g78_16) 0 (eval_of ((putSel_off rfl).trans rfl)) ((old_cell hg hg78_16 ng78_16 0).trans rfl))) ?_
      refine steps_cons (step_call c 4 4 _ 101 (.agg #[.int .u64 t78_101]) rfl rfl rfl (fun _ => rfl) (fun _ => rfl) rfl rfl Tryd.func120 rfl rfl rfl #[.agg #[.int .u64 t78_87], .agg #[.int .u64 t78_96]] (fun G b hon => by rw [show (#[.tmp 99, .tmp 100] : Array Operand).map (putSel c.a0 b (c.L G)).eval = #[(putSel c.a0 b (c.L G)).eval (.tmp 99), (putSel c.a0 b (c.L G)).eval (.tmp 100)] from by simp only [List.map_toArray, List.map_cons, List.map_nil], show (putSel c.a0 b (c.L G)).eval (.tmp 99) = .agg #[.int .u64 t78_87] from (eval_of (putSel_on (e := (2, 99, .agg #[.int .u64 t78_87])) 2 rfl rfl (hon 2 rfl) rfl)), show (putSel c.a0 b (c.L G)).eval (.tmp 100) = .agg #[.int .u64 t78_96] from (eval_of (putSel_on (e := (3, 100, .agg #[.int .u64 t78_96])) 3 rfl rfl (hon 3 rfl) rfl))]) (fun w_ => by rw [et78_101]; exact minus_c it78_87 it78_96 w_)) ?_
      refine steps_cons (step_call c 5 5 _ 102 (.agg #[.int .u64 t78_102]) rfl rfl rfl (fun _ => rfl) (fun _ => rfl) rfl rfl Tryd.func111 rfl rfl rfl #[.agg #[.int .u64 t78_66], .agg #[.int .u64 t78_101]] (fun G b hon => by rw [show (#[.tmp 98, .tmp 101] : Array Operand).map (putSel c.a0 b (c.L G)).eval = #[(putSel c.a0 b (c.L G)).eval (.tmp 98), (putSel c.a0 b (c.L G)).eval (.tmp 101)] from by simp only [List.map_toArray, List.map_cons, List.map_nil], show (putSel c.a0 b (c.L G)).eval (.tmp 98) = .agg #[.int .u64 t78_66] from (eval_of (putSel_on (e := (1, 98, .agg #[.int .u64 t78_66])) 1 rfl rfl (hon 1 rfl) rfl)), show (putSel c.a0 b (c.L G)).eval (.tmp 101) = .agg #[.int .u64 t78_101] from (eval_of (putSel_on (e := (4, 101, .agg #[.int .u64 t78_101])) 4 rfl rfl (hon 4 rfl) rfl))]) (fun w_ => by rw [et78_102]; exact times_c it78_66 it78_101 w_)) ?_
      refine steps_cons (step_val c 6 6 _ 103 (.agg #[.int .u64 t78_53]) rfl rfl rfl (fun _ => rfl) (fun _ => rfl) rfl rfl (fun G b w_ hon hg => load_num (.tmp 9) rfl (g78_9) 0 (eval_of ((putSel_off rfl).trans rfl)) ((old_cell hg hg78_9 ng78_9 0).trans rfl))) ?_
      refine steps_cons (step_val c 7 7 _ 104 (.agg #[.int .u64 t78_84]) rfl rfl rfl (fun _ => rfl) (fun _ => rfl) rfl rfl (fun G b w_ hon hg => load_num (.tmp 14) rfl (g78_14) 0 (eval_of ((putSel_off rfl).trans rfl)) ((old_cell hg hg78_14 ng78_14 0).trans rfl))) ?_
      refine steps_cons (step_call c 8 8 _ 105 (.agg #[.int .u64 t78_105]) rfl rfl rfl (fun _ => rfl) (fun _ => rfl) rfl rfl Tryd.func111 rfl rfl rfl #[.agg #[.int .u64 t78_53], .agg #[.int .u64 t78_84]] (fun G b hon => by rw [show (#[.tmp 103, .tmp 104] : Array Operand).map (putSel c.a0 b (c.L G)).eval = #[(putSel c.a0 b (c.L G)).eval (.tmp 103), (putSel c.a0 b (c.L G)).eval (.tmp 104)] from by simp only [List.map_toArray, List.map_cons, List.map_nil], show (putSel c.a0 b (c.L G)).eval (.tmp 103) = .agg #[.int .u64 t78_53] from (eval_of (putSel_on (e := (6, 103, .agg #[.int .u64 t78_53])) 6 rfl rfl (hon 6 rfl) rfl)), show (putSel c.a0 b (c.L G)).eval (.tmp 104) = .agg #[.int .u64 t78_84] from (eval_of (putSel_on (e := (7, 104, .agg #[.int .u64 t78_84])) 7 rfl rfl (hon 7 rfl) rfl))]) (fun w_ => by rw [et78_105]; exact times_c it78_53 it78_84 w_)) ?_
      refine steps_cons (step_call c 9 9 _ 106 (.agg #[.int .u64 t78_106]) rfl rfl rfl (fun _ => rfl) (fun _ => rfl) rfl rfl Tryd.func120 rfl rfl rfl #[.agg #[.int .u64 t78_102], .agg #[.int .u64 t78_105]] (fun G b hon => by rw [show (#[.tmp 102, .tmp 105] : Array Operand).map (putSel c.a0 b (c.L G)).eval = #[(putSel c.a0 b (c.L G)).eval (.tmp 102), (putSel c.a0 b (c.L G)).eval (.tmp 105)] from by simp only [List.map_toArray, List.map_cons, List.map_nil], show (putSel c.a0 b (c.L G)).eval (.tmp 102) = .agg #[.int .u64 t78_102] from (eval_of (putSel_on (e := (5, 102, .agg #[.int .u64 t78_102])) 5 rfl rfl (hon 5 rfl) rfl)), show (putSel c.a0 b (c.L G)).eval (.tmp 105) = .agg #[.int .u64 t78_105] from (eval_of (putSel_on (e := (8, 105, .agg #[.int .u64 t78_105])) 8 rfl rfl (hon 8 rfl) rfl))]) (fun w_ => by rw [et78_106]; exact minus_c it78_102 it78_105 w_)) ?_
      refine steps_cons (step_val c 10 10 _ 107 (.agg #[.int .u64 t78_63]) rfl rfl rfl (fun _ => rfl) (fun _ => rfl) rfl rfl (fun G b w_ hon hg => load_num (.tmp 11) rfl (g78_11) 0 (eval_of ((putSel_off rfl).trans rfl)) ((old_cell hg hg78_11 ng78_11 0).trans rfl))) ?_
      refine steps_cons (step_val c 11 11 _ 108 (.pointer (some ⟨w.heap.size, 2, none⟩)) rfl rfl rfl (fun _ => rfl) (fun _ => rfl) rfl rfl (fun G b w_ hon hg => index_sp (.tmp 2) 2 (by decide) rfl rfl (w.heap.size) (eval_of ((putSel_off rfl).trans rfl)))) ?_
      refine steps_cons (step_val c 12 12 _ 109 (.agg #[.int .u64 Z1]) rfl rfl rfl (fun _ => rfl) (fun _ => rfl) rfl rfl (fun G b w_ hon hg => load_num (.tmp 108) rfl (w.heap.size) 2 (eval_of (putSel_on (e := (11, 108, .pointer (some ⟨w.heap.size, 2, none⟩))) 11 rfl rfl (hon 11 rfl) rfl)) ((old_cell hg hb0 n0 2).trans rfl))) ?_
      refine steps_cons (step_call c 13 13 _ 110 (.agg #[.int .u64 t78_110]) rfl rfl rfl (fun _ => rfl) (fun _ => rfl) rfl rfl Tryd.func111 rfl rfl rfl #[.agg #[.int .u64 t78_63], .agg #[.int .u64 Z1]] (fun G b hon => by rw [show (#[.tmp 107, .tmp 109] : Array Operand).map (putSel c.a0 b (c.L G)).eval = #[(putSel c.a0 b (c.L G)).eval (.tmp 107), (putSel c.a0 b (c.L G)).eval (.tmp 109)] from by simp only [List.map_toArray, List.map_cons, List.map_nil], show (putSel c.a0 b (c.L G)).eval (.tmp 107) = .agg #[.int .u64 t78_63] from (eval_of (putSel_on (e := (10, 107, .agg #[.int .u64 t78_63])) 10 rfl rfl (hon 10 rfl) rfl)), show (putSel c.a0 b (c.L G)).eval (.tmp 109) = .agg #[.int .u64 Z1] from (eval_of (putSel_on (e := (12, 109, .agg #[.int .u64 Z1])) 12 rfl rfl (hon 12 rfl) rfl))]) (fun w_ => by rw [et78_110]; exact times_c it78_63 hZ1 w_)) ?_
      refine steps_cons (step_val c 14 14 _ 111 (.pointer (some ⟨w.heap.size + 1, 2, none⟩)) rfl rfl rfl (fun _ => rfl) (fun _ => rfl) rfl rfl (fun G b w_ hon hg => index_sp (.tmp 3) 2 (by decide) rfl rfl (w.heap.size + 1) (eval_of ((putSel_off rfl).trans rfl)))) ?_
      refine steps_cons (step_val c 15 15 _ 112 (.agg #[.int .u64 Z2]) rfl rfl rfl (fun _ => rfl) (fun _ => rfl) rfl rfl (fun G b w_ hon hg => load_num (.tmp 111) rfl (w.heap.size + 1) 2 (eval_of (putSel_on (e := (14, 111, .pointer (some ⟨w.heap.size + 1, 2, none⟩))) 14 rfl rfl (hon 14 rfl) rfl)) ((old_cell hg hb1 n1 2).trans rfl))) ?_
      refine steps_cons (step_call c 16 16 _ 113 (.agg #[.int .u64 t78_113]) rfl rfl rfl (fun _ => rfl) (fun _ => rfl) rfl rfl Tryd.func111 rfl rfl rfl #[.agg #[.int .u64 t78_110], .agg #[.int .u64 Z2]] (fun G b hon => by rw [show (#[.tmp 110, .tmp 112] : Array Operand).map (putSel c.a0 b (c.L G)).eval = #[(putSel c.a0 b (c.L G)).eval (.tmp 110), (putSel c.a0 b (c.L G)).eval (.tmp 112)] from by simp only [List.map_toArray, List.map_cons, List.map_nil], show (putSel c.a0 b (c.L G)).eval (.tmp 110) = .agg #[.int .u64 t78_110] from (eval_of (putSel_on (e := (13, 110, .agg #[.int .u64 t78_110])) 13 rfl rfl (hon 13 rfl) rfl)), show (putSel c.a0 b (c.L G)).eval (.tmp 112) = .agg #[.int .u64 Z2] from (eval_of (putSel_on (e := (15, 112, .agg #[.int .u64 Z2])) 15 rfl rfl (hon 15 rfl) rfl))]) (fun w_ => by rw [et78_113]; exact times_c it78_110 hZ2 w_)) ?_
      refine steps_cons (step_val c 17 17 _ 114 (.agg #[.int .u64 t78_96, .int .u64 t78_106, .int .u64 t78_113]) rfl rfl rfl (fun _ => rfl) (fun _ => rfl) rfl rfl (fun G b w_ hon hg => build_sp (.tmp 97) (.tmp 106) (.tmp 113) rfl (eval_of (putSel_on (e := (0, 97, .agg #[.int .u64 t78_96])) 0 rfl rfl (hon 0 rfl) rfl)) (eval_of (putSel_on (e := (9, 106, .agg #[.int .u64 t78_106])) 9 rfl rfl (hon 9 rfl) rfl)) (eval_of (putSel_on (e := (16, 113, .agg #[.int .u64 t78_113])) 16 rfl rfl (hon 16 rfl) rfl)))) ?_
      refine steps_cons (step_back c 18 (w.heap.size + 1 + 1) _ _ _ _ rfl rfl rfl (fun _ => rfl) rfl rfl rfl (fun G b w_ hon hb hg => store_sp (.tmp 4) (.tmp 114) rfl (w.heap.size + 1 + 1) (eval_of ((putSel_off rfl).trans rfl)) (eval_of (putSel_on (e := (17, 114, .agg #[.int .u64 t78_96, .int .u64 t78_106, .int .u64 t78_113])) 17 rfl rfl (hon 17 rfl) rfl)) hb)) ?_
      exact steps_nil
    intro G V20 hgr hE hR
    have hres := hR _ (List.mem_singleton.2 rfl)
    dsimp only [c] at hres hgr
    have ha_ : putAll' c.a0 (c.L G) = { tmps := #[.agg #[.int .u64 X1, .int .u64 Y1, .int .u64 Z1], .agg #[.int .u64 X2, .int .u64 Y2, .int .u64 Z2], .pointer (some ⟨w.heap.size, 0, none⟩), .pointer (some ⟨w.heap.size + 1, 0, none⟩), .pointer (some ⟨w.heap.size + 1 + 1, 0, none⟩), .pointer (some ⟨g78_5, 0, none⟩), .pointer (some ⟨g78_6, 0, none⟩), .pointer (some ⟨g78_7, 0, none⟩), .pointer (some ⟨g78_8, 0, none⟩), .pointer (some ⟨g78_9, 0, none⟩), .pointer (some ⟨g78_10, 0, none⟩), .pointer (some ⟨g78_11, 0, none⟩), .pointer (some ⟨g78_12, 0, none⟩), .pointer (some ⟨g78_13, 0, none⟩), .pointer (some ⟨g78_14, 0, none⟩), .pointer (some ⟨g78_15, 0, none⟩), .pointer (some ⟨g78_16, 0, none⟩), .bool false, .pointer (some ⟨w.heap.size, 2, none⟩), .pointer (some ⟨w.heap.size, 2, none⟩), .int .u64 Z1, .bool false, undef, .bool false, .pointer (some ⟨w.heap.size + 1, 2, none⟩), .pointer (some ⟨w.heap.size + 1, 2, none⟩), .int .u64 Z2, .bool false, undef, .pointer (some ⟨w.heap.size, 2, none⟩), .agg #[.int .u64 Z1], .pointer (some ⟨w.heap.size, 2, none⟩), .agg #[.int .u64 Z1], .agg #[.int .u64 t78_33], .pointer (some ⟨w.heap.size + 1, 2, none⟩), .agg #[.int .u64 Z2], .pointer (some ⟨w.heap.size + 1, 2, none⟩), .agg #[.int .u64 Z2], .agg #[.int .u64 t78_38], .pointer (some ⟨w.heap.size, 0, none⟩), .agg #[.int .u64 X1], .agg #[.int .u64 t78_38], .agg #[.int .u64 t78_42], .pointer (some ⟨w.heap.size + 1, 0, none⟩), .agg #[.int .u64 X2], .agg #[.int .u64 t78_33], .agg #[.int .u64 t78_46], .pointer (some ⟨w.heap.size, 1, none⟩), .agg #[.int .u64 Y1], .agg #[.int .u64 t78_38], .agg #[.int .u64 t78_50], .pointer (some ⟨w.heap.size + 1, 2, none⟩), .agg #[.int .u64 Z2], .agg #[.int .u64 t78_53], .pointer (some ⟨w.heap.size + 1, 1, none⟩), .agg #[.int .u64 Y2], .agg #[.int .u64 t78_33], .agg #[.int .u64 t78_57], .pointer (some ⟨w.heap.size, 2, none⟩), .agg #[.int .u64 Z1], .agg #[.int .u64 t78_60], .agg #[.int .u64 t78_46], .agg #[.int .u64 t78_42], .agg #[.int .u64 t78_63], .agg #[.int .u64 t78_60], .agg #[.int .u64 t78_53], .agg #[.int .u64 t78_66], .pointer (some ⟨g78_11, 0, none⟩), .int .u64 t78_63, .bool false, undef, undef, undef, undef, undef, undef, undef, undef, undef, .agg #[.int .u64 t78_63], .agg #[.int .u64 t78_63], .agg #[.int .u64 t78_81], .agg #[.int .u64 t78_81], .agg #[.int .u64 t78_63], .agg #[.int .u64 t78_84], .agg #[.int .u64 t78_42], .agg #[.int .u64 t78_81], .agg #[.int .u64 t78_87], .agg #[.int .u64 t78_66], .agg #[.int .u64 t78_66], .agg #[.int .u64 t78_90], .agg #[.int .u64 t78_84], .agg #[.int .u64 t78_92], .agg #[.int .u64 t78_87], .agg #[.int .u64 t78_94], .agg #[.int .u64 t78_87], .agg #[.int .u64 t78_96], .agg #[.int .u64 t78_96], .agg #[.int .u64 t78_66], .agg #[.int .u64 t78_87], .agg #[.int .u64 t78_96], .agg #[.int .u64 t78_101], .agg #[.int .u64 t78_102], .agg #[.int .u64 t78_53], .agg #[.int .u64 t78_84], .agg #[.int .u64 t78_105], .agg #[.int .u64 t78_106], .agg #[.int .u64 t78_63], .pointer (some ⟨w.heap.size, 2, none⟩), .agg #[.int .u64 Z1], .agg #[.int .u64 t78_110], .pointer (some ⟨w.heap.size + 1, 2, none⟩), .agg #[.int .u64 Z2], .agg #[.int .u64 t78_113], .agg #[.int .u64 t78_96, .int .u64 t78_106, .int .u64 t78_113]], defers := [] } := by kernel_rfl
    rw [ha_]
    clear ha_
    have hv : plsN X1 Y1 Z1 X2 Y2 Z2 = (t78_96, t78_106, t78_113) := by clear hres hgr hE hR c; replace et78_33 := et78_33.out; replace et78_38 := et78_38.out; replace et78_42 := et78_42.out; replace et78_46 := et78_46.out; replace et78_50 := et78_50.out; replace et78_53 := et78_53.out; replace et78_57 := et78_57.out; replace et78_60 := et78_60.out; replace et78_63 := et78_63.out; replace et78_66 := et78_66.out; subst et78_113; subst et78_110; subst et78_106; subst et78_105; subst et78_102; subst et78_101; subst et78_96; subst et78_94; subst et78_92; subst et78_90; subst et78_87; subst et78_84; subst et78_81; subst et78_66; subst et78_63; subst et78_60; subst et78_57; subst et78_53; subst et78_50; subst et78_46; subst et78_42; subst et78_38; subst et78_33; rfl
    have h3 := h2.out
    rw [hv] at h3
    obtain ⟨v1_, v2_, v3_⟩ : t78_96 = r1 ∧ t78_106 = r2 ∧ t78_113 = r3 := by simpa using h3
    clear hv h3 h2
    refine hK _ _ ?_
    refine wp_ret ?_
    try simp only [Exit.inBlock, Exit.then]
    refine bodyPost_ret (results_cell_row rfl _ _ (w.heap.size + 1 + 1) 98 #[.int .u64 t78_96, .int .u64 t78_106, .int .u64 t78_113] (0, 0) _ rfl hres Tryd.underlying98 rfl (by kernel_rfl)) rfl ⟨?_, below_of_gb hB hgr (by omega) (by omega)⟩
    rw [v1_, v2_, v3_]
def impl_spatial_plus.f (X1 Y1 Z1 X2 Y2 Z2 : Int) : Option (Int × Int × Int) :=
  if 0 ≤ X1 ∧ X1 < 2305843009213693951 ∧ 0 ≤ Y1 ∧ Y1 < 2305843009213693951 ∧ 0 ≤ Z1 ∧ Z1 < 2305843009213693951 ∧ 0 ≤ X2 ∧ X2 < 2305843009213693951 ∧ 0 ≤ Y2 ∧ Y2 < 2305843009213693951 ∧ 0 ≤ Z2 ∧ Z2 < 2305843009213693951 then
    if Z1 = 0 then some (X2, Y2, Z2) else if Z2 = 0 then some (X1, Y1, Z1) else if hN X1 Z1 X2 Z2 = 0 then if rN Y1 Z1 Y2 Z2 = 0 then impl_spatial_double.f X1 Y1 Z1 else some (1, 1, 0) else some (plsN X1 Y1 Z1 X2 Y2 Z2)
  else none
theorem impl_spatial_plus.calls (X1 Y1 Z1 X2 Y2 Z2 r1 r2 r3 : Int) (w : World) (h : impl_spatial_plus.f X1 Y1 Z1 X2 Y2 Z2 = some (r1, r2, r3)) : Calls Tryd.prog 78 #[.agg #[.int .u64 X1, .int .u64 Y1, .int .u64 Z1], .agg #[.int .u64 X2, .int .u64 Y2, .int .u64 Z2]] w fun e w' => e = .returned (.agg #[.int .u64 (r1), .int .u64 (r2), .int .u64 (r3)]) ∧ Below w.heap.size w w' := by
  unfold impl_spatial_plus.f at h
  split at h
  case isFalse => cases h
  rename_i hh
  obtain ⟨h1, h2, h3, h4, h5, h6, k1, k2, k3, k4, k5, k6⟩ := hh
  split at h
  · rename_i hz
    obtain ⟨rfl, rfl, rfl⟩ : X2 = r1 ∧ Y2 = r2 ∧ Z2 = r3 := by simpa using h
    exact plus_a ⟨h1, h2⟩ ⟨h3, h4⟩ ⟨h5, h6⟩ ⟨k1, k2⟩ ⟨k3, k4⟩ ⟨k5, k6⟩ hz w
  · rename_i hz1
    split at h
    · rename_i hz
      obtain ⟨rfl, rfl, rfl⟩ : X1 = r1 ∧ Y1 = r2 ∧ Z1 = r3 := by simpa using h
      exact plus_b ⟨h1, h2⟩ ⟨h3, h4⟩ ⟨h5, h6⟩ ⟨k1, k2⟩ ⟨k3, k4⟩ ⟨k5, k6⟩ hz1 hz w
    · rename_i hz2
      exact plus_nz ⟨h1, h2⟩ ⟨h3, h4⟩ ⟨h5, h6⟩ ⟨k1, k2⟩ ⟨k3, k4⟩ ⟨k5, k6⟩ hz1 hz2 h w
end Go.Proofs.YtkefcokmghbmhaaDoor.CD
end
section
namespace Go.Proofs.YtkefcokmghbmhaaDoor.V2
open Go Go.Proofs.YtkefcokmghbmhaaDoor.C2 Go.Proofs.YtkefcokmghbmhaaDoor.CD Vi
set_option linter.unusedSimpArgs false
theorem tm_vi (a b : Fp) : tm (vi a) (vi b) = vi (a * b) := vi_mul a b
theorem ad_vi (a b : Fp) : ad (vi a) (vi b) = vi (a + b) := vi_add a b
theorem mi_vi (a b : Fp) : mi (vi a) (vi b) = vi (a - b) := vi_sub a b
theorem in_vi (a : Fp) : 0 ≤ vi a ∧ vi a < 2305843009213693951 := vi_range a
theorem n1 : (1 : Int) = vi 1 := rfl
theorem n0 : (0 : Int) = vi 0 := rfl
theorem n3 : (3 : Int) = vi 3 := rfl
theorem n4 : (4 : Int) = vi 4 := rfl
theorem n8 : (8 : Int) = vi 8 := rfl

def v3 (s : Sp) : Int × Int × Int := (vi s.1, vi s.2.1, vi s.2.2)

theorem dbl_vi (s : Sp) : impl_spatial_double.f (vi s.1) (vi s.2.1) (vi s.2.2) = some (v3 (dbl s)) := by
  unfold impl_spatial_double.f
  rw [if_pos ⟨(in_vi _).1, (in_vi _).2, (in_vi _).1, (in_vi _).2, (in_vi _).1, (in_vi _).2⟩]
  congr 1
  unfold dbl
  simp only [vi_zero]
  split
  · rfl
  · unfold dblN v3
    rw [n3, n4, n8]
    simp only [tm_vi, ad_vi, mi_vi]

theorem pls_vi (s t : Sp) : impl_spatial_plus.f (vi s.1) (vi s.2.1) (vi s.2.2) (vi t.1) (vi t.2.1) (vi t.2.2) = some (v3 (pls s t)) := by
  unfold impl_spatial_plus.f
  rw [if_pos ⟨(in_vi _).1, (in_vi _).2, (in_vi _).1, (in_vi _).2, (in_vi _).1, (in_vi _).2, (in_vi _).1, (in_vi _).2, (in_vi _).1, (in_vi _).2, (in_vi _).1, (in_vi _).2⟩]
  unfold pls hN rN
  simp only [tm_vi, ad_vi, mi_vi, vi_zero]
  split
  · rfl
  · split
    · rfl
    · split
      · split
        · exact dbl_vi s
        · rfl
      · congr 1
        unfold plsN v3
        simp only [tm_vi, ad_vi, mi_vi]

end Go.Proofs.YtkefcokmghbmhaaDoor.V2
end
