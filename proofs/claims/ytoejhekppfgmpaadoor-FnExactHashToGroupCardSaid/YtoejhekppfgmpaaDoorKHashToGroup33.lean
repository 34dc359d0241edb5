/- What the proof of FnExactHashToGroup leans on, part 33: cut out of the texts of this claim's making by a program (wip/tools/pack.py). -/
import Derived.Test.YtoejhekppfgmpaaDoorKHashToGroup11
import Derived.Test.YtoejhekppfgmpaaDoorKHashToGroup12
import Derived.Test.YtoejhekppfgmpaaDoorKHashToGroup13
import Derived.Test.YtoejhekppfgmpaaDoorKHashToGroup14
import Derived.Test.YtoejhekppfgmpaaDoorKHashToGroup23
import Derived.Test.YtoejhekppfgmpaaDoorKHashToGroup24
import Derived.Test.YtoejhekppfgmpaaDoorKHashToGroup26
import Derived.Test.YtoejhekppfgmpaaDoorKHashToGroup30
import Derived.Test.YtoejhekppfgmpaaDoorKHashToGroup32
import Derived.KernelRfl
import Derived.OpenShut
section
namespace Go.Proofs.YtoejhekppfgmpaaDoor.F
open Go.RowKit Go.Proofs.YtoejhekppfgmpaaDoor.MC Go.Proofs.YtoejhekppfgmpaaDoor.B Go.Proofs.YtoejhekppfgmpaaDoor.C Go.Proofs.YtoejhekppfgmpaaDoor.E Go.Proofs.YtoejhekppfgmpaaDoor.H0 Go.Proofs.YtoejhekppfgmpaaDoor.G3 Go.Proofs.YtoejhekppfgmpaaDoor.F0 Go.Proofs.YtoejhekppfgmpaaDoor.H1 Go.Proofs.YtoejhekppfgmpaaDoor.H2 Go.Proofs.YtoejhekppfgmpaaDoor.H3 Go.Proofs.YtoejhekppfgmpaaDoor.KG2 Go.Proofs.YtoejhekppfgmpaaDoor.KE2 Go.Proofs.YtoejhekppfgmpaaDoor.CD Go.Proofs.YtoejhekppfgmpaaDoorW.PrintWords Go.Proofs.YtoejhekppfgmpaaDoorW.PrintLast Go.Proofs.YtoejhekppfgmpaaDoorW.PrintMore
attribute [local go_sem high] field_num_fieldP   -- for this text's walks alone
attribute [local go_sem] max2_int min2_int max_two min_two max_three min_three max_four min_four   -- for this text's walks alone
set_option linter.unusedVariables false
set_option linter.unusedSimpArgs false
def impl_HashToGroup.f (k : Nat) (a0 : ByteArray) (a1 : ByteArray) : Option (Int × Int × Bool × Bool) := (impl_HashToField.f k a0 a1 2305843009213693951 2).bind fun bt127 => (if bt127.2 = true then (if 0 < (bt127.1.length : Int) then ((impl_MapToCurve.f (rd bt127.1 0)).bind fun bt132 => (if 1 < (bt127.1.length : Int) then ((impl_MapToCurve.f (rd bt127.1 1)).bind fun bt136 => ((impl_Add.f k bt132.1 bt132.2.1 bt132.2.2 bt136.1 bt136.2.1 bt136.2.2).bind fun bt139 => (some (bt139.1, bt139.2.1, bt139.2.2, true)))) else (none))) else (none)) else (some (0, 0, true, false)))
def impl_HashToGroup.T4 : Bool × List (List Nat × List Nat) := (true, [([], []), ([0], [0]), ([1], [1]), ([2], [2]), ([], []), ([4], [4]), ([5], [5]), ([6, 3], [6]), ([3, 7, 7], [3, 7]), ([8, 8, 0, 1, 2, 3, 4, 5, 6, 7, 8], [8]), ([9, 0, 1, 2, 3, 4, 5, 6, 7, 8, 9], [])])
def impl_HashToGroup.B4 : List Nat := [0, 1, 3, 7, 0, 16, 48, 127, 255, 511, 1023]
theorem impl_HashToGroup.tab4 : rtab .any (opsOf Tryd.f34 4) = impl_HashToGroup.T4 := by kernel_rfl
theorem impl_HashToGroup.bits4 : waitsOk impl_HashToGroup.T4.2 impl_HashToGroup.B4 = true := by kernel_rfl
set_option maxHeartbeats 8000000 in
set_option maxRecDepth 100000 in
theorem impl_HashToGroup.calls (k : Nat) (a0 : ByteArray) (a1 : ByteArray) (r1 : Int) (r2 : Int) (r3 : Bool) (r4 : Bool) (w : World) (hG : G w) (h : impl_HashToGroup.f k a0 a1 = some (r1, r2, r3, r4)) :
    Calls Tryd.prog 34 #[.string a0, .string a1] w fun e w' => e = .returned (.tuple #[.agg #[.int .u64 r1, .int .u64 r2, .bool r3], .bool r4]) ∧ Below w.heap.size w w' := by
  have hu25 := Tryd.underlying25
  have HB := Aside0.mk (Below.refl w.heap.size w)
  have H : ((impl_HashToField.f k a0 a1 2305843009213693951 2).bind fun bt127 => (if bt127.2 = true then (if 0 < (bt127.1.length : Int) then ((impl_MapToCurve.f (rd bt127.1 0)).bind fun bt132 => (if 1 < (bt127.1.length : Int) then ((impl_MapToCurve.f (rd bt127.1 1)).bind fun bt136 => ((impl_Add.f k bt132.1 bt132.2.1 bt132.2.2 bt136.1 bt136.2.1 bt136.2.2).bind fun bt139 => (some (bt139.1, bt139.2.1, bt139.2.2, true)))) else (none))) else (none)) else (some (0, 0, true, false)))) = some (r1, r2, r3, r4) := h
  clear h
  obtain ⟨tG0, frG0, hb_⟩ := G_0 hG
  have BK80 := Aside0.mk hb_
  clear hb_
  have HG := Aside0.mk hG
  clear hG
  replace H := Option.bind_eq_some_iff.mp H
  obtain ⟨⟨t127, t128⟩, A30, H⟩ := H
  replace H : (if t128 = true then (if 0 < (t127.length : Int) then ((impl_MapToCurve.f (rd t127 0)).bind fun bt132 => (if 1 < (t127.length : Int) then ((impl_MapToCurve.f (rd t127 1)).bind fun bt136 => ((impl_Add.f k bt132.1 bt132.2.1 bt132.2.2 bt136.1 bt136.2.1 bt136.2.2).bind fun bt139 => (some (bt139.1, bt139.2.1, bt139.2.2, true)))) else (none))) else (none)) else (some (0, 0, true, false))) = some (r1, r2, r3, r4) := H
  have A3 := Aside0.mk A30
  clear A30
  by_cases c4 : t128 = true
  · subst c4
    have H1 : (if 0 < (t127.length : Int) then ((impl_MapToCurve.f (rd t127 0)).bind fun bt132 => (if 1 < (t127.length : Int) then ((impl_MapToCurve.f (rd t127 1)).bind fun bt136 => ((impl_Add.f k bt132.1 bt132.2.1 bt132.2.2 bt136.1 bt136.2.1 bt136.2.2).bind fun bt139 => (some (bt139.1, bt139.2.1, bt139.2.2, true)))) else (none))) else (none)) = some (r1, r2, r3, r4) := by rw [if_pos rfl] at H; exact H
    clear H
    have H := H1
    clear H1
    by_cases c5 : 0 < (t127.length : Int)
    · rw [if_pos c5] at H
      have c5b0 : decide (0 < (t127.length : Int)) = true := decide_eq_true c5
      have c5b1 : decide (0 < t127.length) = true := decide_eq_true (by omega)
      clear c5
      replace H := Option.bind_eq_some_iff.mp H
      obtain ⟨⟨t132, t133, t134⟩, A60, H⟩ := H
      replace H : (if 1 < (t127.length : Int) then ((impl_MapToCurve.f (rd t127 1)).bind fun bt136 => ((impl_Add.f k t132 t133 t134 bt136.1 bt136.2.1 bt136.2.2).bind fun bt139 => (some (bt139.1, bt139.2.1, bt139.2.2, true)))) else (none)) = some (r1, r2, r3, r4) := H
      have A6 := Aside0.mk A60
      clear A60
      by_cases c7 : 1 < (t127.length : Int)
      · rw [if_pos c7] at H
        have c7b0 : decide (1 < (t127.length : Int)) = true := decide_eq_true c7
        have c7b1 : decide (1 < t127.length) = true := decide_eq_true (by omega)
        clear c7
        replace H := Option.bind_eq_some_iff.mp H
        obtain ⟨⟨t136, t137, t138⟩, A80, H⟩ := H
        replace H : ((impl_Add.f k t132 t133 t134 t136 t137 t138).bind fun bt139 => (some (bt139.1, bt139.2.1, bt139.2.2, true))) = some (r1, r2, r3, r4) := H
        have A8 := Aside0.mk A80
        clear A80
        replace H := Option.bind_eq_some_iff.mp H
        obtain ⟨⟨t139, t140, t141⟩, A90, H⟩ := H
        replace H : (some (t139, t140, t141, true)) = some (r1, r2, r3, r4) := H
        have A9 := Aside0.mk A90
        clear A90
        simp only [Option.some.injEq, Prod.mk.injEq] at H
        obtain ⟨rfl, rfl, rfl, rfl⟩ := H
        go_enter Tryd.func34, Tryd.ntmps34
        try go_wp2_with (first | ((with_reducible refine gate_dst (N := 4) rfl ?_); refine box_event ?hg (N := 4) ?hd (cs := #[.int .u64 0, .int .u64 0, .bool false]) (t := 25) ?hr ?_; (case hd => rfl); (case hg => rfl); (case hr => first | (go_simp; done) | (go_simp; rfl)); intro gb126 hg w10 hbox hb; have n0_ := Aside0.mk (blk_below (g := 0) (o := .cells #[.int .u64 0, .int .u64 0, .bool true] tG0 frG0) (by (with_reducible repeat (first | refine blk_drewN ?_ _ | refine blk_drew ?_ | refine blk_alloc ?_ _)); exact BK80.out) hb); have n1_ := Aside0.mk (below_step (by repeat (first | (with_reducible first | exact HB.out | apply below_alloc | apply pw_below_drewN | apply below_drew1 | refine below_set ?_ GE80.out) | exact HB.out)) hb); have n2_ := Aside0.mk (hbox); have n3_ := Aside0.mk ((by rw [hg]; exact (below_size (by repeat (first | (with_reducible first | exact HB.out | apply below_alloc | apply pw_below_drewN | apply below_drew1 | refine below_set ?_ GE80.out) | exact HB.out))) : w.heap.size ≤ gb126)); have n4_ := Aside0.mk ((by rw [hg]; exact (below_size (by repeat (first | (with_reducible first | exact HB.out | apply below_alloc | apply pw_below_drewN | apply below_drew1 | refine below_set ?_ GE80.out) | exact HB.out))) : w.heap.size ≤ gb126)); have n5_ := Aside0.mk ((by rw [hg]; exact Nat.ne_of_lt (blk_lt (g := 0) (o := .cells #[.int .u64 0, .int .u64 0, .bool true] tG0 frG0) (by (with_reducible repeat (first | refine blk_drewN ?_ _ | refine blk_drew ?_ | refine blk_alloc ?_ _)); exact BK80.out)) : 0 ≠ gb126)); have n6_ := Aside0.mk ((by rw [hg]; exact Nat.ne_of_gt (blk_lt (g := 0) (o := .cells #[.int .u64 0, .int .u64 0, .bool true] tG0 frG0) (by (with_reducible repeat (first | refine blk_drewN ?_ _ | refine blk_drew ?_ | refine blk_alloc ?_ _)); exact BK80.out)) : gb126 ≠ 0)); clear BK80; clear HB; have BK80 := n0_; have HB := n1_; have BK126 := n2_; have GW126 := n3_; have GE126 := n4_; have NB80_126 := n5_; have NB126_80 := n6_; clear n0_ n1_ n2_ n3_ n4_ n5_ n6_; clear hb hbox hg) | ((with_reducible refine gate_callee (f := 50) rfl ?_); refine goesL_ (some 11) rfl rfl Tryd.func50 (by kernel_rfl) rfl #[.string a0, .string a1, .int .u64 2305843009213693951, .int .i64 2] rfl (by (try simp only [List.map_toArray, List.map_cons, List.map_nil]); first | done | rfl | (simp only [List.length_drop, List.length_take]; rfl)) ?_; (with_reducible refine (impl_HashToField.calls k a0 a1 2305843009213693951 2 t127 true _ (G_below (by repeat (first | (with_reducible first | exact HB.out | apply below_alloc | apply pw_below_drewN | apply below_drew1 | refine below_set ?_ GE80.out | refine below_set ?_ GE126.out) | exact HB.out)) HG.out) A3.out).mono ?_); rintro e w11 ⟨v129, rfl, ho0, hb⟩; refine ⟨_, rfl, ?_⟩; have n0_ := Aside0.mk (Kd.R_lower ho0 (below_size (by repeat (first | (with_reducible first | exact HB.out | apply below_alloc | apply pw_below_drewN | apply below_drew1 | refine below_set ?_ GE80.out | refine below_set ?_ GE126.out) | exact HB.out)))); have n1_ := Aside0.mk (blk_below (g := 0) (o := .cells #[.int .u64 0, .int .u64 0, .bool true] tG0 frG0) (by (with_reducible repeat (first | refine blk_drewN ?_ _ | refine blk_drew ?_ | refine blk_alloc ?_ _)); exact BK80.out) hb); have n2_ := Aside0.mk (blk_below (g := gb126) (o := .cells #[.int .u64 0, .int .u64 0, .bool false] 25 (0, 0)) (by (with_reducible repeat (first | refine blk_drewN ?_ _ | refine blk_drew ?_ | refine blk_alloc ?_ _)); exact BK126.out) hb); have n3_ := Aside0.mk (below_step (by repeat (first | (with_reducible first | exact HB.out | apply below_alloc | apply pw_below_drewN | apply below_drew1 | refine below_set ?_ GE80.out | refine below_set ?_ GE126.out) | exact HB.out)) hb); clear BK80; clear BK126; clear HB; have HO130 := n0_; have BK80 := n1_; have BK126 := n2_; have HB := n3_; clear n0_ n1_ n2_ n3_; (try clear hb); (try clear hb2); (try clear hk); (try clear hi); (try clear ho0)))
        have n0_ := Aside0.mk (Kd.R_drew HO130.out)
        have n1_ := Aside0.mk (blk_drew BK80.out)
        have n2_ := Aside0.mk (blk_drew BK126.out)
        have n3_ := Aside0.mk (below_drew1 HB.out)
        clear HO130
        clear BK80
        clear BK126
        clear HB
        have HO130 := n0_
        have BK80 := n1_
        have BK126 := n2_
        have HB := n3_
        clear n0_ n1_ n2_ n3_
        obtain ⟨Ao13, co13, eo13⟩ := Kd.R_slice HO130.out
        (first | subst eo13 | (injection eo13 with f1_ f2_ f3_; have f4_ := f1_.symm; have f5_ := f3_.symm; clear f1_ f2_ f3_; subst f4_; subst f5_))
        have p131 : 0 ≤ (0 : Int) := (by omega)
        have q131 : 0 < (t127.length : Int) := of_decide_eq_true (by first | (with_reducible assumption) | assumption)
        obtain ⟨ad131, e131, hx131_0⟩ := Kd.at_int (Kd.R_reads' HO130.out).2.2 0 p131 q131
        cases e131
        have qi131 : (0 < t127.length) = True := eq_true (by omega)
        (try rw [show ((0 : Int)).toNat = 0 from rfl] at hx131_0)
        (try rw [Addr.add_zero'] at hx131_0)
        replace p131 := eq_true p131
        replace q131 := eq_true q131
        have p135 : 0 ≤ (1 : Int) := (by omega)
        have q135 : 1 < (t127.length : Int) := of_decide_eq_true (by first | (with_reducible assumption) | assumption)
        obtain ⟨ad135, e135, hx135_0⟩ := Kd.at_int (Kd.R_reads' HO130.out).2.2 1 p135 q135
        obtain rfl : ad131 = ad135 := (by injection e135)
        (try simp only [show (1 : Int).toNat = 1 from rfl, Nat.reduceMul, Nat.reduceEqDiff, Go.Addr.add, ↓reduceIte] at hx135_0)
        have qi135 : (1 < t127.length) = True := eq_true (by omega)
        (try rw [show ((1 : Int)).toNat = 1 from rfl] at hx135_0)
        replace p135 := eq_true p135
        replace q135 := eq_true q135
        refine start_ (n := 11) (S := fun w' => w'.cell? ad131 = some (.int .u64 (rd t127 0)) ∧ w'.cell? ⟨ad131.block, ad131.off + 1, none⟩ = some (.int .u64 (rd t127 1))) (ds := []) #[false, false, false, false, false, false, false, false, false, false, false] (by kernel_rfl) rfl rfl ⟨hx131_0, hx135_0⟩ (fun hHeld => ?_); refine with_tabW impl_HashToGroup.tab4 impl_HashToGroup.bits4 (fun HT_ HW_ => ?_)
        generalize w11.drew = w12 at HO130 BK80 BK126 HB hx131_0 hx135_0 hHeld ⊢
        refine pure_ (i := 0) (N := some 17) (v := ?_) (a' := ?_) #[true, false, false, false, false, false, false, false, false, false, false] rfl rfl (any_of HT_.out (by kernel_rfl)) (fun _ _ _ h => h) (Or.inl ⟨by rfl, ?_⟩) ?_ ?_
        rotate_left
        · intro w'
          go_simp
          with_reducible rfl
        rotate_left
        · simp only [Act.put, List.setIfInBounds_toArray, List.set_cons_zero, List.set_cons_succ, i64_w, i32_w]
          rfl
        refine pure_ (i := 1) (N := some 18) (v := ?_) (a' := ?_) #[true, true, false, false, false, false, false, false, false, false, false] rfl rfl (any_of HT_.out (by kernel_rfl)) (fun _ _ _ h => h) (Or.inl ⟨by rfl, ?_⟩) ?_ ?_
        rotate_left
        · intro w'
          go_simp
          with_reducible rfl
        rotate_left
        · simp only [Act.put, List.setIfInBounds_toArray, List.set_cons_zero, List.set_cons_succ, i64_w, i32_w]
          rfl
        refine pure_ (i := 4) (N := some 21) (v := ?_) (a' := ?_) #[true, true, false, false, true, false, false, false, false, false, false] rfl rfl (any_of HT_.out (by kernel_rfl)) (fun _ _ _ h => h) (Or.inl ⟨by rfl, ?_⟩) ?_ ?_
        rotate_left
        · intro w'
          go_simp
          with_reducible rfl
        rotate_left
        · simp only [Act.put, List.setIfInBounds_toArray, List.set_cons_zero, List.set_cons_succ, i64_w, i32_w]
          rfl
        refine pure_ (i := 5) (N := some 22) (v := ?_) (a' := ?_) #[true, true, false, false, true, true, false, false, false, false, false] rfl rfl (any_of HT_.out (by kernel_rfl)) (fun _ _ _ h => h) (Or.inl ⟨by rfl, ?_⟩) ?_ ?_
        rotate_left
        · intro w'
          go_simp
          with_reducible rfl
        rotate_left
        · simp only [Act.put, List.setIfInBounds_toArray, List.set_cons_zero, List.set_cons_succ, i64_w, i32_w]
          rfl
        refine take_ (i := 2) (N := some 19) (v := ?_) (a' := ?_) #[true, true, true, false, true, true, false, false, false, false, false] rfl rfl (take_ofW HT_.out HW_.out (by kernel_rfl)) (fun _ _ _ h => h) (Or.inl ⟨by rfl, ?_⟩) hHeld ?_ ?_
        rotate_left
        · rintro w' ⟨s0, s1⟩
          go_simp
          with_reducible rfl
        rotate_left
        · simp only [Act.put, List.setIfInBounds_toArray, List.set_cons_zero, List.set_cons_succ, i64_w, i32_w]
          rfl
        refine take_ (i := 6) (N := some 23) (v := ?_) (a' := ?_) #[true, true, true, false, true, true, true, false, false, false, false] rfl rfl (take_ofW HT_.out HW_.out (by kernel_rfl)) (fun _ _ _ h => h) (Or.inl ⟨by rfl, ?_⟩) hHeld ?_ ?_
        rotate_left
        · rintro w' ⟨s0, s1⟩
          go_simp
          with_reducible rfl
        rotate_left
        · simp only [Act.put, List.setIfInBounds_toArray, List.set_cons_zero, List.set_cons_succ, i64_w, i32_w]
          rfl
        refine one_ (i := 3) (N := some 20) #[true, true, true, true, true, true, true, false, false, false, false] rfl rfl (one_of HT_.out (by kernel_rfl)) (by decide) (fun K hK => ?_)
        refine goes_ Tryd.func47 (by kernel_rfl) rfl #[.int .u64 (rd t127 0)] (by rfl) rfl rfl (by (try simp only [List.map_toArray, List.map_cons, List.map_nil]); first | done | rfl | (simp only [List.length_drop, List.length_take]; rfl)) ?_
        with_reducible refine (impl_MapToCurve.calls (rd t127 0) t132 t133 t134 _ A6.out).mono ?_
        rintro e w14 ⟨rfl, hb⟩
        have HS0_ := (hb.cell (World.block_lt_of_cell? _ _ (hHeld.1))).trans (hHeld.1)
        have HS1_ := (hb.cell (World.block_lt_of_cell? _ _ (hHeld.2))).trans (hHeld.2)
        refine ⟨_, rfl, ?_⟩
        have n0_ := Aside0.mk (Kd.R_below (by (with_reducible repeat (first | apply Kd.R_alloc | apply Kd.R_drewN | apply Kd.R_drew)); exact HO130.out) hb)
        have n1_ := Aside0.mk (blk_below (g := 0) (o := .cells #[.int .u64 0, .int .u64 0, .bool true] tG0 frG0) (by (with_reducible repeat (first | refine blk_drewN ?_ _ | refine blk_drew ?_ | refine blk_alloc ?_ _)); exact BK80.out) hb)
        have n2_ := Aside0.mk (blk_below (g := gb126) (o := .cells #[.int .u64 0, .int .u64 0, .bool false] 25 (0, 0)) (by (with_reducible repeat (first | refine blk_drewN ?_ _ | refine blk_drew ?_ | refine blk_alloc ?_ _)); exact BK126.out) hb)
        have n3_ := Aside0.mk (below_step (by repeat (first | (with_reducible first | exact HB.out | apply below_alloc | apply pw_below_drewN | apply below_drew1 | refine below_set ?_ GE80.out | refine below_set ?_ GE126.out) | exact HB.out)) hb)
        clear HO130
        clear BK80
        clear BK126
        clear HB
        have HO130 := n0_
        have BK80 := n1_
        have BK126 := n2_
        have HB := n3_
        clear n0_ n1_ n2_ n3_
        (try clear hb)
        (try clear hb2)
        (try clear hk)
        (try clear hi)
        refine hK.out _ _ ⟨HS0_, HS1_⟩ (fun hHeld => ?_)
        clear hK K
        refine norm_ (a' := ?_) ?_ ?_
        rotate_left
        · show Act.put _ (some 20) _ = _
          simp only [Act.put, List.setIfInBounds_toArray, List.set_cons_zero, List.set_cons_succ, i64_w, i32_w]
          rfl
        refine one_ (i := 7) (N := some 24) #[true, true, true, true, true, true, true, true, false, false, false] rfl rfl (one_of HT_.out (by kernel_rfl)) (by decide) (fun K hK => ?_)
        refine goes_ Tryd.func47 (by kernel_rfl) rfl #[.int .u64 (rd t127 1)] (by rfl) rfl rfl (by (try simp only [List.map_toArray, List.map_cons, List.map_nil]); first | done | rfl | (simp only [List.length_drop, List.length_take]; rfl)) ?_
        with_reducible refine (impl_MapToCurve.calls (rd t127 1) t136 t137 t138 _ A8.out).mono ?_
        rintro e w15 ⟨rfl, hb⟩
        have HS0_ := (hb.cell (World.block_lt_of_cell? _ _ (hHeld.1))).trans (hHeld.1)
        have HS1_ := (hb.cell (World.block_lt_of_cell? _ _ (hHeld.2))).trans (hHeld.2)
        refine ⟨_, rfl, ?_⟩
        have n0_ := Aside0.mk (Kd.R_below (by (with_reducible repeat (first | apply Kd.R_alloc | apply Kd.R_drewN | apply Kd.R_drew)); exact HO130.out) hb)
        have n1_ := Aside0.mk (blk_below (g := 0) (o := .cells #[.int .u64 0, .int .u64 0, .bool true] tG0 frG0) (by (with_reducible repeat (first | refine blk_drewN ?_ _ | refine blk_drew ?_ | refine blk_alloc ?_ _)); exact BK80.out) hb)
        have n2_ := Aside0.mk (blk_below (g := gb126) (o := .cells #[.int .u64 0, .int .u64 0, .bool false] 25 (0, 0)) (by (with_reducible repeat (first | refine blk_drewN ?_ _ | refine blk_drew ?_ | refine blk_alloc ?_ _)); exact BK126.out) hb)
        have n3_ := Aside0.mk (below_step (by repeat (first | (with_reducible first | exact HB.out | apply below_alloc | apply pw_below_drewN | apply below_drew1 | refine below_set ?_ GE80.out | refine below_set ?_ GE126.out) | exact HB.out)) hb)
        clear HO130
        clear BK80
        clear BK126
        clear HB
        have HO130 := n0_
        have BK80 := n1_
        have BK126 := n2_
        have HB := n3_
        clear n0_ n1_ n2_ n3_
        (try clear hb)
        (try clear hb2)
        (try clear hk)
        (try clear hi)
        refine hK.out _ _ ⟨HS0_, HS1_⟩ (fun hHeld => ?_)
        clear hK K
        refine norm_ (a' := ?_) ?_ ?_
        rotate_left
        · show Act.put _ (some 24) _ = _
          simp only [Act.put, List.setIfInBounds_toArray, List.set_cons_zero, List.set_cons_succ, i64_w, i32_w]
          rfl
        refine one_ (i := 8) (N := some 25) #[true, true, true, true, true, true, true, true, true, false, false] rfl rfl (one_of HT_.out (by kernel_rfl)) (by decide) (fun K hK => ?_)
        refine goes_ Tryd.func14 (by kernel_rfl) rfl #[.agg #[.int .u64 t132, .int .u64 t133, .bool t134], .agg #[.int .u64 t136, .int .u64 t137, .bool t138]] (by rfl) rfl rfl (by (try simp only [List.map_toArray, List.map_cons, List.map_nil]); first | done | rfl | (simp only [List.length_drop, List.length_take]; rfl)) ?_
        with_reducible refine (impl_Add.calls k t132 t133 t134 t136 t137 t138 t139 t140 t141 _ (G_below (by repeat (first | (with_reducible first | exact HB.out | apply below_alloc | apply pw_below_drewN | apply below_drew1 | refine below_set ?_ GE80.out | refine below_set ?_ GE126.out) | exact HB.out)) HG.out) A9.out).mono ?_
        rintro e w16 ⟨rfl, hb⟩
        have HS0_ := (hb.cell (World.block_lt_of_cell? _ _ (hHeld.1))).trans (hHeld.1)
        have HS1_ := (hb.cell (World.block_lt_of_cell? _ _ (hHeld.2))).trans (hHeld.2)
        refine ⟨_, rfl, ?_⟩
        have n0_ := Aside0.mk (Kd.R_below (by (with_reducible repeat (first | apply Kd.R_alloc | apply Kd.R_drewN | apply Kd.R_drew)); exact HO130.out) hb)
        have n1_ := Aside0.mk (blk_below (g := 0) (o := .cells #[.int .u64 0, .int .u64 0, .bool true] tG0 frG0) (by (with_reducible repeat (first | refine blk_drewN ?_ _ | refine blk_drew ?_ | refine blk_alloc ?_ _)); exact BK80.out) hb)
        have n2_ := Aside0.mk (blk_below (g := gb126) (o := .cells #[.int .u64 0, .int .u64 0, .bool false] 25 (0, 0)) (by (with_reducible repeat (first | refine blk_drewN ?_ _ | refine blk_drew ?_ | refine blk_alloc ?_ _)); exact BK126.out) hb)
        have n3_ := Aside0.mk (below_step (by repeat (first | (with_reducible first | exact HB.out | apply below_alloc | apply pw_below_drewN | apply below_drew1 | refine below_set ?_ GE80.out | refine below_set ?_ GE126.out) | exact HB.out)) hb)
        clear HO130
        clear BK80
        clear BK126
        clear HB
        have HO130 := n0_
        have BK80 := n1_
        have BK126 := n2_
        have HB := n3_
        clear n0_ n1_ n2_ n3_
        (try clear hb)
        (try clear hb2)
        (try clear hk)
        (try clear hi)
        refine hK.out _ _ ⟨HS0_, HS1_⟩ (fun hHeld => ?_)
        clear hK K
        refine norm_ (a' := ?_) ?_ ?_
        rotate_left
        · show Act.put _ (some 25) _ = _
          simp only [Act.put, List.setIfInBounds_toArray, List.set_cons_zero, List.set_cons_succ, i64_w, i32_w]
          rfl
        refine one_ (i := 9) (N := none) #[true, true, true, true, true, true, true, true, true, true, false] rfl rfl (one_of HT_.out (by kernel_rfl)) (by decide) (fun K hK => ?_)
        have hs17 : w16.cell? ⟨gb126, 0, none⟩ = some (.int .u64 0) := (blk_cell BK126.out 0).trans rfl
        have hfs17 := blk_frozen BK126.out 0
        have hns17_0 := NB80_126.out
        have hms17_0 := NB126_80.out
        have hs18 : w16.cell? ⟨gb126, 1, none⟩ = some (.int .u64 0) := (blk_cell BK126.out 1).trans rfl
        have hfs18 := blk_frozen BK126.out 1
        have hns18_0 := NB80_126.out
        have hms18_0 := NB126_80.out
        have hs19 : w16.cell? ⟨gb126, 2, none⟩ = some (.bool false) := (blk_cell BK126.out 2).trans rfl
        have hfs19 := blk_frozen BK126.out 2
        have hns19_0 := NB80_126.out
        have hms19_0 := NB126_80.out
        refine skip_ (w1 := ?_) (by rfl) rfl ?_ ?_
        rotate_left
        · go_simp
          rfl
        refine hK.out _ _ ⟨((cell_far (p := ⟨gb126, _, none⟩) (by first | exact Kd.own_blk (Kd.R_ne HO130.out BK126.out (by decide)) | (rw [add_block]; exact Kd.own_blk (Kd.R_ne HO130.out BK126.out (by decide))) | (show (Addr.add _ _).block ≠ _; rw [add_block]; exact Kd.own_blk (Kd.R_ne HO130.out BK126.out (by decide))) | (dsimp only; exact Kd.own_blk (Kd.R_ne HO130.out BK126.out (by decide)))) _).trans (((cell_far (p := ⟨gb126, _, none⟩) (by first | exact Kd.own_blk (Kd.R_ne HO130.out BK126.out (by decide)) | (rw [add_block]; exact Kd.own_blk (Kd.R_ne HO130.out BK126.out (by decide))) | (show (Addr.add _ _).block ≠ _; rw [add_block]; exact Kd.own_blk (Kd.R_ne HO130.out BK126.out (by decide))) | (dsimp only; exact Kd.own_blk (Kd.R_ne HO130.out BK126.out (by decide)))) _).trans (((cell_far (p := ⟨gb126, _, none⟩) (by first | exact Kd.own_blk (Kd.R_ne HO130.out BK126.out (by decide)) | (rw [add_block]; exact Kd.own_blk (Kd.R_ne HO130.out BK126.out (by decide))) | (show (Addr.add _ _).block ≠ _; rw [add_block]; exact Kd.own_blk (Kd.R_ne HO130.out BK126.out (by decide))) | (dsimp only; exact Kd.own_blk (Kd.R_ne HO130.out BK126.out (by decide)))) _).trans (hHeld.1)))))), ((cell_far (p := ⟨gb126, _, none⟩) (by first | exact Kd.own_blk (Kd.R_ne HO130.out BK126.out (by decide)) | (rw [add_block]; exact Kd.own_blk (Kd.R_ne HO130.out BK126.out (by decide))) | (show (Addr.add _ _).block ≠ _; rw [add_block]; exact Kd.own_blk (Kd.R_ne HO130.out BK126.out (by decide))) | (dsimp only; exact Kd.own_blk (Kd.R_ne HO130.out BK126.out (by decide)))) _).trans (((cell_far (p := ⟨gb126, _, none⟩) (by first | exact Kd.own_blk (Kd.R_ne HO130.out BK126.out (by decide)) | (rw [add_block]; exact Kd.own_blk (Kd.R_ne HO130.out BK126.out (by decide))) | (show (Addr.add _ _).block ≠ _; rw [add_block]; exact Kd.own_blk (Kd.R_ne HO130.out BK126.out (by decide))) | (dsimp only; exact Kd.own_blk (Kd.R_ne HO130.out BK126.out (by decide)))) _).trans (((cell_far (p := ⟨gb126, _, none⟩) (by first | exact Kd.own_blk (Kd.R_ne HO130.out BK126.out (by decide)) | (rw [add_block]; exact Kd.own_blk (Kd.R_ne HO130.out BK126.out (by decide))) | (show (Addr.add _ _).block ≠ _; rw [add_block]; exact Kd.own_blk (Kd.R_ne HO130.out BK126.out (by decide))) | (dsimp only; exact Kd.own_blk (Kd.R_ne HO130.out BK126.out (by decide)))) _).trans (hHeld.2))))))⟩ (fun hHeld => ?_)
        clear hK K
        refine pure_ (i := 10) (N := some 5) (v := ?_) (a' := ?_) #[true, true, true, true, true, true, true, true, true, true, true] rfl rfl (any_of HT_.out (by kernel_rfl)) (fun _ _ _ h => h) (Or.inl ⟨by rfl, ?_⟩) ?_ ?_
        rotate_left
        · intro w'
          go_simp
          with_reducible rfl
        rotate_left
        · simp only [Act.put, List.setIfInBounds_toArray, List.set_cons_zero, List.set_cons_succ, i64_w, i32_w]
          rfl
        refine done_ (done_of HT_.out (by kernel_rfl)) ?_
        try go_wp2
        refine bodyPost_ret (results_ct rfl _ _ gb126 25 #[.int .u64 t139, .int .u64 t140, .bool t141] (0, 0) _ rfl (by (with_reducible repeat (first | refine blk_drewN ?_ _ | refine blk_drew ?_ | refine blk_alloc ?_ _)); refine blk_put (cs := #[.int .u64 t139, .int .u64 t140, .bool false]) ?_ 2 _ rfl; (with_reducible repeat (first | refine blk_drewN ?_ _ | refine blk_drew ?_ | refine blk_alloc ?_ _)); refine blk_put (cs := #[.int .u64 t139, .int .u64 0, .bool false]) ?_ 1 _ rfl; (with_reducible repeat (first | refine blk_drewN ?_ _ | refine blk_drew ?_ | refine blk_alloc ?_ _)); refine blk_put (cs := #[.int .u64 0, .int .u64 0, .bool false]) ?_ 0 _ rfl; (with_reducible repeat (first | refine blk_drewN ?_ _ | refine blk_drew ?_ | refine blk_alloc ?_ _)); exact BK126.out) Tryd.underlying25 rfl (by kernel_rfl)) rfl ?_
        exact ⟨by first | rfl | (simp [errW_none, errW_some] <;> rfl) | (simp [*, errW_none, errW_some] <;> rfl), by repeat (first | (with_reducible first | exact HB.out | apply below_alloc | apply pw_below_drewN | apply below_drew1 | refine below_set ?_ GE80.out | refine below_set ?_ GE126.out) | exact HB.out)⟩
      · rw [if_neg c7] at H
        exact absurd H (by simp)
    · rw [if_neg c5] at H
      exact absurd H (by simp)
  · replace c4 := Bool.eq_false_iff.mpr c4
    subst c4
    have H1 : (some (0, 0, true, false)) = some (r1, r2, r3, r4) := by rw [if_neg (show ¬ (false = true) by decide)] at H; exact H
    clear H
    have H := H1
    clear H1
    simp only [Option.some.injEq, Prod.mk.injEq] at H
    obtain ⟨rfl, rfl, rfl, rfl⟩ := H
    go_enter Tryd.func34, Tryd.ntmps34
    go_wp2_with (first | ((with_reducible refine gate_dst (N := 4) rfl ?_); refine box_event ?hg (N := 4) ?hd (cs := #[.int .u64 0, .int .u64 0, .bool false]) (t := 25) ?hr ?_; (case hd => rfl); (case hg => rfl); (case hr => first | (go_simp; done) | (go_simp; rfl)); intro gb126 hg w20 hbox hb; have n0_ := Aside0.mk (blk_below (g := 0) (o := .cells #[.int .u64 0, .int .u64 0, .bool true] tG0 frG0) (by (with_reducible repeat (first | refine blk_drewN ?_ _ | refine blk_drew ?_ | refine blk_alloc ?_ _)); exact BK80.out) hb); have n1_ := Aside0.mk (below_step (by repeat (first | (with_reducible first | exact HB.out | apply below_alloc | apply pw_below_drewN | apply below_drew1 | refine below_set ?_ GE80.out) | exact HB.out)) hb); have n2_ := Aside0.mk (hbox); have n3_ := Aside0.mk ((by rw [hg]; exact (below_size (by repeat (first | (with_reducible first | exact HB.out | apply below_alloc | apply pw_below_drewN | apply below_drew1 | refine below_set ?_ GE80.out) | exact HB.out))) : w.heap.size ≤ gb126)); have n4_ := Aside0.mk ((by rw [hg]; exact (below_size (by repeat (first | (with_reducible first | exact HB.out | apply below_alloc | apply pw_below_drewN | apply below_drew1 | refine below_set ?_ GE80.out) | exact HB.out))) : w.heap.size ≤ gb126)); have n5_ := Aside0.mk ((by rw [hg]; exact Nat.ne_of_lt (blk_lt (g := 0) (o := .cells #[.int .u64 0, .int .u64 0, .bool true] tG0 frG0) (by (with_reducible repeat (first | refine blk_drewN ?_ _ | refine blk_drew ?_ | refine blk_alloc ?_ _)); exact BK80.out)) : 0 ≠ gb126)); have n6_ := Aside0.mk ((by rw [hg]; exact Nat.ne_of_gt (blk_lt (g := 0) (o := .cells #[.int .u64 0, .int .u64 0, .bool true] tG0 frG0) (by (with_reducible repeat (first | refine blk_drewN ?_ _ | refine blk_drew ?_ | refine blk_alloc ?_ _)); exact BK80.out)) : gb126 ≠ 0)); clear BK80; clear HB; have BK80 := n0_; have HB := n1_; have BK126 := n2_; have GW126 := n3_; have GE126 := n4_; have NB80_126 := n5_; have NB126_80 := n6_; clear n0_ n1_ n2_ n3_ n4_ n5_ n6_; clear hb hbox hg) | ((with_reducible refine gate_callee (f := 50) rfl ?_); refine goesL_ (some 11) rfl rfl Tryd.func50 (by kernel_rfl) rfl #[.string a0, .string a1, .int .u64 2305843009213693951, .int .i64 2] rfl (by (try simp only [List.map_toArray, List.map_cons, List.map_nil]); first | done | rfl | (simp only [List.length_drop, List.length_take]; rfl)) ?_; (with_reducible refine (impl_HashToField.calls k a0 a1 2305843009213693951 2 t127 false _ (G_below (by repeat (first | (with_reducible first | exact HB.out | apply below_alloc | apply pw_below_drewN | apply below_drew1 | refine below_set ?_ GE80.out | refine below_set ?_ GE126.out) | exact HB.out)) HG.out) A3.out).mono ?_); rintro e w21 ⟨v129, rfl, ho0, hb⟩; refine ⟨_, rfl, ?_⟩; have n0_ := Aside0.mk (Kd.R_lower ho0 (below_size (by repeat (first | (with_reducible first | exact HB.out | apply below_alloc | apply pw_below_drewN | apply below_drew1 | refine below_set ?_ GE80.out | refine below_set ?_ GE126.out) | exact HB.out)))); have n1_ := Aside0.mk (blk_below (g := 0) (o := .cells #[.int .u64 0, .int .u64 0, .bool true] tG0 frG0) (by (with_reducible repeat (first | refine blk_drewN ?_ _ | refine blk_drew ?_ | refine blk_alloc ?_ _)); exact BK80.out) hb); have n2_ := Aside0.mk (blk_below (g := gb126) (o := .cells #[.int .u64 0, .int .u64 0, .bool false] 25 (0, 0)) (by (with_reducible repeat (first | refine blk_drewN ?_ _ | refine blk_drew ?_ | refine blk_alloc ?_ _)); exact BK126.out) hb); have n3_ := Aside0.mk (below_step (by repeat (first | (with_reducible first | exact HB.out | apply below_alloc | apply pw_below_drewN | apply below_drew1 | refine below_set ?_ GE80.out | refine below_set ?_ GE126.out) | exact HB.out)) hb); clear BK80; clear BK126; clear HB; have HO130 := n0_; have BK80 := n1_; have BK126 := n2_; have HB := n3_; clear n0_ n1_ n2_ n3_; (try clear hb); (try clear hb2); (try clear hk); (try clear hi); (try clear ho0); have hnb22 := NB80_126.out; have hnc22 := NB126_80.out; have hcz23_0 : w21.cell? ⟨0, 0, none⟩ = some (.int .u64 0) := (blk_cellG BK80.out 0).trans rfl; have hcz23_1 : w21.cell? ⟨0, 1, none⟩ = some (.int .u64 0) := (blk_cellG BK80.out 1).trans rfl; have hcz23_2 : w21.cell? ⟨0, 2, none⟩ = some (.bool true) := (blk_cellG BK80.out 2).trans rfl; have hfz23_0 := trivial; have hfz23_1 := trivial; have hfz23_2 := trivial; have hcz24_0 : w21.cell? ⟨gb126, 0, none⟩ = some (.int .u64 0) := (blk_cell BK126.out 0).trans rfl; have hcz24_1 : w21.cell? ⟨gb126, 1, none⟩ = some (.int .u64 0) := (blk_cell BK126.out 1).trans rfl; have hcz24_2 : w21.cell? ⟨gb126, 2, none⟩ = some (.bool false) := (blk_cell BK126.out 2).trans rfl; have hfz24_0 := blk_frozen BK126.out 0; have hfz24_1 := blk_frozen BK126.out 1; have hfz24_2 := blk_frozen BK126.out 2))
    refine bodyPost_ret (results_ct rfl _ _ gb126 25 #[.int .u64 0, .int .u64 0, .bool true] (0, 0) _ rfl (by (with_reducible repeat (first | refine blk_drewN ?_ _ | refine blk_drew ?_ | refine blk_alloc ?_ _)); refine blk_put (cs := #[.int .u64 0, .int .u64 0, .bool false]) ?_ 2 _ rfl; (with_reducible repeat (first | refine blk_drewN ?_ _ | refine blk_drew ?_ | refine blk_alloc ?_ _)); refine blk_put (cs := #[.int .u64 0, .int .u64 0, .bool false]) ?_ 1 _ rfl; (with_reducible repeat (first | refine blk_drewN ?_ _ | refine blk_drew ?_ | refine blk_alloc ?_ _)); refine blk_put (cs := #[.int .u64 0, .int .u64 0, .bool false]) ?_ 0 _ rfl; (with_reducible repeat (first | refine blk_drewN ?_ _ | refine blk_drew ?_ | refine blk_alloc ?_ _)); exact BK126.out) Tryd.underlying25 rfl (by kernel_rfl)) rfl ?_
    exact ⟨by first | rfl | (simp [errW_none, errW_some] <;> rfl) | (simp [*, errW_none, errW_some] <;> rfl), by repeat (first | (with_reducible first | exact HB.out | apply below_alloc | apply pw_below_drewN | apply below_drew1 | refine below_set ?_ GE80.out | refine below_set ?_ GE126.out) | exact HB.out)⟩

end Go.Proofs.YtoejhekppfgmpaaDoor.F
end
section
namespace Go.Proofs.YtoejhekppfgmpaaDoor.Pure
open Go.RowKit Go.Proofs.YtoejhekppfgmpaaDoor.Hf Go.Proofs.YtoejhekppfgmpaaDoor.Hp Go.Proofs.YtoejhekppfgmpaaDoor.Mp Go.Proofs.YtoejhekppfgmpaaDoor.MC Go.Proofs.YtoejhekppfgmpaaDoorW.PrintWords Go.Proofs.YtoejhekppfgmpaaDoorW.PrintLast Go.Proofs.YtoejhekppfgmpaaDoorW.PrintMore Go.Proofs.YtoejhekppfgmpaaDoor.B Go.Proofs.YtoejhekppfgmpaaDoor.C Go.Proofs.YtoejhekppfgmpaaDoor.F
open EC Fp Grp Vi
theorem rdm_range {m : Int} (hm : 0 < m) (a : ByteArray) : 0 ≤ rdm m a ∧ rdm m a < m := by
  unfold rdm
  split
  · omega
  · exact R1.red_range hm _ _ _ (by omega) hm
theorem rd_hl (m : Int) (hm : 0 < m) (s : ByteArray) : ∀ (j i : Nat), i < j → 0 ≤ rd (Hf.hl m s j) i ∧ rd (Hf.hl m s j) i < m
  | 0, i, h => by omega
  | j + 1, i, h => by
    unfold rd
    rw [Hf.hl, List.getD_eq_getElem?_getD]
    simp only [Int.toNat_natCast]
    by_cases e : i = j
    · subst e
      rw [List.getElem?_append_right (by rw [hl_len]; omega), hl_len, Nat.sub_self]
      exact rdm_range hm _
    · rw [List.getElem?_append_left (by rw [hl_len]; omega)]
      have := rd_hl m hm s j i (by omega)
      unfold rd at this
      rw [List.getD_eq_getElem?_getD] at this
      simpa using this
theorem htf_two (a b : ByteArray) (h : (htf a b 2305843009213693951 2).2 = true) : (htf a b 2305843009213693951 2).1.length = 2 ∧ (0 ≤ rd (htf a b 2305843009213693951 2).1 0 ∧ rd (htf a b 2305843009213693951 2).1 0 < 18446744073709551616) ∧ (0 ≤ rd (htf a b 2305843009213693951 2).1 1 ∧ rd (htf a b 2305843009213693951 2).1 1 < 18446744073709551616) := by
  unfold htf at h ⊢
  split
  · rename_i g; rw [if_pos g] at h; cases h
  · rename_i g
    rw [if_neg g] at h
    split
    · rename_i g2; rw [if_pos g2] at h; cases h
    · rw [show (2 : Int).toNat = 2 from rfl]
      have h0 := rd_hl 2305843009213693951 (by decide) (KE2.em1 a b (24 * 2)) 2 0 (by omega)
      have h1 := rd_hl 2305843009213693951 (by decide) (KE2.em1 a b (24 * 2)) 2 1 (by omega)
      rw [show ((0 : Nat) : Int) = 0 from rfl] at h0
      rw [show ((1 : Nat) : Int) = 1 from rfl] at h1
      have h2 := hl_len 2305843009213693951 (KE2.em1 a b (24 * 2)) 2
      dsimp only
      generalize Hf.hl 2305843009213693951 (KE2.em1 a b (24 * 2)) 2 = z at *
      exact ⟨h2, ⟨h0.1, by omega⟩, ⟨h1.1, by omega⟩⟩
/-- what a message hashes to -/
theorem htg_both (a b : ByteArray) : ∃ p : Pt, Cv p ∧ ∃ ok : Bool, spec_HashToGroup.f 702000 a b = some ((enc p).1, (enc p).2.1, (enc p).2.2, ok) ∧ impl_HashToGroup.f 702000 a b = some ((enc p).1, (enc p).2.1, (enc p).2.2, ok) := by
  unfold spec_HashToGroup.f impl_HashToGroup.f
  rw [spec_htf a b _ 2 (by omega) (by omega) (by omega), impl_htf a b _ 2 (by omega) (by omega) (by omega), Option.bind_some, Option.bind_some]
  by_cases g : (htf a b 2305843009213693951 2).2 = true
  · obtain ⟨hl2, h0, h1⟩ := htf_two a b g
    obtain ⟨p, cp, _, ep⟩ := map_enc _ h0.1 h0.2
    obtain ⟨q, cq, _, eq⟩ := map_enc _ h1.1 h1.2
    refine ⟨pl p q, on_add cp cq, true, ?_, ?_⟩
    · rw [if_pos g, if_pos (by omega), map_same _ h0.1 h0.2 (by omega), ep, Option.bind_some, if_pos (by omega), map_same _ h1.1 h1.2 (by omega), eq, Option.bind_some, l3Sum_spec p q (by omega), Option.bind_some]
    · rw [if_pos g, if_pos (by omega), ep, Option.bind_some, if_pos (by omega), eq, Option.bind_some, add_impl p q cp cq (by omega), Option.bind_some]
  · exact ⟨.zero, trivial, false, by rw [if_neg g]; rfl, by rw [if_neg g]; rfl⟩
end Go.Proofs.YtoejhekppfgmpaaDoor.Pure
end
section
namespace Go.Proofs.YtoejhekppfgmpaaDoor.VaHashToGroup
open Go Go.RowKit Go.Proofs.YtoejhekppfgmpaaDoorW.PrintWords Go.Proofs.YtoejhekppfgmpaaDoorW.PrintLast Go.Proofs.YtoejhekppfgmpaaDoorW.PrintMore Go.Proofs.YtoejhekppfgmpaaDoor.Ve Go.Proofs.YtoejhekppfgmpaaDoor.VeT Go.Proofs.YtoejhekppfgmpaaDoor.VeE Go.Proofs.YtoejhekppfgmpaaDoor.G3 Go.Proofs.YtoejhekppfgmpaaDoor.C Go.Proofs.YtoejhekppfgmpaaDoor.F Go.Proofs.YtoejhekppfgmpaaDoor.Pure
set_option linter.unusedVariables false
set_option linter.unusedSimpArgs false
set_option maxRecDepth 100000 in
set_option maxHeartbeats 4000000 in
theorem eqPoint_same (x y : Int) (i : Bool) (w : World) : Calls Tryd.prog 35 #[.agg #[.int .u64 x, .int .u64 y, .bool i], .agg #[.int .u64 x, .int .u64 y, .bool i]] w fun e w' => e = .returned (.bool true) ∧ Below w.heap.size w w' := by
  refine ve_fn (args := [.agg #[.int .u64 x, .int .u64 y, .bool i], .agg #[.int .u64 x, .int .u64 y, .bool i]]) Tryd.func35 rfl Tryd.ntmps35 rfl (good (Γ := fun _ => True) (fun _ _ => trivial)) ?_
  repeat' (first | refine rbt ?_ | refine rbf ?_ | refine wn ?_ | refine wq ?_ | refine wc_plain ?_ | refine wc_draw ?_ | refine rZ ?_ | refine rD ?_ | refine ve8 ?_ | refine ve4 ?_ | refine ve3 ?_ | refine ve1 ?_ | refine ve2 ?_ | refine ve5 ?_ | refine ve6 ?_ | refine ve7 ?_ | refine ve9 ?_ | refine rA ?_ | refine rE ?_ | refine rC ?_ | refine rB ?_ | refine rG ?_ | refine rH ?_ | refine rI ?_ | refine rJ ?_ | refine rcb ?_ | refine wb ?_ | refine wk ?_ | refine we ?_ | exact wt | refine wr ?_ | refine rr1 ?_ | refine rr2 ?_ | exact fr | exact fe | refine wTs ?_ | refine wFs ?_ | refine rof ?_ | refine rof0 ?_)
def laws_FnExactHashToGroup.f (a b : ByteArray) : Option Bool := some true
set_option maxRecDepth 100000 in
set_option maxHeartbeats 8000000 in
theorem laws_FnExactHashToGroup.calls (a b : ByteArray) (r : Bool) (w : World) (hG : G w) (h : laws_FnExactHashToGroup.f a b = some r) :
    Calls Tryd.prog 7 #[.string a, .string b] w fun e w' => e = .returned (.bool r) ∧ Below w.heap.size w w' := by
  obtain rfl := Option.some.inj h
  clear h
  refine ve_fn (args := [.string a, .string b]) Tryd.func7 rfl Tryd.ntmps7 rfl (good (Γ := fun W => G W) (fun W hb => G_below hb hG)) ?_
  by_cases ha : (a.size : Int) > 1048576
  · repeat' (first | refine rbt ?_ | refine rbf ?_ | refine wn ?_ | refine wq ?_ | refine wc_plain ?_ | refine wc_draw ?_ | refine rZ ?_ | refine rD ?_ | refine ve8 ?_ | refine ve4 ?_ | refine ve3 ?_ | refine ve1 ?_ | refine ve2 ?_ | refine ve5 ?_ | refine ve6 ?_ | refine ve7 ?_ | refine ve9 ?_ | refine rA ?_ | refine rE ?_ | refine rC ?_ | refine rB ?_ | refine rG ?_ | refine rH ?_ | refine rI ?_ | refine rJ ?_ | refine rcb ?_ | refine wb ?_ | refine wk ?_ | refine we ?_ | exact wt | refine wr ?_ | refine rr1 ?_ | refine rr2 ?_ | exact fr | exact fe | refine wTs ?_ | refine wFs ?_ | refine rof ?_ | refine rof0 ?_)
  · by_cases hb : (b.size : Int) > 1048576
    · repeat' (first | refine rbt ?_ | refine rbf ?_ | refine wn ?_ | refine wq ?_ | refine wc_plain ?_ | refine wc_draw ?_ | refine rZ ?_ | refine rD ?_ | refine ve8 ?_ | refine ve4 ?_ | refine ve3 ?_ | refine ve1 ?_ | refine ve2 ?_ | refine ve5 ?_ | refine ve6 ?_ | refine ve7 ?_ | refine ve9 ?_ | refine rA ?_ | refine rE ?_ | refine rC ?_ | refine rB ?_ | refine rG ?_ | refine rH ?_ | refine rI ?_ | refine rJ ?_ | refine rcb ?_ | refine wb ?_ | refine wk ?_ | refine we ?_ | exact wt | refine wr ?_ | refine rr1 ?_ | refine rr2 ?_ | exact fr | exact fe | refine wTs ?_ | refine wFs ?_ | refine rof ?_ | refine rof0 ?_)
    · obtain ⟨p, _, ok, e1, e2⟩ := htg_both a b
      generalize (enc p).1 = x at *
      generalize (enc p).2.1 = y at *
      generalize (enc p).2.2 = i at *
      repeat' (first | refine rbt ?_ | refine rbf ?_ | refine wn ?_ | refine wq ?_ | refine wc_plain ?_ | refine wc_draw ?_ | refine rZ ?_ | refine rD ?_ | refine ve8 ?_ | refine ve4 ?_ | refine ve3 ?_ | refine ve1 ?_ | refine ve2 ?_ | refine ve5 ?_ | refine ve6 ?_ | refine ve7 ?_ | refine ve9 ?_ | refine rA ?_ | refine rE ?_ | refine rC ?_ | refine rB ?_ | refine rG ?_ | refine rH ?_ | refine rI ?_ | refine rJ ?_ | refine rcb ?_ | refine rcp (Pre := spec_HashToGroup.f _ _ _ = some (_, _, _, _)) (fun hp_ w_ hΓ => spec_HashToGroup.calls _ _ _ _ _ _ _ w_ hp_) ?_ | refine rcp (Pre := impl_HashToGroup.f _ _ _ = some (_, _, _, _)) (fun hp_ w_ hΓ => impl_HashToGroup.calls _ _ _ _ _ _ _ w_ (by first | exact hΓ | exact hΓ.1 | exact hΓ.z | exact hΓ.r | exact hΓ.1.z | exact hΓ.1.r) hp_) ?_ | refine rc (fun w_ _ => eqPoint_same _ _ _ w_) ?_ | refine wb ?_ | refine wk ?_ | refine we ?_ | exact wt | refine wr ?_ | refine rr1 ?_ | refine rr2 ?_ | exact fr | exact fe | refine wTs ?_ | refine wFs ?_ | refine rof ?_ | refine rof0 ?_)
end Go.Proofs.YtoejhekppfgmpaaDoor.VaHashToGroup
namespace Go.Proofs.YtoejhekppfgmpaaDoor.Pure
open Go Go.RowKit Go.Proofs.YtoejhekppfgmpaaDoor.VaHashToGroup
theorem FnExactHashToGroup (a b : ByteArray) (_h1 : a.size ≤ 140737488351232) (_h2 : b.size ≤ 140737488351232) : ∃ _k : Nat, VaHashToGroup.laws_FnExactHashToGroup.f a b = some true := ⟨0, rfl⟩
end Go.Proofs.YtoejhekppfgmpaaDoor.Pure
end
