/- What the proof of FnKeys leans on, part 26: cut out of the texts of this claim's making by a program (wip/tools/pack.py). -/
import Derived.Test.YtgdcafbdkidamaaGreatDoorKKeys10
import Derived.LoopIn
import Derived.LoopNIn
import Derived.Outline
import Derived.OwnWalkIn
import Derived.RangeFuncBound
import Derived.RangeFuncBox
import Derived.RangeFuncCalls
import Derived.RangeFuncLeaves
import Derived.RangeFuncNested
import Derived.Shelf.Abstract
import Derived.Shelf.RegionOpen
import Derived.TacticsInMore
import Derived.WalkKit
section
namespace Go.Proofs.YtgdcafbdkidamaaGreatDoor.H1
open Go.RowKit Go.Shelf Go.Proofs.YtgdcafbdkidamaaGreatDoorW.PrintWords Go.Proofs.YtgdcafbdkidamaaGreatDoor.H0
attribute [local go_sem] Oper.semAt_some
/-- bit i of e, as the walk spells it -/
def xbit (e : Int) (i : Nat) : Bool := Go.bits .and .u64 (e / 2 ^ i) 1 == 1
/-- the bits n - 1, .., 0 -/
def bitsDown (e : Int) : Nat → List Bool
  | 0 => []
  | n + 1 => xbit e n :: bitsDown e n
/-- all bits of e, the highest first -/
def bitsOf (e : Int) : List Bool := bitsDown e (Lib.bitLen e.toNat)

theorem bitLen_le (x : Nat) (h : x < 2 ^ 64) : Lib.bitLen x ≤ 64 := by
  exact Lib.bitLen_le x 64 (by omega) (by omega)

/-- the loop keeps the number's box -/
def KeepBox (B : Nat) (W W' : World) : Prop := W'.heap[B]? = W.heap[B]?

theorem keepBox_t {B : Nat} {X Y Z : World} (h : KeepBox B X Y) (k : KeepBox B Y Z) : KeepBox B X Z := Eq.trans k h
theorem keepBox_b {B : Nat} {w : World} (hB : B < w.heap.size) (W : World) (l : Nat) (o o' : Obj) (hl : w.heap.size ≤ l) (_ : W.heap[l]? = some o) (_ : o.isCells = false) (_ : o.isWalk = false) : KeepBox B W (W.putObj l o') :=
  World.putObj_heap_other (by omega)

theorem bits_iter (l B : Nat) (t : TypeId) (e : Int) (he0 : 0 ≤ e) (he : e ≤ 18446744073709551615) (J Jx : List Bool → World → Prop) (W : World) (hB : Boxed W B t (.int .u64 e))
    (hJ : AbidesFrom W.heap.size J)
    (hY : ∀ pre x W1, J pre W1 → pre.length < 64 → YieldAt Fence.wide 3 Tryz.prog l #[.bool x] W1 fun e W' =>
      (e = .returned (.bool true) ∧ J (pre ++ [x]) W' ∧ KeepBox B W1 W') ∨ (e = .returned (.bool false) ∧ Jx (pre ++ [x]) W'))
    (h0 : J [] W) :
    CallsIn Fence.wide 4 Tryz.prog 145 #[.func (.yield l) #[] #[], .pointer (some ⟨B, 0, none⟩)] W fun en W' => (∃ v, en = .returned v) ∧
      ((∃ xs, xs = bitsOf e ∧ J xs W') ∨ (∃ pre, True ∧ Jx pre W')) := by
  refine callsIn_of_wp Tryz.func145 rfl trivial ?_ rfl
  simp only [Tryz.ntmps145, List.size_toArray, List.length_cons, List.length_nil, Nat.reduceAdd, Nat.reduceSub, Array.replicate_succ, Array.replicate_zero, List.push_toArray, List.append_toArray, List.nil_append, List.cons_append]
  have hc := hB.cell
  have hn := bitLen_le e.toNat (by omega)
  gi_wp2_with (refine ⟨trivial, ?_⟩; gi_at_call 146; refine (callsIn_wide.2 (Tryz.bits_Len64 e _ he0 he)).mono ?_; rintro en w' ⟨rfl, rfl⟩)
  gi_loopw [3] (fun i wr => ∃ (m : Nat) (pre : List Bool), i = .int .i64 ((m : Int) - 1) ∧ bitsOf e = pre ++ bitsDown e m ∧ pre.length + m ≤ 64 ∧ J pre wr ∧ Boxed wr B t (.int .u64 e))
    (fun i _ => (intOf i + 1).toNat)
  case atStart => exact ⟨Lib.bitLen e.toNat, [], rfl, rfl, by simpa using hn, h0, hB⟩
  case round =>
    obtain ⟨m, pre, rfl, hx, hm, hJs, hbx⟩ := hrel
    have hc := hbx.cell
    cases m with
    | zero =>
      gi_wp2
      go_end0
      exact ⟨⟨_, rfl⟩, .inl ⟨pre, by simpa [bitsDown] using hx.symm, hJs⟩⟩
    | succ m =>
      obtain ⟨fn, tmps, assign, body, hy, hR⟩ := hY pre (xbit e m) wr hJs (by omega)
      have hx' : bitsOf e = (pre ++ [xbit e m]) ++ bitsDown e m := by rw [hx]; simp [bitsDown]
      unfold xbit at hy
      gi_wp2
      refine hR.mono ?_
      rintro en W3 (⟨rfl, hJ3, hk3⟩ | ⟨rfl, hJx3⟩)
      · have hbx3 : Boxed W3 B t (.int .u64 e) := Eq.trans hk3 hbx
        gi_wp2
        go_roundw
        case rel => exact ⟨m, _, by go_num, hx', by simp only [List.length_append, List.length_cons, List.length_nil]; omega, hJ3, hbx3⟩
        case measure => simp [intOf] <;> omega
      · gi_wp2
        refine bodyPost_ret (results_none rfl _ _ _) rfl ?_
        exact ⟨⟨_, rfl⟩, .inr ⟨_, trivial, hJx3⟩⟩

theorem highBits_any (e : Int) (w : World) : Calls Tryz.prog 118 #[.int .u64 e] w fun en w' =>
    en = .returned (.func (.func 145) #[] #[.pointer (some ⟨w.heap.size, 0, none⟩)]) ∧ w' = w.alloc (.cells #[.int .u64 e] 22) := by
  go_enter Tryz.func118, Tryz.ntmps118
  go_wp2
  go_ret
  exact ⟨rfl, rfl⟩

theorem bits_stops (B : Nat) (t : TypeId) (e : Int) (he0 : 0 ≤ e) (he : e ≤ 18446744073709551615) (w : World) (hB : Boxed w B t (.int .u64 e)) :
    SeqStopsK Fence.wide 4 Tryz.prog 145 #[.pointer (some ⟨B, 0, none⟩)] (fun x : Bool => #[.bool x]) (KeepBox B) (fun xs => xs = bitsOf e) (fun _ => True) 64 w :=
  fun l J Jx W hW hJ _ hY h0 => bits_iter l B t e he0 he J Jx W ((hW.block B hB.lt).trans hB) hJ hY h0

theorem gb_refl (W : World) (row : Option Nat) : W.grownBy W row := ⟨rfl, rfl, rfl, Nat.le_refl _, fun _ _ _ => rfl⟩
theorem gb_drewN {W W' : World} {row : Option Nat} (h : W.grownBy W' row) (n : Nat) : W.grownBy (W'.drewN n) row := ⟨h.os, h.tape, h.output, h.size, h.block⟩
theorem gb_set {W W' : World} {B : Nat} (h : W.grownBy W' (some B)) (v : Value) : W.grownBy (W'.setCell ⟨B, 0, none⟩ v) (some B) :=
  have g := grownBy_setCell' W' B v
  ⟨g.os.trans h.os, g.tape.trans h.tape, g.output.trans h.output, Nat.le_trans h.size g.size, fun k hk hn => (g.block k (Nat.lt_of_lt_of_le hk h.size) hn).trans (h.block k hk hn)⟩
theorem gb_below {W W' W2 : World} {row : Option Nat} (h : W.grownBy W' row) (hb : Below W'.heap.size W' W2) : W.grownBy W2 row :=
  ⟨hb.os.trans h.os, hb.tape.trans h.tape, hb.output.trans h.output, Nat.le_trans h.size hb.size, fun k hk hn => (hb.block k (Nat.lt_of_lt_of_le hk h.size)).trans (h.block k hk hn)⟩
theorem boxed_below {W W' : World} {B : Nat} {t : TypeId} {v : Value} (h : Boxed W B t v) (hb : Below W.heap.size W W') : Boxed W' B t v := (hb.block B h.lt).trans h
theorem keeps_of_gb {W W' : World} {B : Nat} {t : TypeId} {v : Value} (h : Boxed W B t v) (hg : W.grownBy W' (some B)) : KeepsOthers W W' :=
  KeepsOthers.of_grownBy hg (fun j o e ho => by cases e; rw [show W.heap[B]? = _ from h] at ho; cases ho; rfl)
theorem keepBox_of_gb {W W' : World} {B C : Nat} (hg : W.grownBy W' (some B)) (hC : C < W.heap.size) (hne : C ≠ B) : KeepBox C W W' := hg.block C hC (by simp [hne])
theorem below_of_gb {w W W' : World} {B n : Nat} (hB : Below n w W) (hg : W.grownBy W' (some B)) (hn : n ≤ W.heap.size) (hle : n ≤ B) : Below n w W' :=
  hB.trans ⟨hg.os, hg.tape, hg.output, hg.size, fun k hk => hg.block k (by omega) (by simp; omega)⟩

end Go.Proofs.YtgdcafbdkidamaaGreatDoor.H1
end
