/- What the proof of FnExactMapToCurve leans on, part 6: cut out of the texts of this claim's making by a program (wip/tools/pack.py). -/
import Derived.Test.YtkefcokmghbmhaaKMapToCurve4
import Derived.Test.YtkefcokmghbmhaaKMapToCurve5
import Derived.Below
import Derived.LoopIn
import Derived.LoopNIn
import Derived.Outline
import Derived.OwnWalkIn
import Derived.RangeFuncBound
import Derived.RangeFuncBox
import Derived.RangeFuncCalls
import Derived.RangeFuncLeaves
import Derived.RangeFuncNested
import Derived.Shelf.Abstract
import Derived.Shelf.RegionOpen
import Derived.TacticsInMore
import Derived.WalkKit
section
namespace Go.Proofs.Ytkefcokmghbmhaa.H1
open Go.RowKit Go.Shelf Go.Proofs.YtkefcokmghbmhaaW.PrintWords Go.Proofs.Ytkefcokmghbmhaa.H0
attribute [local go_sem] Oper.semAt_some
/-- bit i of e, as the walk spells it -/
def xbit (e : Int) (i : Nat) : Bool := Go.bits .and .u64 (e / 2 ^ i) 1 == 1
/-- the bits n - 1, .., 0 -/
def bitsDown (e : Int) : Nat → List Bool
  | 0 => []
  | n + 1 => xbit e n :: bitsDown e n
/-- all bits of e, the highest first -/
def bitsOf (e : Int) : List Bool := bitsDown e (Lib.bitLen e.toNat)

theorem bitLen_le (x : Nat) (h : x < 2 ^ 64) : Lib.bitLen x ≤ 64 := by
  exact Lib.bitLen_le x 64 (by omega) (by omega)

/-- the loop keeps the number's box -/
def KeepBox (B : Nat) (W W' : World) : Prop := W'.heap[B]? = W.heap[B]?

theorem keepBox_t {B : Nat} {X Y Z : World} (h : KeepBox B X Y) (k : KeepBox B Y Z) : KeepBox B X Z := Eq.trans k h
theorem keepBox_b {B : Nat} {w : World} (hB : B < w.heap.size) (W : World) (l : Nat) (o o' : Obj) (hl : w.heap.size ≤ l) (_ : W.heap[l]? = some o) (_ : o.isCells = false) (_ : o.isWalk = false) : KeepBox B W (W.putObj l o') :=
  World.putObj_heap_other (by omega)

theorem bits_iter (l B : Nat) (t : TypeId) (e : Int) (he0 : 0 ≤ e) (he : e ≤ 18446744073709551615) (J Jx : List Bool → World → Prop) (W : World) (hB : Boxed W B t (.int .u64 e))
    (hJ : AbidesFrom W.heap.size J)
    (hY : ∀ pre x W1, J pre W1 → pre.length < 64 → YieldAt Fence.wide 3 Try.prog l #[.bool x] W1 fun e W' =>
      (e = .returned (.bool true) ∧ J (pre ++ [x]) W' ∧ KeepBox B W1 W') ∨ (e = .returned (.bool false) ∧ Jx (pre ++ [x]) W'))
    (h0 : J [] W) :
    CallsIn Fence.wide 4 Try.prog 30 #[.func (.yield l) #[] #[], .pointer (some ⟨B, 0, none⟩)] W fun en W' => (∃ v, en = .returned v) ∧
      ((∃ xs, xs = bitsOf e ∧ J xs W') ∨ (∃ pre, True ∧ Jx pre W')) := by
  refine callsIn_of_wp Try.func30 rfl trivial ?_ rfl
  simp only [Try.ntmps30, List.size_toArray, List.length_cons, List.length_nil, Nat.reduceAdd, Nat.reduceSub, Array.replicate_succ, Array.replicate_zero, List.push_toArray, List.append_toArray, List.nil_append, List.cons_append]
  have hc := hB.cell
  have hn := bitLen_le e.toNat (by omega)
  gi_wp2_with (refine ⟨trivial, ?_⟩; gi_at_call 31; refine (callsIn_wide.2 (Try.bits_Len64 e _ he0 he)).mono ?_; rintro en w' ⟨rfl, rfl⟩)
  gi_loopw [3] (fun i wr => ∃ (m : Nat) (pre : List Bool), i = .int .i64 ((m : Int) - 1) ∧ bitsOf e = pre ++ bitsDown e m ∧ pre.length + m ≤ 64 ∧ J pre wr ∧ Boxed wr B t (.int .u64 e))
    (fun i _ => (intOf i + 1).toNat)
  case atStart => exact ⟨Lib.bitLen e.toNat, [], rfl, rfl, by simpa using hn, h0, hB⟩
  case round =>
    obtain ⟨m, pre, rfl, hx, hm, hJs, hbx⟩ := hrel
    have hc := hbx.cell
    cases m with
    | zero =>
      gi_wp2
      go_end0
      exact ⟨⟨_, rfl⟩, .inl ⟨pre, by simpa [bitsDown] using hx.symm, hJs⟩⟩
    | succ m =>
      obtain ⟨fn, tmps, assign, body, hy, hR⟩ := hY pre (xbit e m) wr hJs (by omega)
      have hx' : bitsOf e = (pre ++ [xbit e m]) ++ bitsDown e m := by rw [hx]; simp [bitsDown]
      unfold xbit at hy
      gi_wp2
      refine hR.mono ?_
      rintro en W3 (⟨rfl, hJ3, hk3⟩ | ⟨rfl, hJx3⟩)
      · have hbx3 : Boxed W3 B t (.int .u64 e) := Eq.trans hk3 hbx
        gi_wp2
        go_roundw
        case rel => exact ⟨m, _, by go_num, hx', by simp only [List.length_append, List.length_cons, List.length_nil]; omega, hJ3, hbx3⟩
        case measure => simp [intOf] <;> omega
      · gi_wp2
        refine bodyPost_ret (results_none rfl _ _ _) rfl ?_
        exact ⟨⟨_, rfl⟩, .inr ⟨_, trivial, hJx3⟩⟩

theorem highBits_any (e : Int) (w : World) : Calls Try.prog 28 #[.int .u64 e] w fun en w' =>
    en = .returned (.func (.func 30) #[] #[.pointer (some ⟨w.heap.size, 0, none⟩)]) ∧ w' = w.alloc (.cells #[.int .u64 e] 22) := by
  go_enter Try.func28, Try.ntmps28
  go_wp2
  go_ret
  exact ⟨rfl, rfl⟩

theorem bits_stops (B : Nat) (t : TypeId) (e : Int) (he0 : 0 ≤ e) (he : e ≤ 18446744073709551615) (w : World) (hB : Boxed w B t (.int .u64 e)) :
    SeqStopsK Fence.wide 4 Try.prog 30 #[.pointer (some ⟨B, 0, none⟩)] (fun x : Bool => #[.bool x]) (KeepBox B) (fun xs => xs = bitsOf e) (fun _ => True) 64 w :=
  fun l J Jx W hW hJ _ hY h0 => bits_iter l B t e he0 he J Jx W ((hW.block B hB.lt).trans hB) hJ hY h0

theorem gb_refl (W : World) (row : Option Nat) : W.grownBy W row := ⟨rfl, rfl, rfl, Nat.le_refl _, fun _ _ _ => rfl⟩
theorem gb_set {W W' : World} {B : Nat} (h : W.grownBy W' (some B)) (v : Value) : W.grownBy (W'.setCell ⟨B, 0, none⟩ v) (some B) :=
  have g := grownBy_setCell' W' B v
  ⟨g.os.trans h.os, g.tape.trans h.tape, g.output.trans h.output, Nat.le_trans h.size g.size, fun k hk hn => (g.block k (Nat.lt_of_lt_of_le hk h.size) hn).trans (h.block k hk hn)⟩
theorem gb_below {W W' W2 : World} {row : Option Nat} (h : W.grownBy W' row) (hb : Below W'.heap.size W' W2) : W.grownBy W2 row :=
  ⟨hb.os.trans h.os, hb.tape.trans h.tape, hb.output.trans h.output, Nat.le_trans h.size hb.size, fun k hk hn => (hb.block k (Nat.lt_of_lt_of_le hk h.size)).trans (h.block k hk hn)⟩
theorem boxed_below {W W' : World} {B : Nat} {t : TypeId} {v : Value} (h : Boxed W B t v) (hb : Below W.heap.size W W') : Boxed W' B t v := (hb.block B h.lt).trans h
theorem keeps_of_gb {W W' : World} {B : Nat} {t : TypeId} {v : Value} (h : Boxed W B t v) (hg : W.grownBy W' (some B)) : KeepsOthers W W' :=
  KeepsOthers.of_grownBy hg (fun j o e ho => by cases e; rw [show W.heap[B]? = _ from h] at ho; cases ho; rfl)
theorem keepBox_of_gb {W W' : World} {B C : Nat} (hg : W.grownBy W' (some B)) (hC : C < W.heap.size) (hne : C ≠ B) : KeepBox C W W' := hg.block C hC (by simp [hne])
theorem below_of_gb {w W W' : World} {B n : Nat} (hB : Below n w W) (hg : W.grownBy W' (some B)) (hn : n ≤ W.heap.size) (hle : n ≤ B) : Below n w W' :=
  hB.trans ⟨hg.os, hg.tape, hg.output, hg.size, fun k hk => hg.block k (by omega) (by simp; omega)⟩

end Go.Proofs.Ytkefcokmghbmhaa.H1
end
section
namespace Go.Proofs.Ytkefcokmghbmhaa.CR
open Go Go.RowKit Go.Proofs.YtkefcokmghbmhaaW.PrintWords Go.Proofs.YtkefcokmghbmhaaW.PrintLast Go.Proofs.YtkefcokmghbmhaaW.PrintMore Go.Proofs.Ytkefcokmghbmhaa.H1
set_option linter.unusedVariables false
/-- One region: the frame and the world at its start; the one old block that may change; what each operation with a destination gives (by its number), as a function of the new boxes' blocks; the new boxes (the operation that makes it, the one that fills it, the cell); the old box that is filled. -/
structure Cfg where
  a0 : Act
  w0 : World
  row : Option Nat
  L : (Nat → Nat) → List (Nat × Tmp × Value)
  E : List (Nat × Nat × Value)
  T : TypeId
  R : List (Nat × Nat × Array Value × Array Value × TypeId)

def IB (c : Cfg) (b : Nat → Bool) (a : Act) (w : World) : Prop :=
  ∃ G : Nat → Nat, a = putSel c.a0 b (c.L G) ∧ c.w0.grownBy w c.row ∧
    (∀ e ∈ c.E, b e.1 = true → c.w0.heap.size ≤ G e.1 ∧ w.heap[G e.1]? = some (.cells #[if b e.2.1 = true then e.2.2 else .int .u64 0] c.T (0, 0))) ∧
    (∀ e ∈ c.E, ∀ f ∈ c.E, b e.1 = true → b f.1 = true → G e.1 = G f.1 → e.1 = f.1) ∧
    (∀ x ∈ c.R, x.2.1 < c.w0.heap.size ∧ w.heap[x.2.1]? = some (.cells (if b x.1 = true then x.2.2.2.1 else x.2.2.1) x.2.2.2.2 (0, 0)))

section
variable {P : Program} {ops : Array Oper} {Q : Exit → Act → World → Prop} {B : List Nat} {O : List Nat}
def Hon (O B : List Nat) (i : Nat) (b : Nat → Bool) : Prop := ∀ j, (O.contains j && (B.getD i 0).testBit j) = true → b j = true

theorem wanted_plain {oi : Oper} {a : Act} (hg : oi.guard = none) : Region.wanted oi (yielded ops a.tmps) = true := by simp [Region.wanted, hg]

theorem set_same {α : Type} {l : List α} {k : Nat} {x : α} (h : l[k]? = some x) : l.set k x = l := by
  apply List.ext_getElem?
  intro j
  by_cases hj : k = j
  · subst hj
    obtain ⟨hl, _⟩ := List.getElem?_eq_some_iff.1 h
    rw [List.getElem?_set_self hl, h]
  · rw [List.getElem?_set_ne hj]

theorem lt_of_heap {w : World} {g : Nat} {o : Obj} (h : w.heap[g]? = some o) : g < w.heap.size := (Array.getElem?_eq_some_iff.1 h).1

/-- The operation's number stands in no box's entry: what is known of the boxes stays. -/
theorem keep_E {c : Cfg} {b : Nat → Bool} {i : Nat} {w : World} {G : Nat → Nat} (hE : (c.E.all fun e => !(e.1 == i) && !(e.2.1 == i)) = true)
    (h : ∀ e ∈ c.E, b e.1 = true → c.w0.heap.size ≤ G e.1 ∧ w.heap[G e.1]? = some (.cells #[if b e.2.1 = true then e.2.2 else .int .u64 0] c.T (0, 0))) :
    ∀ e ∈ c.E, up b i e.1 = true → c.w0.heap.size ≤ G e.1 ∧ w.heap[G e.1]? = some (.cells #[if up b i e.2.1 = true then e.2.2 else .int .u64 0] c.T (0, 0)) := by
  intro e he hb
  have h1 := List.all_eq_true.1 hE e he
  simp only [Bool.and_eq_true, Bool.not_eq_true', beq_eq_false_iff_ne] at h1
  rw [up_ne h1.1] at hb
  rw [up_ne h1.2]
  exact h e he hb
theorem keep_D {c : Cfg} {b : Nat → Bool} {i : Nat} {G : Nat → Nat} (hE : (c.E.all fun e => !(e.1 == i) && !(e.2.1 == i)) = true)
    (h : ∀ e ∈ c.E, ∀ f ∈ c.E, b e.1 = true → b f.1 = true → G e.1 = G f.1 → e.1 = f.1) :
    ∀ e ∈ c.E, ∀ f ∈ c.E, up b i e.1 = true → up b i f.1 = true → G e.1 = G f.1 → e.1 = f.1 := by
  intro e he f hf hb hb'
  have h1 := List.all_eq_true.1 hE e he
  have h2 := List.all_eq_true.1 hE f hf
  simp only [Bool.and_eq_true, Bool.not_eq_true', beq_eq_false_iff_ne] at h1 h2
  rw [up_ne h1.1] at hb
  rw [up_ne h2.1] at hb'
  exact h e he f hf hb hb'
theorem keep_R {c : Cfg} {b : Nat → Bool} {i : Nat} {w : World} (hR : (c.R.all fun x => !(x.1 == i)) = true)
    (h : ∀ x ∈ c.R, x.2.1 < c.w0.heap.size ∧ w.heap[x.2.1]? = some (.cells (if b x.1 = true then x.2.2.2.1 else x.2.2.1) x.2.2.2.2 (0, 0))) :
    ∀ x ∈ c.R, x.2.1 < c.w0.heap.size ∧ w.heap[x.2.1]? = some (.cells (if up b i x.1 = true then x.2.2.2.1 else x.2.2.1) x.2.2.2.2 (0, 0)) := by
  intro x hx
  have h1 := List.all_eq_true.1 hR x hx
  simp only [Bool.not_eq_true', beq_eq_false_iff_ne] at h1
  rw [up_ne h1]
  exact h x hx

/-- An operation that gives a value and leaves the world. -/
theorem step_val (c : Cfg) (i k : Nat) (oi : Oper) (t : Tmp) (v : Value) (hi : ops[i]? = some oi) (hg : oi.guard = none) (hd : oi.dst = some t)
    (hk : ∀ G, (c.L G)[k]? = some (i, t, v)) (hu : ∀ G, (((c.L G).take k ++ (c.L G).drop (k + 1)).all fun e => !(e.1 == i) && !(e.2.1 == t)) = true)
    (hE : (c.E.all fun e => !(e.1 == i) && !(e.2.1 == i)) = true) (hR : (c.R.all fun x => !(x.1 == i)) = true)
    (hrun : ∀ G b w, Hon O B i b → c.w0.grownBy w c.row → (execOp (putSel c.a0 b (c.L G)).eval oi).run P w = .ok (.value v) w) : StepAt P ops Q B O (IB c) i := by
  rintro b a w ⟨G, rfl, hgr, h1, h2, h3⟩ hb hon hoff
  refine ⟨oi, hi, fun K hK => ?_⟩
  refine value_ (w1 := w) (v := v) (wanted_plain hg) rfl (hrun G b w hon hgr) ?_
  rw [hd]
  exact hK.out _ _ ⟨G, putSel_upk k hb (hk G) (set_same (hk G)) (hu G), hgr, keep_E hE h1, keep_D hE h2, keep_R hR h3⟩

/-- A call that makes memory. -/
theorem step_call (c : Cfg) (i k : Nat) (oi : Oper) (t : Tmp) (v : Value) (hi : ops[i]? = some oi) (hg : oi.guard = none) (hd : oi.dst = some t)
    (hk : ∀ G, (c.L G)[k]? = some (i, t, v)) (hu : ∀ G, (((c.L G).take k ++ (c.L G).drop (k + 1)).all fun e => !(e.1 == i) && !(e.2.1 == t)) = true)
    (hE : (c.E.all fun e => !(e.1 == i) && !(e.2.1 == i)) = true) (hR : (c.R.all fun x => !(x.1 == i)) = true)
    {f : FuncId} {fn : Func} {xs : Array Operand} {ts : Array TypeId} (hf : P.funcs[f]? = some fn) (hname : (fn.name == "runtime.NumGoroutine") = false) (hbd : fn.body.isSome = true)
    (hop : oi.op = .call { callee := .value (.func f), args := xs, argTypes := ts }) (args : Array Value)
    (hargs : ∀ G b, Hon O B i b → xs.map (putSel c.a0 b (c.L G)).eval = args)
    (hcall : ∀ w, Calls P f args w fun e w' => e = .returned v ∧ Below w.heap.size w w') : StepAt P ops Q B O (IB c) i := by
  rintro b a w ⟨G, rfl, hgr, h1, h2, h3⟩ hb hon hoff
  refine ⟨oi, hi, fun K hK => ?_⟩
  have hgo := goes_ (ops := ops) (Q := Q) (N := oi.dst) (a := putSel c.a0 b (c.L G)) (K := K) hf hname hbd args (w := w) (wanted_plain hg) rfl hop (hargs G b hon)
  refine hgo ((hcall w).mono ?_)
  rintro e w' ⟨rfl, hbel⟩
  refine ⟨v, rfl, ?_⟩
  rw [hd]
  refine hK.out _ _ ⟨G, putSel_upk k hb (hk G) (set_same (hk G)) (hu G), gb_below hgr hbel, keep_E hE (fun e he hbe => ?_), keep_D hE h2, keep_R hR (fun x hx => ?_)⟩
  · obtain ⟨k1, k2⟩ := h1 e he hbe
    exact ⟨k1, (hbel.block _ (lt_of_heap k2)).trans k2⟩
  · obtain ⟨k1, k2⟩ := h3 x hx
    exact ⟨k1, (hbel.block _ (lt_of_heap k2)).trans k2⟩

/-- A new box. -/
theorem step_alloc (c : Cfg) (i k st : Nat) (oi : Oper) (t : Tmp) (v : Value) (hi : ops[i]? = some oi) (hg : oi.guard = none) (hd : oi.dst = some t)
    (hk : ∀ G, (c.L G)[k]? = some (i, t, .pointer (some ⟨G i, 0, none⟩))) (hL : ∀ G g, (c.L G).set k (i, t, .pointer (some ⟨g, 0, none⟩)) = c.L (fun j => if j = i then g else G j))
    (hu : ∀ G, (((c.L G).take k ++ (c.L G).drop (k + 1)).all fun e => !(e.1 == i) && !(e.2.1 == t)) = true)
    (hR : (c.R.all fun x => !(x.1 == i)) = true)
    (hE : (c.E.all fun e => (e.1 == i) == (e.2.1 == st) && !(e.2.1 == i)) = true) (hw : (O.contains st && (B.getD st 0).testBit i) = true)
    (hrun : ∀ ρ w, (execOp ρ oi).run P w = .ok (.value (.pointer (some ⟨w.heap.size, 0, none⟩))) (w.alloc (.cells #[.int .u64 0] c.T (0, 0)))) : StepAt P ops Q B O (IB c) i := by
  rintro b a w ⟨G, rfl, hgr, h1, h2, h3⟩ hb hon hoff
  refine ⟨oi, hi, fun K hK => ?_⟩
  refine value_ (wanted_plain hg) rfl (hrun _ w) ?_
  rw [hd]
  have hbel : Below w.heap.size w (w.alloc (.cells #[.int .u64 0] c.T (0, 0))) := (Below.refl _ w).alloc (Nat.le_refl _) _
  have hst : b st = false := hoff st hw
  have key : ∀ e ∈ c.E, e.1 ≠ i → up b i e.1 = true → b e.1 = true := fun e _ hne hu => by rwa [up_ne hne] at hu
  have hlt : ∀ e ∈ c.E, b e.1 = true → G e.1 < w.heap.size := fun e he hbe => lt_of_heap (h1 e he hbe).2
  refine hK.out _ _ ⟨fun j => if j = i then w.heap.size else G j, ?_, gb_below hgr hbel, fun e he hbe => ?_, fun e he f hf hbe hbf => ?_, keep_R hR (fun x hx => ?_)⟩
  · rw [← hL G]
    exact putSel_upk k hb (hk G) rfl (hu G)
  · have e1 := List.all_eq_true.1 hE e he
    simp only [Bool.and_eq_true, beq_iff_eq, Bool.not_eq_true', beq_eq_false_iff_ne] at e1
    dsimp only
    by_cases hei : e.1 = i
    · have hes : e.2.1 = st := by have := e1.1; rw [hei] at this; simpa using this.symm
      rw [if_pos hei, up_ne e1.2, hes, if_neg (by rw [hst]; decide)]
      exact ⟨hgr.size, blk_new w _⟩
    · rw [if_neg hei, up_ne e1.2]
      obtain ⟨k1, k2⟩ := h1 e he (key e he hei hbe)
      exact ⟨k1, (hbel.block _ (lt_of_heap k2)).trans k2⟩
  · dsimp only
    by_cases hei : e.1 = i <;> by_cases hfi : f.1 = i
    · intro _; rw [hei, hfi]
    · rw [if_pos hei, if_neg hfi]
      intro h
      have := hlt f hf (key f hf hfi hbf)
      omega
    · rw [if_neg hei, if_pos hfi]
      intro h
      have := hlt e he (key e he hei hbe)
      omega
    · rw [if_neg hei, if_neg hfi]
      exact h2 e he f hf (key e he hei hbe) (key f hf hfi hbf)
  · obtain ⟨k1, k2⟩ := h3 x hx
    exact ⟨k1, (hbel.block _ (lt_of_heap k2)).trans k2⟩

theorem heap_set_cells {w : World} {g : Nat} {v u : Value} {T : TypeId} (h : w.heap[g]? = some (.cells #[v] T (0, 0))) : (w.setCell ⟨g, 0, none⟩ u).heap[g]? = some (.cells #[u] T (0, 0)) := by
  have := heap_setCell_same w g 0 #[v] T u h
  simpa using this

/-- A new box is filled. -/
theorem step_store (c : Cfg) (i al : Nat) (oi : Oper) (v : Value) (hi : ops[i]? = some oi) (hg : oi.guard = none) (hd : oi.dst = none)
    (hL : ∀ G, ((c.L G).all fun e => !(e.1 == i)) = true) (hR : (c.R.all fun x => !(x.1 == i)) = true)
    (hE : (c.E.all fun e => (e.1 == al) == (e.2.1 == i) && !(e.1 == i)) = true) (k : Nat) (hk : c.E[k]? = some (al, i, v)) (hun : ((c.E.take k ++ c.E.drop (k + 1)).all fun e => !(e.2.1 == i)) = true) (hw : (O.contains al && (B.getD i 0).testBit al) = true)
    (hrun : ∀ G b w, Hon O B i b → (∃ u, w.heap[G al]? = some (.cells #[u] c.T (0, 0))) → (execOp (putSel c.a0 b (c.L G)).eval oi).run P w = .ok .skip (w.setCell ⟨G al, 0, none⟩ v)) : StepAt P ops Q B O (IB c) i := by
  rintro b a w ⟨G, rfl, hgr, h1, h2, h3⟩ hb hon hoff
  refine ⟨oi, hi, fun K hK => ?_⟩
  have hal : b al = true := hon al hw
  have hin : (al, i, v) ∈ c.E := List.mem_of_getElem? hk
  have hv : ∀ e ∈ c.E, e.2.1 = i → e.2.2 = v := by
    intro e he h
    obtain ⟨hl, hk'⟩ := List.getElem?_eq_some_iff.1 hk
    have hsplit : c.E = c.E.take k ++ (al, i, v) :: c.E.drop (k + 1) := by rw [← hk', ← List.drop_eq_getElem_cons hl, List.take_append_drop]
    rw [hsplit] at he
    rcases List.mem_append.1 he with h1 | h1
    · have := List.all_eq_true.1 hun e (List.mem_append.2 (.inl h1))
      simp [h] at this
    · rcases List.mem_cons.1 h1 with rfl | h1
      · rfl
      · have := List.all_eq_true.1 hun e (List.mem_append.2 (.inr h1))
        simp [h] at this
  obtain ⟨g1, g2⟩ := h1 _ hin hal
  dsimp only at g1 g2
  rw [hd]
  refine skip_ (wanted_plain hg) hd (hrun G b w hon ⟨_, g2⟩) ?_
  have hother : ∀ k, k ≠ G al → (w.setCell ⟨G al, 0, none⟩ v).heap[k]? = w.heap[k]? := fun k hk => Below.heap_setCell _ _ _ _ (fun e => hk (by simp [e]))
  refine hK.out _ _ ⟨G, (putSel_same (hL G)).symm, ?_, fun e he hbe => ?_, fun e he f hf hbe hbf => ?_, keep_R hR (fun x hx => ?_)⟩
  · have g := grownBy_setCell' w (G al) v
    exact ⟨g.os.trans hgr.os, g.tape.trans hgr.tape, g.output.trans hgr.output, Nat.le_trans hgr.size g.size, fun k hk hn => (g.block k (Nat.lt_of_lt_of_le hk hgr.size) (by simp; omega)).trans (hgr.block k hk hn)⟩
  · have e1 := List.all_eq_true.1 hE e he
    simp only [Bool.and_eq_true, beq_iff_eq, Bool.not_eq_true', beq_eq_false_iff_ne] at e1
    rw [up_ne e1.2] at hbe
    obtain ⟨k1, k2⟩ := h1 e he hbe
    refine ⟨k1, ?_⟩
    by_cases hea : e.1 = al
    · have hei : e.2.1 = i := by have := e1.1; rw [hea] at this; simpa using this.symm
      rw [hei, up_self, if_pos rfl, hea, hv e he hei]
      exact heap_set_cells g2
    · have hei : e.2.1 ≠ i := by
        intro h
        have := e1.1
        rw [h] at this
        simp at this
        exact hea this
      rw [up_ne hei, hother _ (fun h => hea (h2 e he _ hin hbe hal h))]
      exact k2
  · have e1 := List.all_eq_true.1 hE e he
    have e2 := List.all_eq_true.1 hE f hf
    simp only [Bool.and_eq_true, Bool.not_eq_true', beq_eq_false_iff_ne] at e1 e2
    rw [up_ne e1.2] at hbe
    rw [up_ne e2.2] at hbf
    exact h2 e he f hf hbe hbf
  · obtain ⟨k1, k2⟩ := h3 x hx
    exact ⟨k1, (hother _ (by omega)).trans k2⟩

/-- The old box is filled. -/
theorem step_back (c : Cfg) (i r : Nat) (oi : Oper) (before after : Array Value) (TS : TypeId) (hi : ops[i]? = some oi) (hg : oi.guard = none) (hd : oi.dst = none)
    (hL : ∀ G, ((c.L G).all fun e => !(e.1 == i)) = true) (hR : c.R = [(i, r, before, after, TS)]) (hrow : c.row = some r)
    (hE : (c.E.all fun e => !(e.1 == i) && !(e.2.1 == i)) = true)
    (hrun : ∀ G b w, Hon O B i b → w.heap[r]? = some (.cells before TS (0, 0)) → c.w0.grownBy w c.row → ∃ w1, (execOp (putSel c.a0 b (c.L G)).eval oi).run P w = .ok .skip w1 ∧ w1.heap[r]? = some (.cells after TS (0, 0)) ∧ w.grownBy w1 (some r)) : StepAt P ops Q B O (IB c) i := by
  rintro b a w ⟨G, rfl, hgr, h1, h2, h3⟩ hb hon hoff
  refine ⟨oi, hi, fun K hK => ?_⟩
  have h4 := h3 (i, r, before, after, TS) (by rw [hR]; exact List.mem_singleton.2 rfl)
  simp only [hb, Bool.false_eq_true, if_false] at h4
  obtain ⟨w1, k1, k2, k3⟩ := hrun G b w hon h4.2 hgr
  rw [hd]
  refine skip_ (wanted_plain hg) hd k1 ?_
  refine hK.out _ _ ⟨G, (putSel_same (hL G)).symm, ?_, keep_E hE (fun e he hbe => ?_), keep_D hE h2, fun x hx => ?_⟩
  · exact ⟨k3.os.trans hgr.os, k3.tape.trans hgr.tape, k3.output.trans hgr.output, Nat.le_trans hgr.size k3.size, fun k hk hn => (k3.block k (Nat.lt_of_lt_of_le hk hgr.size) (by rw [← hrow]; exact hn)).trans (hgr.block k hk hn)⟩
  · obtain ⟨j1, j2⟩ := h1 e he hbe
    exact ⟨j1, (k3.block _ (lt_of_heap j2) (by simp; omega)).trans j2⟩
  · rw [hR, List.mem_singleton] at hx
    subst hx
    rw [up_self]
    exact ⟨h4.1, k2⟩

/-- All listed: the frame. -/
def putAll' (a : Act) : List (Nat × Tmp × Value) → Act
  | [] => a
  | e :: r => putAll' (a.put (some e.2.1) e.2.2) r
theorem putSel_all {b : Nat → Bool} : ∀ {L : List (Nat × Tmp × Value)} {a : Act}, (∀ e ∈ L, b e.1 = true) → putSel a b L = putAll' a L
  | [], _, _ => rfl
  | e :: r, a, h => by
    unfold putSel putAll'
    rw [if_pos (h e (List.mem_cons_self ..))]
    exact putSel_all (fun x hx => h x (List.mem_cons_of_mem _ hx))

theorem start_IB (c : Cfg) (hR : ∀ x ∈ c.R, x.2.1 < c.w0.heap.size ∧ c.w0.heap[x.2.1]? = some (.cells x.2.2.1 x.2.2.2.2 (0, 0))) : IB c (fun _ => false) c.a0 c.w0 := by
  refine ⟨fun _ => 0, ?_, gb_refl _ _, fun _ _ h => absurd h Bool.false_ne_true, fun _ _ _ _ h => absurd h Bool.false_ne_true, fun x hx => ?_⟩
  case refine_2 => rw [if_neg Bool.false_ne_true]; exact hR x hx
  generalize c.L (fun _ => 0) = L
  generalize c.a0 = a
  induction L with
  | nil => rfl
  | cons e r ih => unfold putSel; rw [if_neg (by decide)]; exact ih

/-- What stands behind the region. -/
theorem end_IB (c : Cfg) (hO : ∀ G, ∀ e ∈ c.L G, O.contains e.1 = true) (hE : ∀ e ∈ c.E, O.contains e.1 = true ∧ O.contains e.2.1 = true) (hR : ∀ x ∈ c.R, O.contains x.1 = true)
    (h : ∀ (G : Nat → Nat) w, c.w0.grownBy w c.row → (∀ e ∈ c.E, c.w0.heap.size ≤ G e.1 ∧ w.heap[G e.1]? = some (.cells #[e.2.2] c.T (0, 0))) →
      (∀ x ∈ c.R, w.heap[x.2.1]? = some (.cells x.2.2.2.1 x.2.2.2.2 (0, 0))) → Q .normal (putAll' c.a0 (c.L G)) w) :
    ∀ b a w, (∀ j, O.contains j = true → b j = true) → IB c b a w → Q .normal a w := by
  rintro b a w hall ⟨G, rfl, hgr, h1, h2, h3⟩
  rw [putSel_all (fun e he => hall _ (hO G e he))]
  refine h G w hgr (fun e he => ?_) (fun x hx => ?_)
  · have := h1 e he (hall _ (hE e he).1)
    rw [hall _ (hE e he).2, if_pos rfl] at this
    exact this
  · have := (h3 x hx).2
    rw [hall _ (hR x hx), if_pos rfl] at this
    exact this

theorem drawn_region (I : (Nat → Bool) → Act → World → Prop) {id n : Nat} {a : Act} {w : World} {T : Bool × List (List Nat × List Nat)} {B : List Nat} (hm : P.follows .mixedOrders = true) (hn : ops.size = n)
    (hT : rtab .any ops = T) (hw : waitsOk T.2 B = true) (hk : baseOk T.2 (List.range n) = true) (hl : (lof T.2.length (List.range n) (fun _ => false) == (Array.replicate n false).toList && (List.range n).length == n) = true)
    (h0 : I (fun _ => false) a w.drew) (hs : ∀ i ∈ List.range n, StepAt P ops Q B (List.range n) I i)
    (hend : ∀ b a w, (∀ j, (List.range n).contains j = true → b j = true) → I b a w → Q .normal a w) : (Code.region id ops true).wp P Q a w := by
  refine start_ (S := fun _ => True) (ds := []) (Array.replicate n false) hm hn rfl trivial (fun _ => ?_)
  exact inv_ (List.range n) I hT hw hk hl h0 hs hend
end
end Go.Proofs.Ytkefcokmghbmhaa.CR
end
