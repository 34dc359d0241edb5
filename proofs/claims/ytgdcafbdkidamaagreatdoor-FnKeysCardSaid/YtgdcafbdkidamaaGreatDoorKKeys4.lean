/- What the proof of FnKeys leans on, part 4: cut out of the texts of this claim's making by a program (wip/tools/pack.py). -/
import Derived.Test.YtgdcafbdkidamaaGreatDoorKKeys3
import Derived.Below
import Derived.KernelRfl
import Derived.Laws.CopyRow
import Derived.Laws.Rows
import Derived.LoopN
import Derived.WalkKit
section
namespace Go.Proofs.YtgdcafbdkidamaaGreatDoor.Ve
open Go Go.RowKit Go.Proofs.YtgdcafbdkidamaaGreatDoorW.PrintWords Go.Proofs.YtgdcafbdkidamaaGreatDoorW.PrintLast
set_option linter.unusedVariables false
section
variable {X : Cx} {r : Rg} {i : Nat} {s : RS} {K : RS → Prop} {o : Oper} {t : Tmp}
theorem selT_up_ne {b : Nat → Bool} {T : Tmps} {i t : Nat} : ∀ {l : List (Nat × Tmp × AV)}, (∀ x ∈ l, x.2.1 = t → x.1 ≠ i) → selT (up b i) l T t = selT b l T t
  | [], _ => rfl
  | x :: l, h => by
    unfold selT
    have ih := selT_up_ne (b := b) (T := T) (i := i) (t := t) (l := l) (fun y hy => h y (List.mem_cons_of_mem _ hy))
    by_cases e : x.2.1 = t
    · rw [up_ne (h x List.mem_cons_self e), ih]
    · rw [beq_false e, Bool.false_and, Bool.false_and]; exact ih
theorem selC_up_ne {b : Nat → Bool} {f : Nat → AV} {i j o : Nat} : ∀ {l : List (Nat × Nat × Nat × AV)}, (∀ x ∈ l, x.2.1 = j → x.2.2.1 = o → x.1 ≠ i) → selC (up b i) l j f o = selC b l j f o
  | [], _ => rfl
  | x :: l, h => by
    unfold selC
    have ih := selC_up_ne (b := b) (f := f) (i := i) (j := j) (o := o) (l := l) (fun y hy => h y (List.mem_cons_of_mem _ hy))
    by_cases e : x.2.1 = j
    · by_cases e2 : x.2.2.1 = o
      · rw [up_ne (h x List.mem_cons_self e e2), ih]
      · rw [beq_false e2, Bool.false_and, Bool.false_and, Bool.and_false, cond_false, cond_false]; exact ih
    · rw [beq_false e, Bool.false_and, Bool.false_and]; exact ih
theorem selN_up_ne {b : Nat → Bool} {H : Heap} {i j : Nat} : ∀ {l : List (Nat × Nat × Box)}, (∀ x ∈ l, x.2.1 = j → x.1 ≠ i) → selN (up b i) l H j = selN b l H j
  | [], _ => rfl
  | x :: l, h => by
    unfold selN
    have ih := selN_up_ne (b := b) (H := H) (i := i) (j := j) (l := l) (fun y hy => h y (List.mem_cons_of_mem _ hy))
    by_cases e : x.2.1 = j
    · rw [up_ne (h x List.mem_cons_self e), ih]
    · rw [beq_false e]; exact ih

/-- The general step: operation i, its destination filled with a; writes, new boxes, reads told beside it. -/
theorem rj_step {s' : RS} (hil : i < r.ops.length) (hs : (∀ e ∈ s.L, e ∈ s'.L) ∧ (∀ e ∈ s'.L, e ∈ s.L ∨ e.1 = i)) (hw : (∀ e ∈ s.W, e ∈ s'.W) ∧ (∀ e ∈ s'.W, e ∈ s.W ∨ e.1 = i)) (hn : (∀ e ∈ s.N, e ∈ s'.N) ∧ (∀ e ∈ s'.N, e ∈ s.N ∨ e.1 = i)) (hr : ∀ e ∈ s.R, e ∈ s'.R)
    (hds : ∀ e ∈ s'.L, e ∈ s.L ∨ ∃ q, r.ops[e.1]? = some q ∧ q.dst = some e.2.1)
    (hst : ∀ f, Le (i + 1) s' f → Bnd i s → ∀ b G w Q (K : Act → World → Prop), Rdy X r i f b G w → (∀ a' w', IR X r.T r.H f (up b i) a' w' → K a' w') →
      ∃ oi, r.ops[i]? = some oi ∧ if Region.wanted oi (yielded r.ops.toArray (act X.nt G (selT b f.L r.T)).tmps) = true then Oper.wp X.P oi (act X.nt G (selT b f.L r.T)) w K Q else K ((act X.nt G (selT b f.L r.T)).put oi.dst undef) w)
    (h : RJ X r (i + 1) s' K) : RJ X r i s K := by
  intro hg hf hb hd
  obtain ⟨f, hle, hdf, hk, hK⟩ := h hg hf
    ⟨fun e he => (hs.2 e he).elim (fun q => Nat.lt_succ_of_lt (hb.L e q)) (fun q => by omega), fun e he => (hw.2 e he).elim (fun q => Nat.lt_succ_of_lt (hb.W e q)) (fun q => by omega), fun e he => (hn.2 e he).elim (fun q => Nat.lt_succ_of_lt (hb.N e q)) (fun q => by omega)⟩
    ⟨fun e he => (hds e he).elim (fun q => hd.L e q) id, fun e he => (hw.2 e he).elim (fun q => hd.W e q) (fun q => by rw [q]; exact hil), fun e he => (hn.2 e he).elim (fun q => hd.N e q) (fun q => by rw [q]; exact hil)⟩
  refine ⟨f, ⟨⟨fun e he => hle.L.1 e (hs.1 e he), fun e he => ?_⟩, ⟨fun e he => hle.W.1 e (hw.1 e he), fun e he => ?_⟩, ⟨fun e he => hle.N.1 e (hn.1 e he), fun e he => ?_⟩, fun e he => hle.R e (hr e he)⟩, hdf, fun hok Q k hk1 hk2 => ?_, hK⟩
  · rcases hle.L.2 e he with q | q
    · exact (hs.2 e q).imp id (fun q => by omega)
    · exact .inr (by omega)
  · rcases hle.W.2 e he with q | q
    · exact (hw.2 e q).imp id (fun q => by omega)
    · exact .inr (by omega)
  · rcases hle.N.2 e he with q | q
    · exact (hn.2 e q).imp id (fun q => by omega)
    · exact .inr (by omega)
  · by_cases e : k = i
    · subst e
      rintro b a w ⟨G, rfl, hh⟩ hoff hon hbe
      have con : ∀ j, j < r.ops.length → (List.range r.ops.length).contains j = true := fun j hj => by simpa using hj
      have rdy : Rdy X r k f b G w := ⟨hok, hk2, hoff, fun j hj ha => hon j (by rw [con j hj]; exact ha), fun d hd ha => hbe d (by rw [con d hd]; exact ha), hh, hf, hg, hdf⟩
      obtain ⟨oi, h1, _⟩ := hst f hle hb b G w Q (IR X r.T r.H f (up b k)) rdy (fun _ _ h => h)
      refine ⟨oi, by simpa using h1, fun K' hK' => ?_⟩
      obtain ⟨oi', h2, h3⟩ := hst f hle hb b G w Q K' rdy (fun a' w' q => hK'.out a' w' q)
      obtain rfl : oi = oi' := Option.some.inj (h1.symm.trans h2)
      exact h3
    · exact hk hok Q k (by omega) hk2

/-- No box made or written by it: the boxes stand as they did. -/
theorem hb_up {b : Nat → Bool} {f : RS} {H : Heap} {i : Nat} (hW : ∀ e ∈ f.W, e.1 ≠ i) (hN : ∀ e ∈ f.N, e.1 ≠ i) : hb (up b i) f.W f.N H = hb b f.W f.N H := by
  funext j
  unfold hb
  rw [selN_up_ne (fun x hx _ => hN x hx)]
  cases selN b f.N H j with
  | none => rfl
  | some x =>
    simp only [Option.some.injEq, Box.mk.injEq, and_true]
    funext o
    exact selC_up_ne (fun e he _ _ => hW e he)
/-- The frame behind a value. -/
theorem put_val {f : RS} {b : Nat → Bool} {G : Nat → Nat} {T : Tmps} {B : List Nat} {n0 nt : Nat} (hok : Ok B n0 nt f) {a : AV} (he : (i, t, a) ∈ f.L) : (act nt G (selT b f.L T)).put (some t) (a.den G) = act nt G (selT (up b i) f.L T) := by
  refine act_put (fun _ => ?_) (fun q _ hne => ?_)
  · rw [show selT (up b i) f.L T t = a from selT_hit (e := (i, t, a)) he (fun x hx q => hok.u2 x hx _ he q) (up_self b i)]
  · rw [selT_up_ne (fun x hx hxt hxi => hne (by rw [← hxt, hok.u1 x hx _ he hxi]))]

/-- An operation that gives a value and leaves the world; rs: what it has read, too. -/
theorem rj_val (a : AV) (R' : List (Nat × Nat × Nat)) (ho : r.ops[i]? = some o) (hg : gOk s o.guard = true) (hd : o.dst = some t) (hR : ∀ e ∈ s.R, e ∈ R')
    (hrun : ∀ f b G w, Rdy X r i f b G w → Bnd i s → Le i s f → (∀ e ∈ R', e ∈ f.R) → (execOp (act X.nt G (selT b f.L r.T)).eval o).run X.P w = .ok (.value (a.den G)) w)
    (h : RJ X r (i + 1) { s with L := (i, t, a) :: s.L, R := R' } K) : RJ X r i s K := by
  refine rj_step (s' := { s with L := (i, t, a) :: s.L, R := R' }) (List.getElem?_eq_some_iff.1 ho).1 ⟨fun e he => List.mem_cons_of_mem _ he, fun e he => (List.mem_cons.1 he).elim (fun q => .inr (by rw [q])) .inl⟩ ⟨fun _ h => h, fun _ h => .inl h⟩ ⟨fun _ h => h, fun _ h => .inl h⟩ hR
    (fun e he => (List.mem_cons.1 he).elim (fun q => .inr ⟨o, by rw [q]; exact ho, by rw [q]; exact hd⟩) .inl) ?_ h
  intro f hle hb b G w Q K' hr hK'
  refine ⟨o, ho, ?_⟩
  have hle0 : Le i s f := ⟨⟨fun e he => hle.L.1 e (List.mem_cons_of_mem _ he), fun e he => (hle.L.2 e he).elim (fun q => (List.mem_cons.1 q).elim (fun q => .inr (by rw [q]; exact Nat.le_refl _)) .inl) (fun q => .inr (by omega))⟩,
    ⟨hle.W.1, fun e he => (hle.W.2 e he).imp id (fun q => by omega)⟩, ⟨hle.N.1, fun e he => (hle.N.2 e he).imp id (fun q => by omega)⟩, fun e he => hle.R e (hR e he)⟩
  refine value_ (w1 := w) (v := a.den G) (wanted_of hr hle0 ho hg) rfl (hrun f b G w hr hb hle0 hle.R) ?_
  rw [hd]
  refine hK' _ _ ⟨G, put_val hr.ok (hle.L.1 _ List.mem_cons_self), ?_⟩
  rw [hb_up (fun e he => ?_) (fun e he => ?_)]
  · exact hr.hh
  · rcases hle.W.2 e he with q | q
    · have := hb.W e q; omega
    · omega
  · rcases hle.N.2 e he with q | q
    · have := hb.N e q; omega
    · omega

/-- An operation that its guard keeps from being carried out. -/
theorem rj_off (ho : r.ops[i]? = some o) (hg : gOff s o.guard = true) (hd : o.dst = some t)
    (h : RJ X r (i + 1) { s with L := (i, t, .v undef) :: s.L } K) : RJ X r i s K := by
  refine rj_step (s' := { s with L := (i, t, .v undef) :: s.L }) (List.getElem?_eq_some_iff.1 ho).1 ⟨fun e he => List.mem_cons_of_mem _ he, fun e he => (List.mem_cons.1 he).elim (fun q => .inr (by rw [q])) .inl⟩ ⟨fun _ h => h, fun _ h => .inl h⟩ ⟨fun _ h => h, fun _ h => .inl h⟩ (fun _ h => h)
    (fun e he => (List.mem_cons.1 he).elim (fun q => .inr ⟨o, by rw [q]; exact ho, by rw [q]; exact hd⟩) .inl) ?_ h
  intro f hle hb b G w Q K' hr hK'
  refine ⟨o, ho, ?_⟩
  have hle0 : Le i s f := ⟨⟨fun e he => hle.L.1 e (List.mem_cons_of_mem _ he), fun e he => (hle.L.2 e he).elim (fun q => (List.mem_cons.1 q).elim (fun q => .inr (by rw [q]; exact Nat.le_refl _)) .inl) (fun q => .inr (by omega))⟩,
    ⟨hle.W.1, fun e he => (hle.W.2 e he).imp id (fun q => by omega)⟩, ⟨hle.N.1, fun e he => (hle.N.2 e he).imp id (fun q => by omega)⟩, hle.R⟩
  refine off_ (wanted_no hr hle0 ho hg) ?_
  rw [hd]
  refine hK' _ _ ⟨G, put_val (a := .v undef) hr.ok (hle.L.1 _ List.mem_cons_self), ?_⟩
  rw [hb_up (fun e he => ?_) (fun e he => ?_)]
  · exact hr.hh
  · rcases hle.W.2 e he with q | q
    · have := hb.W e q; omega
    · omega
  · rcases hle.N.2 e he with q | q
    · have := hb.N e q; omega
    · omega
theorem rj_off0 (ho : r.ops[i]? = some o) (hg : gOff s o.guard = true) (hd : o.dst = none)
    (h : RJ X r (i + 1) s K) : RJ X r i s K := by
  refine rj_step (s' := s) (List.getElem?_eq_some_iff.1 ho).1 ⟨fun _ h => h, fun _ h => .inl h⟩ ⟨fun _ h => h, fun _ h => .inl h⟩ ⟨fun _ h => h, fun _ h => .inl h⟩ (fun _ h => h) (fun _ h => .inl h) ?_ h
  intro f hle hb b G w Q K' hr hK'
  refine ⟨o, ho, ?_⟩
  have hle0 : Le i s f := ⟨⟨hle.L.1, fun e he => (hle.L.2 e he).imp id (fun q => by omega)⟩, ⟨hle.W.1, fun e he => (hle.W.2 e he).imp id (fun q => by omega)⟩, ⟨hle.N.1, fun e he => (hle.N.2 e he).imp id (fun q => by omega)⟩, hle.R⟩
  refine off_ (wanted_no hr hle0 ho hg) ?_
  rw [hd]
  refine hK' _ _ ⟨G, act_ext (fun q _ => ?_), ?_⟩
  · rw [selT_up_ne (fun x hx _ hxi => ?_)]
    rcases hle.L.2 x hx with q | q
    · have := hb.L x q; omega
    · omega
  rw [hb_up (fun e he => ?_) (fun e he => ?_)]
  · exact hr.hh
  · rcases hle.W.2 e he with q | q
    · have := hb.W e q; omega
    · omega
  · rcases hle.N.2 e he with q | q
    · have := hb.N e q; omega
    · omega

/-- A call that makes memory of its own alone. -/
theorem rj_call (res : AV) (fn : FuncId) (xs : Array Operand) (ts : Array TypeId) (as_ : List AV) (ho : r.ops[i]? = some o) (hg : gOk s o.guard = true) (hd : o.dst = some t)
    (hop : o.op = .call { callee := .value (.func fn), args := xs, argTypes := ts }) (hf : X.fns.contains fn = true) (hnt : (names o).all (fun t => Nat.blt t X.nt) = true) (hxs : xs.toList.map (opd r s) = as_)
    (hcall : ∀ G w, X.Γ w → Calls X.P fn (as_.map (AV.den G)).toArray w fun e w' => e = .returned (res.den G) ∧ Below w.heap.size w w')
    (h : RJ X r (i + 1) { s with L := (i, t, res) :: s.L } K) : RJ X r i s K := by
  refine rj_step (s' := { s with L := (i, t, res) :: s.L }) (List.getElem?_eq_some_iff.1 ho).1 ⟨fun e he => List.mem_cons_of_mem _ he, fun e he => (List.mem_cons.1 he).elim (fun q => .inr (by rw [q])) .inl⟩ ⟨fun _ h => h, fun _ h => .inl h⟩ ⟨fun _ h => h, fun _ h => .inl h⟩ (fun _ h => h)
    (fun e he => (List.mem_cons.1 he).elim (fun q => .inr ⟨o, by rw [q]; exact ho, by rw [q]; exact hd⟩) .inl) ?_ h
  intro f hle hb b G w Q K' hr hK'
  refine ⟨o, ho, ?_⟩
  have hle0 : Le i s f := ⟨⟨fun e he => hle.L.1 e (List.mem_cons_of_mem _ he), fun e he => (hle.L.2 e he).elim (fun q => (List.mem_cons.1 q).elim (fun q => .inr (by rw [q]; exact Nat.le_refl _)) .inl) (fun q => .inr (by omega))⟩,
    ⟨hle.W.1, fun e he => (hle.W.2 e he).imp id (fun q => by omega)⟩, ⟨hle.N.1, fun e he => (hle.N.2 e he).imp id (fun q => by omega)⟩, hle.R⟩
  have hc := hr.good.fns fn (List.contains_iff_mem.1 hf)
  unfold callee at hc
  cases hfn : X.P.funcs[fn]? with
  | none => rw [hfn] at hc; cases hc
  | some F =>
    rw [hfn] at hc
    simp only [Bool.and_eq_true, Bool.not_eq_true'] at hc
    have hargs : xs.map (act X.nt G (selT b f.L r.T)).eval = (as_.map (AV.den G)).toArray := by
      apply Array.ext'
      rw [Array.toList_map, ← hxs, List.map_map]
      refine List.map_congr_left (fun x hx => ?_)
      refine opd_eval hr hb hle0 ho ?_ (fun q hq => ?_)
      · rw [hop]; simp [Op.operands, Call.operands]; exact .inr (by simpa using hx)
      · refine blt_iff.1 (List.all_eq_true.1 hnt q (List.mem_filterMap.2 ⟨x, ?_, by rw [hq]⟩))
        rw [hop]; simp [Op.operands, Call.operands]; exact .inr (by simpa using hx)
    refine goes_ hfn hc.1 hc.2 _ (wanted_of hr hle0 ho hg) rfl hop hargs ((hcall G w (hr.good.ctx w hr.hh.keep)).mono ?_)
    rintro e w' ⟨rfl, hbel⟩
    rw [hd]
    refine ⟨_, rfl, hK' _ _ ⟨G, put_val hr.ok (hle.L.1 _ List.mem_cons_self), ?_⟩⟩
    rw [hb_up (fun e he => ?_) (fun e he => ?_)]
    · exact hr.hh.below hbel
    · rcases hle.W.2 e he with q | q
      · have := hb.W e q; omega
      · omega
    · rcases hle.N.2 e he with q | q
      · have := hb.N e q; omega
      · omega

theorem Rdy.noL {f : RS} {b : Nat → Bool} {G : Nat → Nat} {w : World} (h : Rdy X r i f b G w) {j : Nat} {bx : Box} (hN : (i, j, bx) ∈ f.N) {e : Nat × Tmp × AV} (he : e ∈ f.L) (hb : b e.1 = true) : e.2.2.has j = false := by
  rcases h.ok.hL _ hN e he with q | q | q
  · exact q
  · rw [show e.1 = i from q, h.off] at hb; cases hb
  · rw [h.be _ (h.ds.lt he) q] at hb; cases hb
theorem Rdy.noW {f : RS} {b : Nat → Bool} {G : Nat → Nat} {w : World} (h : Rdy X r i f b G w) {j : Nat} {bx : Box} (hN : (i, j, bx) ∈ f.N) {e : Nat × Nat × Nat × AV} (he : e ∈ f.W) (hb : b e.1 = true) : e.2.2.2.has j = false := by
  rcases h.ok.hW _ hN e he with q | q
  · exact q
  · rw [h.be _ (h.ds.W _ he) q] at hb; cases hb
theorem Rdy.noN {f : RS} {b : Nat → Bool} {G : Nat → Nat} {w : World} (h : Rdy X r i f b G w) {j : Nat} {bx : Box} (hN : (i, j, bx) ∈ f.N) {e : Nat × Nat × Box} (he : e ∈ f.N) (hb : b e.1 = true) {o : Nat} (ho : o < e.2.2.m) : (e.2.2.cells o).has j = false := by
  rcases h.ok.hN _ hN e he o ho with q | q
  · exact q
  · rw [h.be _ (h.ds.N _ he) q] at hb; cases hb
/-- A cell out of what was written, or as it was. -/
theorem selC_cases {b : Nat → Bool} {f : Nat → AV} {j o : Nat} : ∀ {l : List (Nat × Nat × Nat × AV)}, (∃ e ∈ l, b e.1 = true ∧ e.2.1 = j ∧ e.2.2.1 = o ∧ selC b l j f o = e.2.2.2) ∨ selC b l j f o = f o
  | [] => .inr rfl
  | x :: l => by
    unfold selC
    cases hc : (Nat.beq x.2.1 j && (Nat.beq x.2.2.1 o && b x.1)) with
    | true =>
      rw [Bool.and_eq_true, Bool.and_eq_true] at hc
      exact .inl ⟨x, List.mem_cons_self, hc.2.2, Nat.eq_of_beq_eq_true hc.1, Nat.eq_of_beq_eq_true hc.2.1, rfl⟩
    | false =>
      rcases selC_cases (b := b) (f := f) (j := j) (o := o) (l := l) with ⟨e, he, q⟩ | q
      · exact .inl ⟨e, List.mem_cons_of_mem _ he, q⟩
      · exact .inr q
theorem hb_some {b : Nat → Bool} {W : List (Nat × Nat × Nat × AV)} {N : List (Nat × Nat × Box)} {H : Heap} {j : Nat} {x : Box} (h : hb b W N H j = some x) : ∃ y, selN b N H j = some y ∧ x = { y with cells := selC b W j y.cells } := by
  unfold hb at h
  cases hs : selN b N H j with
  | none => rw [hs] at h; cases h
  | some y => rw [hs] at h; exact ⟨y, rfl, (Option.some.inj h).symm⟩
theorem selT_cases {b : Nat → Bool} {T : Tmps} {t : Nat} : ∀ {l : List (Nat × Tmp × AV)}, (∃ e ∈ l, b e.1 = true ∧ e.2.1 = t ∧ selT b l T t = e.2.2) ∨ selT b l T t = T t
  | [] => .inr rfl
  | x :: l => by
    unfold selT
    cases hc : (Nat.beq x.2.1 t && b x.1) with
    | true =>
      rw [Bool.and_eq_true] at hc
      exact .inl ⟨x, List.mem_cons_self, hc.2, Nat.eq_of_beq_eq_true hc.1, rfl⟩
    | false =>
      rcases selT_cases (b := b) (T := T) (t := t) (l := l) with ⟨e, he, q⟩ | q
      · exact .inl ⟨e, List.mem_cons_of_mem _ he, q⟩
      · exact .inr q
theorem Box.obj_congr {G G' : Nat → Nat} {x : Box} (h : ∀ o, o < x.m → (x.cells o).den G = (x.cells o).den G') : x.obj G = x.obj G' := by
  unfold Box.obj Box.vals
  congr 2
  exact List.map_congr_left (fun o ho => h o (by simpa using ho))
/-- The boxes that stand, beside one that isn't yet: none leads to it. -/
theorem Rdy.box_no {f : RS} {b : Nat → Bool} {G : Nat → Nat} {w : World} (h : Rdy X r i f b G w) {j : Nat} {bx : Box} (hN : (i, j, bx) ∈ f.N) {k : Nat} {x : Box} (hx : hb b f.W f.N r.H k = some x) : k ≠ j ∧ ∀ o, o < x.m → (x.cells o).has j = false := by
  have hj := (h.ok.lN _ hN).1
  obtain ⟨y, hy, rfl⟩ := hb_some hx
  rcases selN_cases hy with ⟨e, he, hek, hbe, rfl⟩ | ⟨hne, hH⟩
  · refine ⟨fun q => ?_, fun o ho => ?_⟩
    · have : e = (i, j, bx) := h.ok.u3 e he _ hN (hek.trans q)
      rw [this, h.off] at hbe; cases hbe
    · rcases selC_cases (b := b) (f := e.2.2.cells) (j := k) (o := o) (l := f.W) with ⟨c, hc, hbc, _, _, q⟩ | q
      · show (selC b f.W k e.2.2.cells o).has j = false
        rw [q]; exact h.noW hN hc hbc
      · show (selC b f.W k e.2.2.cells o).has j = false
        rw [q]; exact h.noN hN he hbe ho
  · have hlt : ∀ o, o < y.m → (y.cells o).lt r.n0 = true := h.fine.wH.2 k y hH
    refine ⟨fun q => ?_, fun o ho => ?_⟩
    · rw [q, h.fine.wH.1 j hj] at hH; cases hH
    · rcases selC_cases (b := b) (f := y.cells) (j := k) (o := o) (l := f.W) with ⟨c, hc, hbc, _, _, q⟩ | q
      · show (selC b f.W k y.cells o).has j = false
        rw [q]; exact h.noW hN hc hbc
      · show (selC b f.W k y.cells o).has j = false
        rw [q]; exact AV.has_lt (AV.lt_mono hj (hlt o ho))

/-- An operation that makes a box. -/
theorem rj_newA (bx : Box) (av : AV) (ho : r.ops[i]? = some o) (hg : gOk s o.guard = true) (hd : o.dst = some t)
    (hrun : ∀ f b G w, Rdy X r i f b G w → Bnd i s → Le i s f → (execOp (act X.nt G (selT b f.L r.T)).eval o).run X.P w = .ok (.value (av.den (setG G s.n w.heap.size))) (w.alloc (bx.obj G)))
    (h : RJ X r (i + 1) { s with L := (i, t, av) :: s.L, N := (i, s.n, bx) :: s.N, n := s.n + 1 } K) : RJ X r i s K := by
  refine rj_step (s' := { s with L := (i, t, av) :: s.L, N := (i, s.n, bx) :: s.N, n := s.n + 1 }) (List.getElem?_eq_some_iff.1 ho).1 ⟨fun e he => List.mem_cons_of_mem _ he, fun e he => (List.mem_cons.1 he).elim (fun q => .inr (by rw [q])) .inl⟩ ⟨fun _ h => h, fun _ h => .inl h⟩ ⟨fun e he => List.mem_cons_of_mem _ he, fun e he => (List.mem_cons.1 he).elim (fun q => .inr (by rw [q])) .inl⟩ (fun _ h => h)
    (fun e he => (List.mem_cons.1 he).elim (fun q => .inr ⟨o, by rw [q]; exact ho, by rw [q]; exact hd⟩) .inl) ?_ h
  intro f hle hb' b G w Q K' hr hK'
  refine ⟨o, ho, ?_⟩
  have hle0 : Le i s f := ⟨⟨fun e he => hle.L.1 e (List.mem_cons_of_mem _ he), fun e he => (hle.L.2 e he).elim (fun q => (List.mem_cons.1 q).elim (fun q => .inr (by rw [q]; exact Nat.le_refl _)) .inl) (fun q => .inr (by omega))⟩,
    ⟨hle.W.1, fun e he => (hle.W.2 e he).imp id (fun q => by omega)⟩, ⟨fun e he => hle.N.1 e (List.mem_cons_of_mem _ he), fun e he => (hle.N.2 e he).elim (fun q => (List.mem_cons.1 q).elim (fun q => .inr (by rw [q]; exact Nat.le_refl _)) .inl) (fun q => .inr (by omega))⟩, hle.R⟩
  have hN : (i, s.n, bx) ∈ f.N := hle.N.1 _ List.mem_cons_self
  have hL : (i, t, av) ∈ f.L := hle.L.1 _ List.mem_cons_self
  obtain ⟨hj0, hj1, hlt, hkd, hfr⟩ := hr.ok.lN _ hN
  dsimp only at hj0 hj1 hlt hkd hfr
  refine value_ (wanted_of hr hle0 ho hg) rfl (hrun f b G w hr hb' hle0) ?_
  rw [hd]
  refine hK' _ _ ⟨setG G s.n w.heap.size, ?_, ?_⟩
  · refine act_put (fun _ => ?_) (fun q _ hne => ?_)
    · rw [show selT (up b i) f.L r.T t = av from selT_hit (e := (i, t, av)) hL (fun x hx q => hr.ok.u2 x hx _ hL q) (up_self b i)]
    · rw [selT_up_ne (fun x hx hxt hxi => hne (by rw [← hxt, hr.ok.u1 x hx _ hL hxi]))]
      refine AV.den_has ?_
      rcases selT_cases (b := b) (T := r.T) (t := q) (l := f.L) with ⟨e, he, hbe, _, k⟩ | k
      · rw [k]; exact hr.noL hN he hbe
      · rw [k]; exact AV.has_lt (AV.lt_mono hj0 (hr.fine.wT q))
  · have hWne : ∀ e ∈ f.W, e.1 ≠ i := fun e he => by
      rcases hle.W.2 e he with q | q
      · have := hb'.W e q; omega
      · omega
    have old : ∀ k, k ≠ s.n → Go.Proofs.YtgdcafbdkidamaaGreatDoor.Ve.hb (up b i) f.W f.N r.H k = Go.Proofs.YtgdcafbdkidamaaGreatDoor.Ve.hb b f.W f.N r.H k := by
      intro k hk
      unfold Go.Proofs.YtgdcafbdkidamaaGreatDoor.Ve.hb
      rw [selN_up_ne (fun x hx hxk hxi => ?_)]
      · cases selN b f.N r.H k with
        | none => rfl
        | some x =>
          simp only [Option.some.injEq, Box.mk.injEq, and_true]
          funext o
          exact selC_up_ne (fun e he _ _ => hWne e he)
      · rcases hle.N.2 x hx with q | q
        · rcases List.mem_cons.1 q with q | q
          · rw [q] at hxk; exact hk hxk.symm
          · have := hb'.N x q; omega
        · omega
    have new : Go.Proofs.YtgdcafbdkidamaaGreatDoor.Ve.hb (up b i) f.W f.N r.H s.n = some bx := by
      unfold Go.Proofs.YtgdcafbdkidamaaGreatDoor.Ve.hb
      rw [show selN (up b i) f.N r.H s.n = some bx from by rw [selN_hit (e := (i, s.n, bx)) hN (fun x hx q => hr.ok.u3 x hx _ hN q), up_self]; rfl]
      have : selC (up b i) f.W s.n bx.cells = bx.cells := by
        funext o
        refine selC_miss (fun x hx hxj _ => ?_)
        rw [up_ne (hWne x hx)]
        exact hr.be _ (hr.ds.W _ hx) (hr.ok.bW _ hN x hx hxj)
      dsimp only
      rw [this]
    have hobj : bx.obj (setG G s.n w.heap.size) = bx.obj G := Box.obj_congr (fun o ho => AV.den_has (by
      rcases hr.ok.hN _ hN _ hN o ho with q | q
      · exact q
      · have := hr.on i hr.il q; rw [hr.off] at this; cases this))
    have hbel : Below w.heap.size w (w.alloc (bx.obj G)) := (Below.refl _ w).alloc (Nat.le_refl _) _
    refine ⟨hr.hh.keep.below hbel, fun k x hx => ?_, fun k x hx hk0 => ?_, fun k x hx hk2 => ?_, fun k l x y hx hy hG => ?_, fun k hk => ?_⟩
    · by_cases e : k = s.n
      · subst e
        rw [new] at hx
        obtain rfl := Option.some.inj hx
        rw [setG_self, hobj]
        exact heap_alloc_new w _
      · rw [old k e] at hx
        have hno := hr.box_no hN hx
        rw [setG_ne _ _ e, Box.obj_congr (G' := G) (fun o ho => AV.den_has (hno.2 o ho))]
        exact (hbel.block _ (lt_heap (hr.hh.obj k x hx))).trans (hr.hh.obj k x hx)
    · by_cases e : k = s.n
      · subst e
        rw [new] at hx
        obtain rfl := Option.some.inj hx
        rw [setG_self]
        exact ⟨hr.hh.keep.size, hfr⟩
      · rw [old k e] at hx
        rw [setG_ne _ _ e]
        exact hr.hh.own k x hx hk0
    · by_cases e : k = s.n
      · subst e
        rw [new] at hx
        obtain rfl := Option.some.inj hx
        rw [hkd] at hk2; cases hk2
      · rw [old k e] at hx
        rw [setG_ne _ _ e]
        exact hr.hh.wr k x hx hk2
    · by_cases e : k = s.n <;> by_cases e2 : l = s.n
      · rw [e, e2]
      · rw [old l e2] at hy
        rw [e, setG_self, setG_ne _ _ e2] at hG
        have := lt_heap (hr.hh.obj l y hy)
        omega
      · rw [old k e] at hx
        rw [e2, setG_self, setG_ne _ _ e] at hG
        have := lt_heap (hr.hh.obj k x hx)
        omega
      · rw [old k e] at hx
        rw [old l e2] at hy
        rw [setG_ne _ _ e, setG_ne _ _ e2] at hG
        exact hr.hh.inj k l x y hx hy hG
    · have := hr.fine.k0
      rw [setG_ne _ _ (by omega)]
      exact hr.hh.fix k hk
theorem rj_new (bx : Box) (ho : r.ops[i]? = some o) (hg : gOk s o.guard = true) (hd : o.dst = some t)
    (hrun : ∀ f b G w, Rdy X r i f b G w → Bnd i s → Le i s f → (execOp (act X.nt G (selT b f.L r.T)).eval o).run X.P w = .ok (.value (.pointer (some ⟨w.heap.size, 0, none⟩))) (w.alloc (bx.obj G)))
    (h : RJ X r (i + 1) { s with L := (i, t, .p s.n 0) :: s.L, N := (i, s.n, bx) :: s.N, n := s.n + 1 } K) : RJ X r i s K :=
  rj_newA bx (.p s.n 0) ho hg hd (fun f b G w h1 h2 h3 => by rw [hrun f b G w h1 h2 h3]; simp [AV.den, setG_self]) h
/-- the same, its value a slice over the whole box -/
theorem rj_newS (bx : Box) (m c : Nat) (ho : r.ops[i]? = some o) (hg : gOk s o.guard = true) (hd : o.dst = some t)
    (hrun : ∀ f b G w, Rdy X r i f b G w → Bnd i s → Le i s f → (execOp (act X.nt G (selT b f.L r.T)).eval o).run X.P w = .ok (.value (.slice (some ⟨w.heap.size, 0, none⟩) m c)) (w.alloc (bx.obj G)))
    (h : RJ X r (i + 1) { s with L := (i, t, .sl s.n 0 m c) :: s.L, N := (i, s.n, bx) :: s.N, n := s.n + 1 } K) : RJ X r i s K :=
  rj_newA bx (.sl s.n 0 m c) ho hg hd (fun f b G w h1 h2 h3 => by rw [hrun f b G w h1 h2 h3]; simp [AV.den, setG_self]) h
end
section
variable {X : Cx} {r : Rg} {i : Nat} {s f : RS} {K : RS → Prop} {o : Oper} {b : Nat → Bool} {G : Nat → Nat} {w : World}
/-- A box that stands in the text's order stands at the operation's turn; the cells that it reads hold what they hold in the text's order. -/
theorem Rdy.box_at (h : Rdy X r i f b G w) (hs : Bnd i s) (hle : Le i s f) {j : Nat} {x : Box} (hx : hb yes s.W s.N r.H j = some x) (touch : (∃ e ∈ f.W, e.1 = i ∧ e.2.1 = j) ∨ (∃ e ∈ f.R, e.1 = i ∧ e.2.1 = j)) :
    ∃ y, hb b f.W f.N r.H j = some y ∧ y.m = x.m ∧ y.ty = x.ty ∧ y.fr = x.fr ∧ y.kd = x.kd ∧ ∀ o, (i, j, o) ∈ f.R → y.cells o = x.cells o := by
  obtain ⟨z, hz, rfl⟩ := hb_some hx
  have hz' : selN b f.N r.H j = some z := by
    rcases selN_cases hz with ⟨e, he, hej, _, rfl⟩ | ⟨hne, hH⟩
    · have hef := hle.N.1 e he
      have : aw r.B i e.1 = true := by
        rcases touch with ⟨c, hc, hci, hcj⟩ | ⟨c, hc, hci, hcj⟩
        · rw [← hci]; exact h.ok.bW e hef c hc (hcj.trans hej.symm)
        · rw [← hci]; exact h.ok.bR e hef c hc (hcj.trans hej.symm)
      have hbe := h.on _ (h.ds.N e hef) this
      have := selN_hit (b := b) (H := r.H) (e := e) hef (fun x hx q => h.ok.u3 x hx _ hef q)
      rw [hej, hbe] at this
      exact this
    · by_cases hex : ∃ e ∈ f.N, e.2.1 = j
      · obtain ⟨e, he, hej⟩ := hex
        have := (h.ok.lN e he).1
        rw [hej] at this
        rw [h.fine.wH.1 j this] at hH
        cases hH
      · rw [selN_miss (fun e he q => hex ⟨e, he, q⟩)]; exact hH
  refine ⟨{ z with cells := selC b f.W j z.cells }, by unfold hb; rw [hz'], rfl, rfl, rfl, rfl, fun o ho => ?_⟩
  show selC b f.W j z.cells o = selC yes s.W j z.cells o
  by_cases hex : ∃ e ∈ s.W, e.2.1 = j ∧ e.2.2.1 = o
  · obtain ⟨e, he, hej, heo⟩ := hex
    have hef := hle.W.1 e he
    have hei := hs.W e he
    have hbe : b e.1 = true := by
      rcases h.ok.wr e hef _ ho hej heo with q | q | q
      · dsimp only at q; omega
      · exact h.on _ (h.ds.W e hef) q.2
      · dsimp only at q; omega
    have h1 := selC_hit (b := b) (f := z.cells) hef (fun x hx q q2 => h.ok.u4 x hx e hef q q2) hbe
    have h2 := selC_hit (b := yes) (f := z.cells) he (fun x hx q q2 => h.ok.u4 x (hle.W.1 x hx) e hef q q2) rfl
    rw [hej, heo] at h1 h2
    rw [h1, h2]
  · rw [selC_miss (l := s.W) (fun x hx q q2 => absurd ⟨x, hx, q, q2⟩ hex), selC_miss (fun x hx q q2 => ?_)]
    rcases hle.W.2 x hx with h1 | h1
    · exact absurd ⟨x, h1, q, q2⟩ hex
    · rcases h.ok.wr x hx _ ho q q2 with k | k | k
      · rw [← k]; exact h.off
      · dsimp only at k; omega
      · exact h.be _ (h.ds.W x hx) k.2

/-- the entries of a write of several cells -/
def wl (i j : Nat) : Nat → List AV → List (Nat × Nat × Nat × AV) → List (Nat × Nat × Nat × AV)
  | _, [], acc => acc
  | o, a :: l, acc => (i, j, o, a) :: wl i j (o + 1) l acc
theorem wl_mem {i j : Nat} {e : Nat × Nat × Nat × AV} : ∀ {l : List AV} {o : Nat} {acc : List (Nat × Nat × Nat × AV)}, e ∈ wl i j o l acc ↔ (e ∈ acc ∨ ∃ k a, l[k]? = some a ∧ e = (i, j, o + k, a))
  | [], o, acc => by simp [wl]
  | a :: l, o, acc => by
    unfold wl
    rw [List.mem_cons, wl_mem]
    constructor
    · rintro (h | h | ⟨k, a', hk, h⟩)
      · exact .inr ⟨0, a, rfl, h⟩
      · exact .inl h
      · exact .inr ⟨k + 1, a', hk, by rw [h]; simp; omega⟩
    · rintro (h | ⟨k, a', hk, h⟩)
      · exact .inr (.inl h)
      · cases k with
        | zero => have : a = a' := by simpa using hk
                  exact .inl (by rw [h, this]; rfl)
        | succ k => exact .inr (.inr ⟨k, a', hk, by rw [h]; simp; omega⟩)
def rl (i j : Nat) : Nat → Nat → List (Nat × Nat × Nat) → List (Nat × Nat × Nat)
  | _, 0, acc => acc
  | o, n + 1, acc => (i, j, o) :: rl i j (o + 1) n acc
theorem rl_mem {i j : Nat} : ∀ {n o : Nat} {acc : List (Nat × Nat × Nat)}, (∀ e ∈ acc, e ∈ rl i j o n acc) ∧ ∀ k, k < n → (i, j, o + k) ∈ rl i j o n acc
  | 0, o, acc => ⟨fun _ h => h, fun k hk => by omega⟩
  | n + 1, o, acc => by
    have ih := rl_mem (i := i) (j := j) (n := n) (o := o + 1) (acc := acc)
    refine ⟨fun e he => List.mem_cons_of_mem _ (ih.1 e he), fun k hk => ?_⟩
    cases k with
    | zero => exact List.mem_cons_self
    | succ k => have := ih.2 k (by omega)
                rw [show o + 1 + k = o + (k + 1) by omega] at this
                exact List.mem_cons_of_mem _ this

/-- An operation that writes cells o0, o0 + 1, .. of box j. -/
theorem rj_write (j o0 : Nat) (vs : List AV) (x : Box) (ho : r.ops[i]? = some o) (hg : gOk s o.guard = true) (hd : o.dst = none) (hx : hb yes s.W s.N r.H j = some x) (hfit : Nat.ble (o0 + vs.length) x.m = true) (hkd : Nat.beq x.kd 1 = false) (hkd3 : Nat.ble x.kd 2 = true) (hne : Nat.beq vs.length 0 = false)
    (hrun : ∀ f b G w, Rdy X r i f b G w → Bnd i s → Le i s f → ∀ y : Box, y.m = x.m → w.heap[G j]? = some (.cells (y.vals G) y.ty (0, 0)) → (execOp (act X.nt G (selT b f.L r.T)).eval o).run X.P w = .ok .skip (w.setRow (G j) ((y.vals G).toList.take o0 ++ vs.map (AV.den G) ++ (y.vals G).toList.drop (o0 + vs.length)).toArray))
    (h : RJ X r (i + 1) { s with W := wl i j o0 vs s.W } K) : RJ X r i s K := by
  refine rj_step (s' := { s with W := wl i j o0 vs s.W }) (List.getElem?_eq_some_iff.1 ho).1 ⟨fun _ h => h, fun _ h => .inl h⟩ ⟨fun e he => wl_mem.2 (.inl he), fun e he => (wl_mem.1 he).imp id (fun ⟨k, a, _, q⟩ => by rw [q])⟩ ⟨fun _ h => h, fun _ h => .inl h⟩ (fun _ h => h) (fun _ h => .inl h) ?_ h
  intro f hle hbn b G w Q K' hr hK'
  refine ⟨o, ho, ?_⟩
  have hle0 : Le i s f := ⟨⟨hle.L.1, fun e he => (hle.L.2 e he).imp id (fun q => by omega)⟩, ⟨fun e he => hle.W.1 e (wl_mem.2 (.inl he)), fun e he => (hle.W.2 e he).elim (fun q => (wl_mem.1 q).imp id (fun ⟨k, a, _, q⟩ => by rw [q]; exact Nat.le_refl _)) (fun q => .inr (by omega))⟩, ⟨hle.N.1, fun e he => (hle.N.2 e he).imp id (fun q => by omega)⟩, hle.R⟩
  have hmem : ∀ k a, vs[k]? = some a → (i, j, o0 + k, a) ∈ f.W := fun k a hk => hle.W.1 _ (wl_mem.2 (.inr ⟨k, a, hk, rfl⟩))
  have hpos : 0 < vs.length := by
    cases vs with
    | nil => cases hne
    | cons _ _ => exact Nat.zero_lt_succ _
  obtain ⟨y, hy, hm, hty, hfr, hk, _⟩ := hr.box_at hbn hle0 hx (.inl ⟨_, hmem 0 _ (List.getElem?_eq_getElem hpos), rfl, rfl⟩)
  have hfr0 : y.fr = (0, 0) := by
    have h1 := Nat.le_of_ble_eq_true hkd3
    have h2 : x.kd ≠ 1 := fun q => by rw [q] at hkd; cases hkd
    by_cases e : y.kd = 0
    · exact (hr.hh.own j y hy e).2
    · exact (hr.hh.wr j y hy (by omega)).2
  have hobj := hr.hh.obj j y hy
  have hobj' : w.heap[G j]? = some (.cells (y.vals G) y.ty (0, 0)) := by rw [hobj, Box.obj, hfr0]
  have hrun' := hrun f b G w hr hbn hle0 y hm hobj'
  rw [hd]
  refine skip_ (wanted_of hr hle0 ho hg) hd hrun' ?_
  have hfit' := Nat.le_of_ble_eq_true hfit
  have hLne : ∀ e ∈ f.L, e.1 ≠ i := fun e he => by
    rcases hle.L.2 e he with q | q
    · have := hbn.L e q; omega
    · omega
  have hNne : ∀ e ∈ f.N, e.1 ≠ i := fun e he => by
    rcases hle.N.2 e he with q | q
    · have := hbn.N e q; omega
    · omega
  have hWi : ∀ e ∈ f.W, e.1 = i → ∃ k a, vs[k]? = some a ∧ e = (i, j, o0 + k, a) := fun e he hei => by
    rcases hle.W.2 e he with q | q
    · rcases wl_mem.1 q with q | q
      · have := hbn.W e q; omega
      · exact q
    · omega
  have hN2 : ∀ k, selN (up b i) f.N r.H k = selN b f.N r.H k := fun k => selN_up_ne (fun x hx _ => hNne x hx)
  have other : ∀ k, k ≠ j → hb (up b i) f.W f.N r.H k = hb b f.W f.N r.H k := by
    intro k hk
    unfold hb
    rw [hN2]
    cases selN b f.N r.H k with
    | none => rfl
    | some z =>
      simp only [Option.some.injEq, Box.mk.injEq, and_true]
      funext o
      refine selC_up_ne (fun e he hek _ hei => ?_)
      obtain ⟨k', a, _, q⟩ := hWi e he hei
      rw [q] at hek
      exact hk hek.symm
  obtain ⟨z, hz, hyz⟩ := hb_some hy
  have self : hb (up b i) f.W f.N r.H j = some { y with cells := selC (up b i) f.W j z.cells } := by
    unfold hb
    rw [hN2, hz, hyz]
  have hcell : ∀ o, o < y.m → ((selC (up b i) f.W j z.cells o).den G) = if o0 ≤ o ∧ o < o0 + vs.length then ((vs.getD (o - o0) (.v undef)).den G) else (y.cells o).den G := by
    intro o _
    by_cases hin : o0 ≤ o ∧ o < o0 + vs.length
    · rw [if_pos hin]
      have hlt : o - o0 < vs.length := by omega
      have hE := hmem (o - o0) _ (List.getElem?_eq_getElem hlt)
      have hoo : o0 + (o - o0) = o := by omega
      rw [hoo] at hE
      have := selC_hit (b := up b i) (f := z.cells) hE (fun x hx q q2 => hr.ok.u4 x hx _ hE q q2) (up_self b i)
      dsimp only at this
      rw [this, List.getD_eq_getElem?_getD, List.getElem?_eq_getElem hlt]
      rfl
    · rw [if_neg hin, hyz]
      dsimp only
      rw [selC_up_ne (fun e he _ heo hei => ?_)]
      obtain ⟨k', a, hk', q⟩ := hWi e he hei
      have := (List.getElem?_eq_some_iff.1 hk').1
      rw [q] at heo
      dsimp only at heo
      omega
  have hlist : ((y.vals G).toList.take o0 ++ vs.map (AV.den G) ++ (y.vals G).toList.drop (o0 + vs.length)).toArray = Box.vals G { y with cells := selC (up b i) f.W j z.cells } := by
    apply Array.ext'
    show _ = (((List.range y.m).map fun o => ((selC (up b i) f.W j z.cells o).den G)).toArray).toList
    show (y.vals G).toList.take o0 ++ vs.map (AV.den G) ++ (y.vals G).toList.drop (o0 + vs.length) = (List.range y.m).map fun o => ((selC (up b i) f.W j z.cells o).den G)
    have hyl : (y.vals G).toList = (List.range y.m).map fun o => (y.cells o).den G := rfl
    rw [hyl]
    apply List.ext_getElem?
    intro q
    have hlen : ((List.range y.m).map fun o => (y.cells o).den G).length = y.m := by simp
    by_cases hq : q < y.m
    · rw [List.getElem?_map, List.getElem?_range hq, Option.map_some, hcell q hq]
      by_cases h1 : q < o0
      · rw [if_neg (by omega), List.append_assoc, List.getElem?_append_left (by rw [List.length_take, hlen]; omega), List.getElem?_take_of_lt h1, List.getElem?_map, List.getElem?_range hq]
        rfl
      · by_cases h2 : q < o0 + vs.length
        · rw [if_pos ⟨by omega, h2⟩, List.append_assoc, List.getElem?_append_right (by rw [List.length_take, hlen]; omega), List.length_take, hlen, Nat.min_eq_left (by omega), List.getElem?_append_left (by rw [List.length_map]; omega), List.getElem?_map, List.getElem?_eq_getElem (by omega), List.getD_eq_getElem?_getD, List.getElem?_eq_getElem (by omega)]
          rfl
        · rw [if_neg (by omega), List.getElem?_append_right (by rw [List.length_append, List.length_take, hlen, List.length_map]; omega), List.length_append, List.length_take, hlen, List.length_map, Nat.min_eq_left (by omega), List.getElem?_drop, List.getElem?_map, show o0 + vs.length + (q - (o0 + vs.length)) = q by omega, List.getElem?_range hq]
          rfl
    · rw [List.getElem?_eq_none (by simp only [List.length_append, List.length_take, List.length_drop, hlen, List.length_map]; omega), List.getElem?_eq_none (by rw [List.length_map, List.length_range]; omega)]
  have hS : G j < X.w0.heap.size → X.S (G j) := fun hlt => by
    have h1 := Nat.le_of_ble_eq_true hkd3
    have h2 : x.kd ≠ 1 := fun q => by rw [q] at hkd; cases hkd
    by_cases e : y.kd = 0
    · have := (hr.hh.own j y hy e).1; omega
    · exact (hr.hh.wr j y hy (by omega)).1
  have hne' : ∀ k z', hb b f.W f.N r.H k = some z' → k ≠ j → G k ≠ G j := fun k z' hz' hkj q => hkj (hr.hh.inj k j z' y hz' hy q)
  refine hK' _ _ ⟨G, ?_, ?_⟩
  · refine act_ext (fun q _ => ?_)
    rw [selT_up_ne (fun x hx _ => hLne x hx)]
  · refine ⟨⟨hr.hh.keep.os, hr.hh.keep.tape, hr.hh.keep.output, by rw [setRow_size]; exact hr.hh.keep.size, fun k hk hs => ?_⟩, fun k z' hz' => ?_, fun k z' hz' h0 => ?_, fun k z' hz' h2 => ?_, fun k l z1 z2 h1 h2 hG => ?_, hr.hh.fix⟩
    · rw [setRow_other _ _ _ _ (fun q => hs (by rw [q] at hk ⊢; exact hS hk))]
      exact hr.hh.keep.block k hk hs
    · by_cases e : k = j
      · subst e
        rw [self] at hz'
        obtain rfl := Option.some.inj hz'
        rw [setRow_heap w (G k) (y.vals G) _ y.ty (0, 0) hobj', hlist]
        show some _ = some (Obj.cells _ y.ty y.fr)
        rw [hfr0]
      · rw [other k e] at hz'
        rw [setRow_other _ _ _ _ (hne' k z' hz' e)]
        exact hr.hh.obj k z' hz'
    · by_cases e : k = j
      · subst e
        rw [self] at hz'
        obtain rfl := Option.some.inj hz'
        exact hr.hh.own k y hy h0
      · rw [other k e] at hz'; exact hr.hh.own k z' hz' h0
    · by_cases e : k = j
      · subst e
        rw [self] at hz'
        obtain rfl := Option.some.inj hz'
        exact hr.hh.wr k y hy h2
      · rw [other k e] at hz'; exact hr.hh.wr k z' hz' h2
    · have g : ∀ k z', hb (up b i) f.W f.N r.H k = some z' → ∃ z'', hb b f.W f.N r.H k = some z'' := fun k z' hz' => by
        by_cases e : k = j
        · exact ⟨y, by rw [e]; exact hy⟩
        · rw [other k e] at hz'; exact ⟨z', hz'⟩
      obtain ⟨_, g1⟩ := g k z1 h1
      obtain ⟨_, g2⟩ := g l z2 h2
      exact hr.hh.inj k l _ _ g1 g2 hG
end
end Go.Proofs.YtgdcafbdkidamaaGreatDoor.Ve
end
section
namespace Go.Proofs.YtgdcafbdkidamaaGreatDoor.Ve
open Go Go.RowKit Go.Proofs.YtgdcafbdkidamaaGreatDoorW.PrintWords Go.Proofs.YtgdcafbdkidamaaGreatDoorW.PrintLast
set_option linter.unusedVariables false
def Post (X : Cx) (Q : Exit → Tmps → Heap → Nat → Prop) (e : Exit) (a : Act) (w : World) : Prop := ∃ T H n G, Q e T H n ∧ a = act X.nt G T ∧ X.k0 ≤ n ∧ WfT T n ∧ WfH H n ∧ HoldsH X G H w
/-- A piece of code, from slots and boxes on. -/
def WC (X : Cx) (c : Code) (Q : Exit → Tmps → Heap → Nat → Prop) (T : Tmps) (H : Heap) (n : Nat) : Prop :=
  X.Good → X.k0 ≤ n → WfT T n → WfH H n → ∀ G w, HoldsH X G H w → c.wp X.P (Post X Q) (act X.nt G T) w

theorem selT_all {b : Nat → Bool} {T : Tmps} : ∀ {l : List (Nat × Tmp × AV)}, (∀ e ∈ l, b e.1 = true) → selT b l T = selT yes l T
  | [], _ => rfl
  | e :: r, h => by
    funext t
    unfold selT
    rw [h e List.mem_cons_self, selT_all (fun x hx => h x (List.mem_cons_of_mem _ hx))]
    rfl
theorem selC_all {b : Nat → Bool} {j : Nat} {f : Nat → AV} : ∀ {l : List (Nat × Nat × Nat × AV)}, (∀ e ∈ l, b e.1 = true) → selC b l j f = selC yes l j f
  | [], _ => rfl
  | e :: r, h => by
    funext t
    unfold selC
    rw [h e List.mem_cons_self, selC_all (fun x hx => h x (List.mem_cons_of_mem _ hx))]
    rfl
theorem selN_all {b : Nat → Bool} {H : Heap} : ∀ {l : List (Nat × Nat × Box)}, (∀ e ∈ l, b e.1 = true) → selN b l H = selN yes l H
  | [], _ => rfl
  | e :: r, h => by
    funext t
    unfold selN
    rw [h e List.mem_cons_self, selN_all (fun x hx => h x (List.mem_cons_of_mem _ hx))]
    rfl
theorem hb_all {b : Nat → Bool} {W : List (Nat × Nat × Nat × AV)} {N : List (Nat × Nat × Box)} {H : Heap} (hW : ∀ e ∈ W, b e.1 = true) (hN : ∀ e ∈ N, b e.1 = true) : hb b W N H = hb yes W N H := by
  funext j
  unfold hb
  rw [selN_all hN]
  cases selN yes N H j with
  | none => rfl
  | some x => simp only [selC_all hW]
theorem wfT_end {B : List Nat} {n0 nt : Nat} {f : RS} {T : Tmps} (hok : Ok B n0 nt f) (hT : WfT T n0) : WfT (selT yes f.L T) f.n := by
  intro t
  rcases selT_cases (b := yes) (T := T) (t := t) (l := f.L) with ⟨e, he, _, _, q⟩ | q
  · rw [q]; exact (hok.lL e he).2
  · rw [q]; exact AV.lt_mono hok.ln (hT t)
theorem wfH_end {B : List Nat} {n0 nt : Nat} {f : RS} {H : Heap} (hok : Ok B n0 nt f) (hH : WfH H n0) : WfH (hb yes f.W f.N H) f.n := by
  refine ⟨fun j hj => ?_, fun j x hx o ho => ?_⟩
  · unfold hb
    rw [selN_miss (fun e he q => by have := (hok.lN e he).2.1; omega), hH.1 j (by have := hok.ln; omega)]
  · obtain ⟨y, hy, rfl⟩ := hb_some hx
    show (selC yes f.W j y.cells o).lt f.n = true
    rcases selC_cases (b := yes) (f := y.cells) (j := j) (o := o) (l := f.W) with ⟨e, he, _, _, _, q⟩ | q
    · rw [q]; exact hok.lW e he
    · rw [q]
      rcases selN_cases hy with ⟨e, he, _, _, rfl⟩ | ⟨_, hH'⟩
      · exact (hok.lN e he).2.2.1 o ho
      · exact AV.lt_mono hok.ln (hH.2 j y hH' o ho)
theorem end_IR {X : Cx} {r : Rg} {f : RS} {Q : Exit → Tmps → Heap → Nat → Prop} (hg : X.Good) (hf : r.Fine X) (hok : Ok r.B r.n0 X.nt f) (hds : Ds r f) (hQ : Q .normal (selT yes f.L r.T) (hb yes f.W f.N r.H) f.n) :
    ∀ b a w, (∀ j, (List.range r.ops.length).contains j = true → b j = true) → IR X r.T r.H f b a w → Post X Q .normal a w := by
  rintro b a w hall ⟨G, rfl, hh⟩
  have con : ∀ j, j < r.ops.length → b j = true := fun j hj => hall j (by simpa using hj)
  have h1 : ∀ e ∈ f.L, b e.1 = true := fun e he => con _ (hds.lt he)
  have h2 : ∀ e ∈ f.W, b e.1 = true := fun e he => con _ (hds.W e he)
  have h3 : ∀ e ∈ f.N, b e.1 = true := fun e he => con _ (hds.N e he)
  refine ⟨_, _, _, G, hQ, by rw [selT_all h1], Nat.le_trans hf.k0 hok.ln, wfT_end hok hf.wT, wfH_end hok hf.wH, ?_⟩
  rw [hb_all h2 h3] at hh
  exact hh

/-- What each operation waits for, closed. -/
def bitsL (T : List (List Nat × List Nat)) : List Nat := T.foldl (fun acc r => acc ++ [upM acc acc.length r.1]) []
def regOk (nt : Nat) (B : List Nat) (ops : List Oper) : Bool :=
  waitsOk (rtab .any ops.toArray).2 B && (baseOk (rtab .any ops.toArray).2 (List.range ops.length) && ((lof (rtab .any ops.toArray).2.length (List.range ops.length) (fun _ => false) == List.replicate ops.length false) && tmpOk B ops))
theorem wc_drawn {X : Cx} {Q : Exit → Tmps → Heap → Nat → Prop} {T : Tmps} {H : Heap} {n id : Nat} {ops : List Oper} (B : List Nat) (hB : regOk X.nt B ops = true)
    (h : RJ X ⟨ops, B, T, H, n⟩ 0 ⟨[], [], [], [], n⟩ (fun f => okB B n X.nt f = true ∧ Q .normal (selT yes f.L T) (hb yes f.W f.N H) f.n)) : WC X (.region id ops.toArray true) Q T H n := by
  intro hg hk0 hT hH G w hh
  simp only [regOk, Bool.and_eq_true] at hB
  obtain ⟨h1, h2, h3, h4⟩ := hB
  have hf : Rg.Fine X ⟨ops, B, T, H, n⟩ := ⟨h4, hT, hH, hk0⟩
  obtain ⟨f, hle, hds, hst, hok, hQ⟩ := h hg hf ⟨fun _ h => (nomatch h), fun _ h => (nomatch h), fun _ h => (nomatch h)⟩ ⟨fun _ h => (nomatch h), fun _ h => (nomatch h), fun _ h => (nomatch h)⟩
  have ok := okB_ok hok
  refine start_ (S := fun _ => True) (ds := []) (Array.replicate ops.length false) hg.mixed (by simp) rfl trivial (fun _ => ?_)
  refine inv_ (List.range ops.length) (IR X T H f) rfl h1 h2 ?_ ⟨G, ?_, ?_⟩ (fun k hk => hst ok _ k (Nat.zero_le _) (by simpa using hk)) (end_IR hg hf ok hds hQ)
  · rw [Bool.and_eq_true]
    exact ⟨by rw [Array.toList_replicate]; exact h3, by simp⟩
  · refine act_ext (fun t _ => ?_)
    rw [selT_miss (fun _ _ _ => rfl)]
  · have : hb (fun _ => false) f.W f.N H = H := by
      funext j
      unfold hb
      cases hs : selN (fun _ => false) f.N H j with
      | none =>
        by_cases hex : ∃ e ∈ f.N, e.2.1 = j
        · obtain ⟨e, he, hej⟩ := hex
          have := (ok.lN e he).1
          exact (hH.1 j (by rw [← hej]; exact this)).symm
        · rw [selN_miss (fun e he q => hex ⟨e, he, q⟩)] at hs
          exact hs.symm
      | some x =>
        rcases selN_cases hs with ⟨_, _, _, q, _⟩ | ⟨_, hx⟩
        · cases q
        · rw [hx]
          have : selC (fun _ => false) f.W j x.cells = x.cells := by funext o; exact selC_miss (fun _ _ _ _ => rfl)
          simp only [this]
    rw [this]
    exact hh.drew

theorem wc_draw {X : Cx} {Q : Exit → Tmps → Heap → Nat → Prop} {T : Tmps} {H : Heap} {n id : Nat} {ops : List Oper}
    (h : RJ X ⟨ops, bitsL (rtab .any ops.toArray).2, T, H, n⟩ 0 ⟨[], [], [], [], n⟩ (fun f => okB (bitsL (rtab .any ops.toArray).2) n X.nt f = true ∧ Q .normal (selT yes f.L T) (hb yes f.W f.N H) f.n))
    (hB : regOk X.nt (bitsL (rtab .any ops.toArray).2) ops = true := by kernel_rfl) : WC X (.region id ops.toArray true) Q T H n := wc_drawn _ hB h
def waits (n : Nat) : List Nat := (List.range n).map fun i => 2 ^ i - 1
theorem waits_get {n i : Nat} (h : i < n) : (waits n).getD i 0 = 2 ^ i - 1 := by simp [waits, List.getD_eq_getElem?_getD, h]
theorem seq_from {P : Program} {ops : Array Oper} {Q : Exit → Act → World → Prop} (I : (Nat → Bool) → Act → World → Prop) {n : Nat} (hn : ops.size = n) (hs : ∀ i ∈ List.range n, StepAt P ops Q (waits n) (List.range n) I i)
    (hend : ∀ b a w, (∀ j, (List.range n).contains j = true → b j = true) → I b a w → Q .normal a w) :
    ∀ (d m : Nat), m + d = n → ∀ a w, I (fun j => decide (j < m)) a w → wpList P ops Q (ops.toList.drop m) a w
  | 0, m, hm, a, w, h => by
    rw [List.drop_eq_nil_of_le (by simp; omega)]
    refine wpList_nil (hend _ a w (fun j hj => ?_) h)
    have : j < n := by simpa using hj
    exact decide_eq_true (by omega)
  | d + 1, m, hm, a, w, h => by
    have hmn : m < n := by omega
    have hm' : m < ops.toList.length := by simp; omega
    rw [List.drop_eq_getElem_cons hm']
    obtain ⟨oi, hi, hstep⟩ := hs m (List.mem_range.2 hmn) _ a w h (decide_eq_false (by omega)) (fun j hj => by
        rw [Bool.and_eq_true, waits_get hmn, Nat.testBit_two_pow_sub_one] at hj
        simpa using hj.2) (fun dd hd => by
        rw [Bool.and_eq_true] at hd
        have h1 : dd < n := by simpa using hd.1
        have h2 := hd.2
        rw [waits_get h1, Nat.testBit_two_pow_sub_one] at h2
        simp at h2
        exact decide_eq_false (by omega))
    have ho : ops.toList[m] = oi := by
      have : ops[m]? = some ops.toList[m] := by rw [← Array.getElem?_toList, List.getElem?_eq_getElem hm']
      exact Option.some.inj (this.symm.trans hi)
    rw [ho]
    refine wpList_step fun K hK => hstep K (fun a' w' h' => hK a' w' (seq_from I hn hs hend d (m + 1) (by omega) a' w' ?_))
    have : up (fun j => decide (j < m)) m = fun j => decide (j < m + 1) := by
      funext j
      unfold up
      by_cases hj : j = m
      · rw [if_pos hj]; exact (decide_eq_true (by omega)).symm
      · rw [if_neg hj]; exact decide_eq_decide.2 (by omega)
    rw [← this]
    exact h'
theorem wc_plain {X : Cx} {Q : Exit → Tmps → Heap → Nat → Prop} {T : Tmps} {H : Heap} {n id : Nat} {ops : List Oper} (h : RJ X ⟨ops, waits ops.length, T, H, n⟩ 0 ⟨[], [], [], [], n⟩ (fun f => okB (waits ops.length) n X.nt f = true ∧ Q .normal (selT yes f.L T) (hb yes f.W f.N H) f.n))
    (hB : tmpOk (waits ops.length) ops = true := by kernel_rfl) : WC X (.region id ops.toArray false) Q T H n := by
  intro hg hk0 hT hH G w hh
  have hf : Rg.Fine X ⟨ops, waits ops.length, T, H, n⟩ := ⟨hB, hT, hH, hk0⟩
  obtain ⟨f, hle, hds, hst, hok, hQ⟩ := h hg hf ⟨fun _ h => (nomatch h), fun _ h => (nomatch h), fun _ h => (nomatch h)⟩ ⟨fun _ h => (nomatch h), fun _ h => (nomatch h), fun _ h => (nomatch h)⟩
  have ok := okB_ok hok
  refine wp_region_list ?_
  have := seq_from (P := X.P) (ops := ops.toArray) (Q := Post X Q) (n := ops.length) (IR X T H f) (by simp) (fun k hk => hst ok _ k (Nat.zero_le _) (by simpa using hk)) (end_IR hg hf ok hds hQ) ops.length 0 (by omega) (act X.nt G T) w ⟨G, ?_, ?_⟩
  · simpa using this
  · refine act_ext (fun t _ => ?_)
    rw [selT_miss (fun _ _ _ => by simp)]
  · have : hb (fun j => decide (j < 0)) f.W f.N H = H := by
      funext j
      unfold hb
      cases hs : selN (fun j => decide (j < 0)) f.N H j with
      | none =>
        by_cases hex : ∃ e ∈ f.N, e.2.1 = j
        · obtain ⟨e, he, hej⟩ := hex
          have := (ok.lN e he).1
          exact (hH.1 j (by rw [← hej]; exact this)).symm
        · rw [selN_miss (fun e he q => hex ⟨e, he, q⟩)] at hs
          exact hs.symm
      | some x =>
        rcases selN_cases hs with ⟨_, _, _, q, _⟩ | ⟨_, hx⟩
        · simp at q
        · rw [hx]
          have : selC (fun j => decide (j < 0)) f.W j x.cells = x.cells := by funext o; exact selC_miss (fun _ _ _ _ => by simp)
          simp only [this]
    rw [this]
    exact hh
/-- No operation is left. -/
theorem rj_end {X : Cx} {r : Rg} {i : Nat} {s : RS} {K : RS → Prop} (hi : r.ops.length = i) (h : K s) : RJ X r i s K := fun _ _ _ hd =>
  ⟨s, ⟨⟨fun _ h => h, fun _ h => .inl h⟩, ⟨fun _ h => h, fun _ h => .inl h⟩, ⟨fun _ h => h, fun _ h => .inl h⟩, fun _ h => h⟩, hd, fun _ _ k h1 h2 => by omega, h⟩

section
variable {X : Cx} {Q : Exit → Tmps → Heap → Nat → Prop} {T : Tmps} {H : Heap} {n : Nat}
def thn (K : Tmps → Heap → Nat → Prop) (Q : Exit → Tmps → Heap → Nat → Prop) : Exit → Tmps → Heap → Nat → Prop
  | .normal, T, H, n => K T H n
  | e, T, H, n => Q e T H n
def blk (id : Nat) (Q : Exit → Tmps → Heap → Nat → Prop) : Exit → Tmps → Heap → Nat → Prop
  | .exit id', T, H, n => bif Nat.beq id' id then Q .normal T H n else Q (.exit id') T H n
  | e, T, H, n => Q e T H n
theorem wc_seq {a b : Code} (h : WC X a (thn (WC X b Q) Q) T H n) : WC X (.seq a b) Q T H n := by
  intro hg hk hT hH G w hh
  refine wp_seq (wp_mono (h hg hk hT hH G w hh) ?_)
  rintro e a' w' ⟨T', H', n', G', hq, rfl, k, wT, wH, hh'⟩
  cases e with
  | normal => exact hq hg k wT wH G' w' hh'
  | exit id => exact ⟨T', H', n', G', hq, rfl, k, wT, wH, hh'⟩
  | goto l => exact ⟨T', H', n', G', hq, rfl, k, wT, wH, hh'⟩
  | ret => exact ⟨T', H', n', G', hq, rfl, k, wT, wH, hh'⟩
  | panic c => exact ⟨T', H', n', G', hq, rfl, k, wT, wH, hh'⟩
  | outgrown => exact ⟨T', H', n', G', hq, rfl, k, wT, wH, hh'⟩
theorem wc_skip (h : Q .normal T H n) : WC X .skip Q T H n := fun _ hk hT hH G w hh => wp_skip ⟨T, H, n, G, h, rfl, hk, hT, hH, hh⟩
theorem wc_ret (h : Q .ret T H n) : WC X .ret Q T H n := fun _ hk hT hH G w hh => wp_ret ⟨T, H, n, G, h, rfl, hk, hT, hH, hh⟩
theorem wc_exit {id : Nat} (h : Q (.exit id) T H n) : WC X (.exit id) Q T H n := fun _ hk hT hH G w hh => wp_exit ⟨T, H, n, G, h, rfl, hk, hT, hH, hh⟩
theorem wc_block {id : Nat} {c : Code} (h : WC X c (blk id Q) T H n) : WC X (.block id c) Q T H n := by
  intro hg hk hT hH G w hh
  refine wp_block (wp_mono (h hg hk hT hH G w hh) ?_)
  rintro e a' w' ⟨T', H', n', G', hq, rfl, k, wT, wH, hh'⟩
  cases e with
  | exit id' =>
    dsimp only [Exit.inBlock]
    dsimp only [blk] at hq
    cases e : Nat.beq id' id with
    | true =>
      rw [e] at hq
      rw [if_pos (Nat.eq_of_beq_eq_true e)]
      exact ⟨T', H', n', G', hq, rfl, k, wT, wH, hh'⟩
    | false =>
      rw [e] at hq
      rw [if_neg (fun q => by rw [q, Nat.beq_refl] at e; cases e)]
      exact ⟨T', H', n', G', hq, rfl, k, wT, wH, hh'⟩
  | normal => exact ⟨T', H', n', G', hq, rfl, k, wT, wH, hh'⟩
  | goto l => exact ⟨T', H', n', G', hq, rfl, k, wT, wH, hh'⟩
  | ret => exact ⟨T', H', n', G', hq, rfl, k, wT, wH, hh'⟩
  | panic c => exact ⟨T', H', n', G', hq, rfl, k, wT, wH, hh'⟩
  | outgrown => exact ⟨T', H', n', G', hq, rfl, k, wT, wH, hh'⟩
/-- A test of a slot. -/
theorem wc_cond {t : Tmp} {x y : Code} {β : Bool} (ht : Nat.blt t X.nt = true) (hv : T t = .v (.bool β)) (h1 : β = true → WC X x Q T H n) (h2 : β = false → WC X y Q T H n) : WC X (.cond (.tmp t) x y) Q T H n := by
  intro hg hk hT hH G w hh
  have he : (act X.nt G T).eval (.tmp t) = .bool β := by rw [eval_of (act_get (blt_iff.1 ht)), hv]; rfl
  refine wp_cond_split he (fun e => h1 e hg hk hT hH G w hh) (fun e => h2 e hg hk hT hH G w hh)
theorem wc_mono {c : Code} {Q' : Exit → Tmps → Heap → Nat → Prop} (h : WC X c Q T H n) (hq : ∀ e T H n, Q e T H n → Q' e T H n) : WC X c Q' T H n := fun hg hk hT hH G w hh =>
  wp_mono (h hg hk hT hH G w hh) (fun e a w ⟨T', H', n', G', q, r⟩ => ⟨T', H', n', G', hq _ _ _ _ q, r⟩)
/-- At most m rounds. -/
def WL (X : Cx) (c : Code) (Q : Exit → Tmps → Heap → Nat → Prop) (m : Nat) (T : Tmps) (H : Heap) (n : Nat) : Prop :=
  X.Good → X.k0 ≤ n → WfT T n → WfH H n → ∀ G w, HoldsH X G H w → Code.rounds X.P c (Post X Q) m (act X.nt G T) w
theorem wc_loop {c : Code} (m : Nat) (h : WL X c Q m T H n) : WC X (.loop c) Q T H n := fun hg hk hT hH G w hh => wp_loop_rounds m (h hg hk hT hH G w hh)
theorem wl_succ {c : Code} {m : Nat} (h : WC X c (thn (WL X c Q m) Q) T H n) : WL X c Q (m + 1) T H n := by
  intro hg hk hT hH G w hh
  rw [rounds_succ]
  refine wp_mono (h hg hk hT hH G w hh) ?_
  rintro e a' w' ⟨T', H', n', G', hq, rfl, k, wT, wH, hh'⟩
  cases e with
  | normal => exact hq hg k wT wH G' w' hh'
  | exit id => exact ⟨T', H', n', G', hq, rfl, k, wT, wH, hh'⟩
  | goto l => exact ⟨T', H', n', G', hq, rfl, k, wT, wH, hh'⟩
  | ret => exact ⟨T', H', n', G', hq, rfl, k, wT, wH, hh'⟩
  | panic c => exact ⟨T', H', n', G', hq, rfl, k, wT, wH, hh'⟩
  | outgrown => exact ⟨T', H', n', G', hq, rfl, k, wT, wH, hh'⟩
end
def plain : AV → Option Value
  | .v x => some x
  | _ => none
def cellsV (f : Nat → AV) : Nat → Nat → Option (List Value)
  | _, 0 => some []
  | o, n + 1 => match f o, cellsV f (o + 1) n with
    | .v x, some l => some (x :: l)
    | _, _ => none
theorem cellsV_get {G : Nat → Nat} {f : Nat → AV} : ∀ {n o : Nat} {l : List Value}, cellsV f o n = some l → l.length = n ∧ ∀ k, k < n → f (o + k) = .v (l.getD k undef)
  | 0, o, l, h => by
    have : l = [] := (Option.some.inj h).symm
    subst this
    exact ⟨rfl, fun k hk => by omega⟩
  | n + 1, o, l, h => by
    unfold cellsV at h
    cases hf : f o with
    | v x =>
      cases hc : cellsV f (o + 1) n with
      | none => rw [hf, hc] at h; cases h
      | some l' =>
        rw [hf, hc] at h
        obtain rfl := Option.some.inj h
        have ih := cellsV_get (G := G) hc
        refine ⟨by simp [ih.1], fun k hk => ?_⟩
        cases k with
        | zero => exact hf
        | succ k => rw [show o + (k + 1) = o + 1 + k by omega, ih.2 k (by omega)]; rfl
    | p _ _ => rw [hf] at h; cases h
    | sl _ _ _ _ => rw [hf] at h; cases h
theorem isAgg_run {P : Program} {t : TypeId} {i : TI} (h : tiOf P t = some i) (w : World) : (isAgg t).run P w = .ok i.agg w := by
  unfold tiOf at h
  cases hu : P.underlying t with
  | none => rw [hu] at h; cases h
  | some d =>
    cases hi : P.info? t with
    | none => rw [hu, hi] at h; cases h
    | some inf =>
      rw [hu, hi] at h
      cases hz : inf.zero with
      | none => simp only [hz] at h; cases h
      | some z =>
        simp only [hz] at h
        unfold isAgg
        rw [Sem.run_bind, run_underlying hu w]
        cases d <;> (simp only [Option.some.injEq] at h; subst h; rfl)
theorem sizeOf_run {P : Program} {t : TypeId} {i : TI} (h : tiOf P t = some i) (w : World) : (Go.sizeOf t).run P w = .ok i.size w := by
  unfold tiOf at h
  cases hu : P.underlying t with
  | none => rw [hu] at h; cases h
  | some d =>
    cases hi : P.info? t with
    | none => rw [hu, hi] at h; cases h
    | some inf =>
      rw [hu, hi] at h
      cases hz : inf.zero with
      | none => simp only [hz] at h; cases h
      | some z =>
        simp only [hz] at h
        have hs : inf.size = i.size := by cases d <;> (simp only [Option.some.injEq] at h; subst h; rfl)
        simp [Go.sizeOf, typeInfo, hi, hs]
theorem box_cell {w : World} {g o : Nat} {G : Nat → Nat} {x : Box} (h : w.heap[g]? = some (x.obj G)) (ho : o < x.m) : w.cell? ⟨g, o, none⟩ = some ((x.cells o).den G) := by
  rw [cell_of_row w g o _ _ _ h, Box.vals_get G x ho]
theorem add_eq (g o k : Nat) : (⟨g, o, none⟩ : Addr).add k = ⟨g, o + k, none⟩ := by unfold Addr.add; split <;> simp_all
/-- A whole variable out of a box. -/
theorem load_agg {P : Program} {t : TypeId} {i : TI} (h : tiOf P t = some i) (ha : i.agg = true) {w : World} {g o : Nat} {G : Nat → Nat} {x : Box} (hb : w.heap[g]? = some (x.obj G)) (hm : o + i.size ≤ x.m) {f : Nat → AV} (hf : ∀ k, o ≤ k → k < o + i.size → x.cells k = f k) {l : List Value} (hl : cellsV f o i.size = some l) :
    (loadVar t ⟨g, o, none⟩).run P w = .ok (.agg l.toArray) w := by
  have hc := cellsV_get (G := G) hl
  have hr := run_loadCells_list (P := P) w ⟨g, o, none⟩ l (fun j v hv => by
    have hj := (List.getElem?_eq_some_iff.1 hv).1
    rw [add_eq, box_cell hb (by omega), hf (o + j) (by omega) (by omega), hc.2 j (by omega), List.getD_eq_getElem?_getD, hv]
    rfl)
  rw [hc.1] at hr
  simp [loadVar, isAgg_run h w, ha, sizeOf_run h w, hr]
theorem load_one {P : Program} {t : TypeId} {i : TI} (h : tiOf P t = some i) (ha : i.agg = false) {w : World} {g o : Nat} {G : Nat → Nat} {x : Box} (hb : w.heap[g]? = some (x.obj G)) (hm : o < x.m) :
    (loadVar t ⟨g, o, none⟩).run P w = .ok ((x.cells o).den G) w := by
  simp [loadVar, isAgg_run h w, ha, load, Sem.run, box_cell hb hm]
/-- a result -/
def resV (X : Cx) (T : Tmps) (H : Heap) : ResultVar → Option Value
  | .tmp t => bif Nat.blt t X.nt then plain (T t) else none
  | .cell a t => bif Nat.blt a X.nt then (match T a with
    | .p j o => match H j, findT X.tys t with
      | some x, some i => bif Nat.ble (o + i.size) x.m then (bif i.agg then (match cellsV x.cells o i.size with
        | some l => some (.agg l.toArray)
        | none => none) else (bif Nat.beq i.size 1 then plain (x.cells o) else none)) else none
      | _, _ => none
    | _ => none) else none
def rvS (tmps : Array Value) : ResultVar → Sem Value
  | .tmp t => pure (tmps.getD t undef)
  | .cell a t => do loadVar t (← asAddr (tmps.getD a undef))
theorem resV_run {X : Cx} (hg : X.Good) {G : Nat → Nat} {T : Tmps} {H : Heap} {w : World} (hh : HoldsH X G H w) {a : ResultVar} {v : Value} (h : resV X T H a = some v) : (rvS (act X.nt G T).tmps a).run X.P w = .ok v w := by
  have get : ∀ {t : Nat}, Nat.blt t X.nt = true → (act X.nt G T).tmps.getD t undef = (T t).den G := fun ht => by rw [Array.getD_eq_getD_getElem?, act_get (blt_iff.1 ht)]; rfl
  cases a with
  | tmp t =>
    dsimp only [resV] at h
    cases ht : Nat.blt t X.nt with
    | false => rw [ht] at h; cases h
    | true =>
      rw [ht] at h
      show (pure ((act X.nt G T).tmps.getD t undef) : Sem Value).run X.P w = _
      rw [get ht]
      cases hT : T t with
      | v x => rw [hT] at h; obtain rfl := Option.some.inj h; rfl
      | p _ _ => rw [hT] at h; cases h
      | sl _ _ _ _ => rw [hT] at h; cases h
  | cell a t =>
    dsimp only [resV] at h
    cases ht : Nat.blt a X.nt with
    | false => rw [ht] at h; cases h
    | true =>
      rw [ht] at h
      cases hT : T a with
      | v x => rw [hT] at h; cases h
      | sl _ _ _ _ => rw [hT] at h; cases h
      | p j o =>
        rw [hT] at h
        dsimp only [cond_true] at h
        cases hH : H j with
        | none => rw [hH] at h; cases h
        | some x =>
          cases hF : findT X.tys t with
          | none => rw [hH, hF] at h; cases h
          | some i =>
            rw [hH, hF] at h
            dsimp only at h
            have hti := hg.ti hF
            cases hm : Nat.ble (o + i.size) x.m with
            | false => rw [hm] at h; cases h
            | true =>
              rw [hm] at h
              dsimp only [cond_true] at h
              have hm' := Nat.le_of_ble_eq_true hm
              have hb := hh.obj j x hH
              show (do loadVar t (← asAddr ((act X.nt G T).tmps.getD a undef)) : Sem Value).run X.P w = _
              rw [get ht, hT]
              show (loadVar t ⟨G j, o, none⟩).run X.P w = _
              cases ha : i.agg with
              | true =>
                rw [ha] at h
                dsimp only [cond_true] at h
                cases hc : cellsV x.cells o i.size with
                | none => rw [hc] at h; cases h
                | some l =>
                  rw [hc] at h
                  obtain rfl := Option.some.inj h
                  exact load_agg hti ha hb hm' (fun _ _ _ => rfl) hc
              | false =>
                rw [ha] at h
                dsimp only [cond_false] at h
                cases h1 : Nat.beq i.size 1 with
                | false => rw [h1] at h; cases h
                | true =>
                  rw [h1] at h
                  dsimp only [cond_true] at h
                  have h1' := Nat.eq_of_beq_eq_true h1
                  rw [load_one hti ha hb (by omega)]
                  cases hp : x.cells o with
                  | v y => rw [hp] at h; obtain rfl := Option.some.inj h; rfl
                  | p _ _ => rw [hp] at h; cases h
                  | sl _ _ _ _ => rw [hp] at h; cases h
def resL (X : Cx) (T : Tmps) (H : Heap) : List ResultVar → Option (List Value)
  | [] => some []
  | a :: r => match resV X T H a, resL X T H r with
    | some v, some l => some (v :: l)
    | _, _ => none
def outV : List Value → Value
  | [v] => v
  | l => .tuple l.toArray
theorem resL_run {X : Cx} (hg : X.Good) {G : Nat → Nat} {T : Tmps} {H : Heap} {w : World} (hh : HoldsH X G H w) : ∀ {rs : List ResultVar} {l : List Value}, resL X T H rs = some l → (rs.mapM (rvS (act X.nt G T).tmps)).run X.P w = .ok l w
  | [], l, h => by obtain rfl := Option.some.inj h; rfl
  | a :: r, l, h => by
    unfold resL at h
    cases h1 : resV X T H a with
    | none => rw [h1] at h; cases h
    | some v =>
      cases h2 : resL X T H r with
      | none => rw [h1, h2] at h; cases h
      | some l' =>
        rw [h1, h2] at h
        obtain rfl := Option.some.inj h
        rw [List.mapM_cons, Sem.run_bind, resV_run hg hh h1, Result.andThen_ok, Sem.run_bind, resL_run hg hh h2]
        rfl
theorem results_run {X : Cx} (hg : X.Good) {G : Nat → Nat} {T : Tmps} {H : Heap} {w : World} (hh : HoldsH X G H w) {fn : Func} {l : List Value} (h : resL X T H fn.results.toList = some l) : (results fn (act X.nt G T).tmps).run X.P w = .ok (outV l) w := by
  have h1 := resL_run hg hh h
  have e : results fn (act X.nt G T).tmps = (do
      let vs ← fn.results.mapM (rvS (act X.nt G T).tmps)
      pure (if h : vs.size = 1 then vs[0] else .tuple vs)) := by
    unfold results
    congr 2
  rw [e, Array.mapM_eq_mapM_toList, Sem.run_bind, Sem.run_map, h1]
  show Result.ok _ w = _
  congr 1
  match l with
  | [] => rfl
  | [v] => rfl
  | a :: b :: r => simp [outV]
/-- The end of a walk: what is returned. -/
def Fin (X : Cx) (rs : List ResultVar) (v : Value) : Exit → Tmps → Heap → Nat → Prop
  | .ret, T, H, _ => ∃ l, resL X T H rs = some l ∧ outV l = v
  | .normal, T, H, _ => ∃ l, resL X T H rs = some l ∧ outV l = v
  | _, _, _, _ => False
theorem fin_ret {X : Cx} {rs : List ResultVar} {v : Value} {T : Tmps} {H : Heap} {n : Nat} {l : List Value} (h : resL X T H rs = some l) (hv : outV l = v) : Fin X rs v .ret T H n := ⟨l, h, hv⟩
theorem fin_end {X : Cx} {rs : List ResultVar} {v : Value} {T : Tmps} {H : Heap} {n : Nat} {l : List Value} (h : resL X T H rs = some l) (hv : outV l = v) : Fin X rs v .normal T H n := ⟨l, h, hv⟩
/-- The context of a call that is handed no box of its own: it makes memory alone. -/
def cx (P : Program) (w : World) (Γ : World → Prop) (nt : Nat) (tys : List (Nat × TI)) (fns : List Nat) : Cx := ⟨P, w, fun _ => False, fun j => j, 0, Γ, nt, tys, fns⟩
def none_ : Heap := fun _ => none
theorem entry_act {nt : Nat} {G : Nat → Nat} {args : List Value} (h : Nat.ble args.length nt = true) : ({ tmps := args.toArray ++ Array.replicate (nt - args.toArray.size) undef, defers := [] } : Act) = act nt G (ls (args.map AV.v)) := by
  have hl := Nat.le_of_ble_eq_true h
  have key : ∀ (l : List Value) (t : Nat), (ls (l.map AV.v) t).den G = l.getD t undef := by
    intro l
    induction l with
    | nil => intro t; rfl
    | cons x r ih =>
      intro t
      cases t with
      | zero => rfl
      | succ t => show (ls (r.map AV.v) t).den G = _; rw [ih t]; rfl
  unfold act
  congr 1
  apply Array.ext
  · simp; omega
  · intro i h1 h2
    simp only [List.size_toArray, List.length_map, List.length_range] at h2
    rw [Array.getElem_append]
    have e : ((List.range nt).map fun t => (ls (args.map AV.v) t).den G).toArray[i] = args.getD i undef := by simp [key]
    rw [e]
    by_cases hi : i < args.length
    · simp [hi, List.getD_eq_getElem?_getD]
    · simp [hi, List.getD_eq_getElem?_getD]
theorem ve_fn {P : Program} {f : FuncId} {fn : Func} {c : Code} {w : World} {Γ : World → Prop} {nt : Nat} {tys : List (Nat × TI)} {fns : List Nat} {args : List Value} {v : Value}
    (hf : P.funcs[f]? = some fn) (hb : fn.body = some c) (hnt : fn.ntmps = nt) (hl : Nat.ble args.length nt = true) (hg : (cx P w Γ nt tys fns).Good)
    (h : WC (cx P w Γ nt tys fns) c (Fin (cx P w Γ nt tys fns) fn.results.toList v) (ls (args.map AV.v)) none_ 0) :
    Calls P f args.toArray w fun e w' => e = .returned v ∧ Below w.heap.size w w' := by
  refine calls_of_wp hf hb ?_
  rw [hnt, entry_act (G := fun j => j) hl]
  have wfT : WfT (ls (args.map AV.v)) 0 := by
    intro t
    have : ∀ (l : List Value) t, (ls (l.map AV.v) t).lt 0 = true := by
      intro l
      induction l with
      | nil => intro t; rfl
      | cons x r ih => intro t; cases t with
        | zero => rfl
        | succ t => exact ih t
    exact this args t
  refine Go.wp_mono (h hg (Nat.le_refl 0) wfT ⟨fun _ _ => rfl, fun _ _ q => (nomatch q)⟩ (fun j => j) w ⟨⟨rfl, rfl, rfl, Nat.le_refl _, fun _ _ _ => rfl⟩, fun _ _ q => (nomatch q), fun _ _ q => (nomatch q), fun _ _ q => (nomatch q), fun _ _ _ _ q => (nomatch q), fun j hj => absurd hj (Nat.not_lt_zero j)⟩) ?_
  rintro e a w' ⟨T, H, n, G, hq, rfl, _, _, _, hh⟩
  have hbel : Below w.heap.size w w' := hh.keep.toBelow (fun _ q => q)
  cases e with
  | ret =>
    obtain ⟨l, h1, h2⟩ := hq
    exact bodyPost_ret (results_run hg hh h1) rfl ⟨by rw [h2], hbel⟩
  | normal =>
    obtain ⟨l, h1, h2⟩ := hq
    exact bodyPost_end (results_run hg hh h1) rfl ⟨by rw [h2], hbel⟩
  | exit _ => exact hq.elim
  | goto _ => exact hq.elim
  | panic _ => exact hq.elim
  | outgrown => exact hq.elim
end Go.Proofs.YtgdcafbdkidamaaGreatDoor.Ve
end
section
namespace Go.Proofs.YtgdcafbdkidamaaGreatDoor.Ve
open Go Go.RowKit Go.Proofs.YtgdcafbdkidamaaGreatDoorW.PrintWords Go.Proofs.YtgdcafbdkidamaaGreatDoorW.PrintLast
set_option linter.unusedVariables false
/-- a number evaluated before it is handed on -/
def frc {α : Type} (n : Nat) (k : Nat → α) : α := match n with
  | 0 => k 0
  | m + 1 => k (m + 1)
theorem frc_eq {α : Type} (n : Nat) (k : Nat → α) : frc n k = k n := by cases n <;> rfl
def fA (a : AV) : AV := match a with
  | .v x => .v x
  | .p j o => frc j fun j => frc o fun o => .p j o
  | .sl j o n c => frc j fun j => frc o fun o => frc n fun n => frc c fun c => .sl j o n c
theorem fA_eq (a : AV) : fA a = a := by cases a <;> simp [fA, frc_eq]
/-- the slots t, t + 1, .. (n of them) -/
def fT (T : Nat → AV) : Nat → Nat → Option (List AV)
  | 0, _ => some []
  | n + 1, t => match fA (T t), fT T n (t + 1) with
    | .v x, some l => some (.v x :: l)
    | .p j o, some l => some (.p j o :: l)
    | .sl j o m c, some l => some (.sl j o m c :: l)
    | _, none => none
theorem fT_cons {T : Nat → AV} {n t : Nat} {l : List AV} (h : fT T (n + 1) t = some l) : ∃ r, fT T n (t + 1) = some r ∧ l = T t :: r := by
  unfold fT at h
  rw [fA_eq] at h
  cases hT : T t <;> cases hr : fT T n (t + 1) <;> rw [hT, hr] at h <;> first | (cases h <;> fail) | exact ⟨_, rfl, (Option.some.inj h).symm⟩
theorem fT_eq {T : Nat → AV} : ∀ {n t : Nat} {l : List AV}, fT T n t = some l → l.length = n ∧ ∀ k, k < n → ls l k = T (t + k)
  | 0, t, l, h => by obtain rfl := Option.some.inj h; exact ⟨rfl, fun k hk => by omega⟩
  | n + 1, t, l, h => by
    obtain ⟨r, hr, rfl⟩ := fT_cons h
    obtain ⟨h1, h2⟩ := fT_eq hr
    refine ⟨by simp [h1], fun k hk => ?_⟩
    cases k with
    | zero => rfl
    | succ k =>
      show ls r k = _
      rw [h2 k (by omega)]
      congr 1; omega
theorem ls_out : ∀ {l : List AV} {k : Nat}, l.length ≤ k → ls l k = .v undef
  | [], k, _ => rfl
  | a :: r, 0, h => by simp at h
  | a :: r, k + 1, h => ls_out (l := r) (by simpa using h)
def hl (bl : List (Option Box)) : Heap := fun j => (bl[j]?).join
def fB (b : Box) : Option Box := match fT b.cells b.m 0 with
  | some cs => frc b.m fun m => frc b.ty fun ty => frc b.fr.1 fun f1 => frc b.fr.2 fun f2 => frc b.kd fun kd => some ⟨ls cs, m, ty, (f1, f2), kd⟩
  | none => none
def fH (H : Heap) : Nat → Nat → Option (List (Option Box))
  | 0, _ => some []
  | n + 1, j => match H j, fH H n (j + 1) with
    | none, some l => some (none :: l)
    | some b, some l => match fB b with
      | some c => some (some c :: l)
      | none => none
    | _, none => none
/-- two boxes that hold the same -/
structure Box.Same (b c : Box) : Prop where
  m : c.m = b.m
  ty : c.ty = b.ty
  fr : c.fr = b.fr
  kd : c.kd = b.kd
  cells : ∀ o, o < b.m → c.cells o = b.cells o
theorem fB_same {b c : Box} (h : fB b = some c) : b.Same c := by
  unfold fB at h
  cases hc : fT b.cells b.m 0 with
  | none => rw [hc] at h; cases h
  | some cs =>
    rw [hc] at h
    simp only [frc_eq, Option.some.injEq] at h
    obtain ⟨h1, h2⟩ := fT_eq hc
    subst h
    exact ⟨rfl, rfl, rfl, rfl, fun o ho => by have := h2 o ho; simpa using this⟩
theorem Box.Same.obj {b c : Box} (h : b.Same c) (G : Nat → Nat) : c.obj G = b.obj G := by
  unfold Box.obj Box.vals
  rw [h.ty, h.fr, h.m]
  congr 2
  exact List.map_congr_left (fun o ho => by rw [h.cells o (by simpa using ho)])
theorem fH_cons {H : Heap} {n j : Nat} {l : List (Option Box)} (h : fH H (n + 1) j = some l) : ∃ x r, fH H n (j + 1) = some r ∧ l = x :: r ∧ ((H j = none ∧ x = none) ∨ ∃ b c, H j = some b ∧ x = some c ∧ b.Same c) := by
  unfold fH at h
  cases hH : H j with
  | none =>
    cases hr : fH H n (j + 1) with
    | none => rw [hH, hr] at h; cases h
    | some r => rw [hH, hr] at h; exact ⟨_, r, rfl, (Option.some.inj h).symm, .inl ⟨rfl, rfl⟩⟩
  | some b =>
    cases hr : fH H n (j + 1) with
    | none => rw [hH, hr] at h; cases h
    | some r =>
      rw [hH, hr] at h
      dsimp only at h
      cases hb : fB b with
      | none => rw [hb] at h; cases h
      | some c => rw [hb] at h; exact ⟨_, r, rfl, (Option.some.inj h).symm, .inr ⟨b, c, rfl, rfl, fB_same hb⟩⟩
theorem fH_eq {H : Heap} : ∀ {n j : Nat} {l : List (Option Box)}, fH H n j = some l → l.length = n ∧ ∀ k, k < n → (H (j + k) = none ∧ hl l k = none) ∨ ∃ b c, H (j + k) = some b ∧ hl l k = some c ∧ b.Same c
  | 0, j, l, h => by obtain rfl := Option.some.inj h; exact ⟨rfl, fun k hk => by omega⟩
  | n + 1, j, l, h => by
    obtain ⟨x, r, hr, rfl, hx⟩ := fH_cons h
    obtain ⟨h1, h2⟩ := fH_eq hr
    refine ⟨by simp [h1], fun k hk => ?_⟩
    cases k with
    | zero =>
      rcases hx with ⟨a, rfl⟩ | ⟨b, c, a, rfl, s⟩
      · exact .inl ⟨a, rfl⟩
      · exact .inr ⟨b, c, a, rfl, s⟩
    | succ k =>
      have := h2 k (by omega)
      rw [show j + (k + 1) = j + 1 + k by omega]
      exact this
/-- The same code from the lists on. -/
theorem wN {X : Cx} {c : Code} {Q : Exit → Tmps → Heap → Nat → Prop} {T : Tmps} {H : Heap} {n : Nat} {l : List AV} {bl : List (Option Box)} {m : Nat} (h : WC X c Q (ls l) (hl bl) m) (hT : fT T X.nt 0 = some l := by rfl) (hH : fH H n 0 = some bl := by rfl) (hm : frc n some = some m := by rfl) : WC X c Q T H n := by
  intro hg hk hwT hwH G w hh
  rw [frc_eq] at hm
  obtain rfl := Option.some.inj hm
  obtain ⟨t1, t2⟩ := fT_eq hT
  obtain ⟨b1, b2⟩ := fH_eq hH
  have back : ∀ j c, hl bl j = some c → ∃ b, H j = some b ∧ b.Same c := by
    intro j c hc
    by_cases hj : j < n
    · rcases b2 j hj with ⟨_, q⟩ | ⟨b, c', hb, hc', s⟩
      · rw [q] at hc; cases hc
      · rw [Nat.zero_add] at hb
        rw [hc'] at hc
        obtain rfl := Option.some.inj hc
        exact ⟨b, hb, s⟩
    · unfold hl at hc
      rw [List.getElem?_eq_none (by omega)] at hc
      cases hc
  have e : act X.nt G T = act X.nt G (ls l) := act_ext (fun t ht => by rw [t2 t ht, Nat.zero_add])
  rw [e]
  refine h hg hk (fun t => ?_) ⟨fun j hj => ?_, fun j c hc o ho => ?_⟩ G w ⟨hh.keep, fun j c hc => ?_, fun j c hc h0 => ?_, fun j c hc h2 => ?_, fun i j x y hx hy hG => ?_, hh.fix⟩
  · by_cases ht : t < X.nt
    · rw [t2 t ht, Nat.zero_add]; exact hwT t
    · rw [ls_out (by omega)]; rfl
  · cases hc : hl bl j with
    | none => rfl
    | some c =>
      obtain ⟨b, hb, _⟩ := back j c hc
      rw [hwH.1 j hj] at hb; cases hb
  · obtain ⟨b, hb, s⟩ := back j c hc
    rw [s.m] at ho
    rw [s.cells o ho]
    exact hwH.2 j b hb o ho
  · obtain ⟨b, hb, s⟩ := back j c hc
    rw [s.obj G]; exact hh.obj j b hb
  · obtain ⟨b, hb, s⟩ := back j c hc
    rw [s.fr]; exact hh.own j b hb (s.kd ▸ h0)
  · obtain ⟨b, hb, s⟩ := back j c hc
    rw [s.fr]; exact hh.wr j b hb (s.kd ▸ h2)
  · obtain ⟨b, hb, _⟩ := back i x hx
    obtain ⟨c, hc, _⟩ := back j y hy
    exact hh.inj i j b c hb hc hG
/-- Code that is to be walked from plain lists on. -/
structure WN (X : Cx) (c : Code) (Q : Exit → Tmps → Heap → Nat → Prop) (T : Tmps) (H : Heap) (n : Nat) : Prop where
  out : WC X c Q T H n
theorem wq {X : Cx} {Q : Exit → Tmps → Heap → Nat → Prop} {T : Tmps} {H : Heap} {n : Nat} {a b : Code} (h : WC X a (thn (WN X b Q) Q) T H n) : WC X (.seq a b) Q T H n :=
  wc_seq (wc_mono h (fun e T H n q => by cases e <;> first | exact q.out | exact q))
theorem wn {X : Cx} {c : Code} {Q : Exit → Tmps → Heap → Nat → Prop} {T : Tmps} {H : Heap} {n : Nat} {l : List AV} {bl : List (Option Box)} {m : Nat} (h : WC X c Q (ls l) (hl bl) m) (hT : fT T X.nt 0 = some l := by rfl) (hH : fH H n 0 = some bl := by rfl) (hm : frc n some = some m := by rfl) : WN X c Q T H n := ⟨wN h hT hH hm⟩
end Go.Proofs.YtgdcafbdkidamaaGreatDoor.Ve
end
