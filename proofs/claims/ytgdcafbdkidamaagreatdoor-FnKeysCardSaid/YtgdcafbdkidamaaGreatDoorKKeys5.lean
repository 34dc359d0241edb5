/- What the proof of FnKeys leans on, part 5: cut out of the texts of this claim's making by a program (wip/tools/pack.py). -/
import Derived.Test.YtgdcafbdkidamaaGreatDoorKKeys4
import Derived.Below
import Derived.KernelRfl
import Derived.Laws.CopyRow
import Derived.Laws.Slices
import Derived.Laws.Tables
import Derived.WalkKit
section
namespace Go.Proofs.YtgdcafbdkidamaaGreatDoor.Ve
open Go Go.RowKit Go.Proofs.YtgdcafbdkidamaaGreatDoorW.PrintWords Go.Proofs.YtgdcafbdkidamaaGreatDoorW.PrintLast
set_option linter.unusedVariables false
def PR (P : Program) (m : Sem Value) (v : Value) : Prop := ∀ w, m.run P w = .ok v w
def nrm : AV → Option AV
  | .v x => some (.v x)
  | .p j o => some (.p j o)
  | .sl j o n c => some (.sl j o n c)
def nrmL : List Value → Option (List Value)
  | [] => some []
  | a :: r => match nrmL r with
    | some l => some (a :: l)
    | none => none
theorem nrm_eq {a b : AV} (h : nrm a = some b) : a = b := by cases a <;> exact Option.some.inj h
theorem nrmL_eq : ∀ {a b : List Value}, nrmL a = some b → a = b
  | [], b, h => Option.some.inj h
  | x :: r, b, h => by
    unfold nrmL at h
    cases hr : nrmL r with
    | none => rw [hr] at h; cases h
    | some l => rw [hr] at h; rw [← Option.some.inj h, nrmL_eq hr]

section
variable {X : Cx} {r : Rg} {i : Nat} {s : RS} {K : RS → Prop} {o : Oper} {t : Tmp}
def nms (X : Cx) (o : Oper) : Bool := (names o).all (fun t => Nat.blt t X.nt)
theorem opd_val {f : RS} {b : Nat → Bool} {G : Nat → Nat} {w : World} (h : Rdy X r i f b G w) (hs : Bnd i s) (hle : Le i s f) (ho : r.ops[i]? = some o) (hn : nms X o = true) {x : Operand} (hx : x ∈ o.op.operands.toList) {a : AV} (ha : opd r s x = a) :
    (act X.nt G (selT b f.L r.T)).eval x = a.den G := by
  subst ha
  exact opd_eval h hs hle ho hx (fun q hq => blt_iff.1 (List.all_eq_true.1 hn q (List.mem_filterMap.2 ⟨x, hx, by rw [hq]⟩)))

/-- an operation of one plain operand -/
theorem rj_op1 {x : Operand} {a v : Value} {F : Value → Sem Value} (ho : r.ops[i]? = some o) (hg : gOk s o.guard = true) (hd : o.dst = some t) (hn : nms X o = true) (hx : opd r s x = .v a)
    (hm : x ∈ o.op.operands.toList) (hF : ∀ ρ, execOp ρ o = (F (ρ x)).bind (fun v => Sem.pure (Next.value v))) (hp : PR X.P (F a) v)
    (h : RJ X r (i + 1) { s with L := (i, t, .v v) :: s.L } K) : RJ X r i s K := by
  refine rj_val (.v v) s.R ho hg hd (fun _ h => h) ?_ h
  intro f b G w hr hs hle _
  rw [hF, Sem.run_bind', opd_val hr hs hle ho hn hm hx]
  show (F a |>.run X.P w).andThen _ = _
  rw [hp w]
  rfl
/-- of two -/
theorem rj_op2 {x y : Operand} {a b' v : Value} {F : Value → Value → Sem Value} (ho : r.ops[i]? = some o) (hg : gOk s o.guard = true) (hd : o.dst = some t) (hn : nms X o = true) (hx : opd r s x = .v a) (hy : opd r s y = .v b')
    (hm : x ∈ o.op.operands.toList) (hm2 : y ∈ o.op.operands.toList) (hF : ∀ ρ, execOp ρ o = (F (ρ x) (ρ y)).bind (fun v => Sem.pure (Next.value v))) (hp : PR X.P (F a b') v)
    (h : RJ X r (i + 1) { s with L := (i, t, .v v) :: s.L } K) : RJ X r i s K := by
  refine rj_val (.v v) s.R ho hg hd (fun _ h => h) ?_ h
  intro f b G w hr hs hle _
  rw [hF, Sem.run_bind', opd_val hr hs hle ho hn hm hx, opd_val hr hs hle ho hn hm2 hy]
  show (F a b' |>.run X.P w).andThen _ = _
  rw [hp w]
  rfl
variable {tp : TypeId} {ps : String} {af : Array Edge} {gd : Option (Nat × Bool)}
def binV : BinOp → Value → Value → Option Value
  | .add, .int k a, .int _ b => some (.int k (k.wrap (a + b)))
  | .sub, .int k a, .int _ b => some (.int k (k.wrap (a - b)))
  | .mul, .int k a, .int _ b => some (.int k (k.wrap (a * b)))
  | .quo, .int k a, .int _ b => some (.int k (k.wrap (a.tdiv b)))
  | .rem, .int k a, .int _ b => some (.int k (a.tmod b))
  | .lss, .int _ a, .int _ b => some (.bool (decide (a < b)))
  | .leq, .int _ a, .int _ b => some (.bool (decide (a ≤ b)))
  | .gtr, .int _ a, .int _ b => some (.bool (decide (a > b)))
  | .geq, .int _ a, .int _ b => some (.bool (decide (a ≥ b)))
  | .eql, .int _ a, .int _ b => some (.bool (a == b))
  | .neq, .int _ a, .int _ b => some (.bool (a != b))
  | .eql, .string a, .string b => some (.bool (a.toList == b.toList))
  | .neq, .string a, .string b => some (.bool (!(a.toList == b.toList)))
  | .eql, .bool a, .bool b => some (.bool (a == b))
  | .neq, .bool a, .bool b => some (.bool (!(a == b)))
  | _, _, _ => none
theorem rj_bin {op : BinOp} {ty ty2 : TypeId} {x y : Operand} {a b v : Value} (ho : r.ops[i]? = some ⟨some t, .binOp op ty x y ty2, tp, ps, af, gd⟩)
    (hx : opd r s x = .v a) (hy : opd r s y = .v b) (hv : binV op a b = some v) (h : RJ X r (i + 1) { s with L := (i, t, .v v) :: s.L } K) (hn : nms X ⟨some t, .binOp op ty x y ty2, tp, ps, af, gd⟩ = true := by kernel_rfl) (hp : ∀ w, Sem.run X.P (do eqGuard op ty x y a b; binOp op ty a b) w = .ok v w := by intro w; kernel_rfl) (hgd : gOk s gd = true := by rfl) : RJ X r i s K :=
  rj_op2 (F := fun a b => do eqGuard op ty x y a b; binOp op ty a b) ho hgd rfl hn hx hy (by simp [Op.operands]) (by simp [Op.operands]) (fun ρ => rfl) hp h
theorem rj_binp {op : BinOp} {ty ty2 : TypeId} {x y : Operand} {a b v : Value} (ho : r.ops[i]? = some ⟨some t, .binOp op ty x y ty2, tp, ps, af, gd⟩)
    (hx : opd r s x = .v a) (hy : opd r s y = .v b) (hp : ∀ w, Sem.run X.P (do eqGuard op ty x y a b; binOp op ty a b) w = .ok v w) (h : RJ X r (i + 1) { s with L := (i, t, .v v) :: s.L } K) (hn : nms X ⟨some t, .binOp op ty x y ty2, tp, ps, af, gd⟩ = true := by kernel_rfl) (hgd : gOk s gd = true := by rfl) : RJ X r i s K :=
  rj_op2 (F := fun a b => do eqGuard op ty x y a b; binOp op ty a b) ho hgd rfl hn hx hy (by simp [Op.operands]) (by simp [Op.operands]) (fun ρ => rfl) hp h
def unV : UnOp → Value → Option Value
  | .neg, .int k a => some (.int k (k.wrap (0 - a)))
  | .not, .bool b => some (.bool !b)
  | _, _ => none
theorem rj_un {op : UnOp} {ty : TypeId} {x : Operand} {a v : Value} (ho : r.ops[i]? = some ⟨some t, .unOp op ty x, tp, ps, af, gd⟩)
    (hx : opd r s x = .v a) (hv : unV op a = some v) (h : RJ X r (i + 1) { s with L := (i, t, .v v) :: s.L } K) (hn : nms X ⟨some t, .unOp op ty x, tp, ps, af, gd⟩ = true := by kernel_rfl) (hp : ∀ w, Sem.run X.P (Op.unary op a) w = .ok v w := by intro w; kernel_rfl) (hgd : gOk s gd = true := by rfl) : RJ X r i s K :=
  rj_op1 (F := fun a => Op.unary op a) ho hgd rfl hn hx (by simp [Op.operands]) (fun ρ => rfl) hp h
/-- a value handed on -/
theorem rj_move {x : Operand} {b : AV} (ho : r.ops[i]? = some ⟨some t, .move x, tp, ps, af, gd⟩) (hb : nrm (opd r s x) = some b) (h : RJ X r (i + 1) { s with L := (i, t, b) :: s.L } K) (hn : nms X ⟨some t, .move x, tp, ps, af, gd⟩ = true := by kernel_rfl) (hgd : gOk s gd = true := by rfl) : RJ X r i s K := by
  refine rj_val b s.R ho hgd rfl (fun _ h => h) ?_ h
  intro f b' G w hr hs hle _
  have := opd_val hr hs hle ho hn (x := x) (by simp [Op.operands]) (nrm_eq hb)
  show Result.ok (Next.value ((act X.nt G (selT b' f.L r.T)).eval x)) w = _
  rw [this]
theorem rj_assign {x : Operand} {b : AV} (ho : r.ops[i]? = some ⟨some t, .assign x, tp, ps, af, gd⟩) (hb : nrm (opd r s x) = some b) (h : RJ X r (i + 1) { s with L := (i, t, b) :: s.L } K) (hn : nms X ⟨some t, .assign x, tp, ps, af, gd⟩ = true := by kernel_rfl) (hgd : gOk s gd = true := by rfl) : RJ X r i s K := by
  refine rj_val b s.R ho hgd rfl (fun _ h => h) ?_ h
  intro f b' G w hr hs hle _
  have := opd_val hr hs hle ho hn (x := x) (by simp [Op.operands]) (nrm_eq hb)
  show Result.ok (Next.value ((act X.nt G (selT b' f.L r.T)).eval x)) w = _
  rw [this]
theorem rj_ext {x : Operand} {k : Nat} {vs : Array Value} {v : Value} (ho : r.ops[i]? = some ⟨some t, .extract x k, tp, ps, af, gd⟩)
    (hx : opd r s x = .v (.tuple vs)) (hv : vs.toList[k]? = some v) (h : RJ X r (i + 1) { s with L := (i, t, .v v) :: s.L } K) (hn : nms X ⟨some t, .extract x k, tp, ps, af, gd⟩ = true := by kernel_rfl) (hgd : gOk s gd = true := by rfl) : RJ X r i s K :=
  rj_op1 (F := fun a => Instr.extract a k) ho hgd rfl hn hx (by simp [Op.operands]) (fun ρ => rfl) (fun w => by simp [Instr.extract, Array.getElem?_toList ▸ hv]) h

def fieldV (ti : TI) (cs : List Value) (k : Nat) : Option Value := match ti.flds[k]? with
  | some (off, sz, ag) => bif ag then (match nrmL ((cs.drop off).take sz) with
    | some l => some (.agg l.toArray)
    | none => none) else cs[off]?
  | none => none
theorem rj_field {ty : TypeId} {k : Nat} {x : Operand} {cs : Array Value} {v : Value} {ti : TI} (ho : r.ops[i]? = some ⟨some t, .field ty x k, tp, ps, af, gd⟩)
    (hx : opd r s x = .v (.agg cs)) (hT : findT X.tys ty = some ti) (hv : fieldV ti cs.toList k = some v) (h : RJ X r (i + 1) { s with L := (i, t, .v v) :: s.L } K) (hn : nms X ⟨some t, .field ty x k, tp, ps, af, gd⟩ = true := by kernel_rfl) (hp : ∀ w, Sem.run X.P (Instr.field ty (.agg cs) k) w = .ok v w := by intro w; kernel_rfl) (hgd : gOk s gd = true := by rfl) : RJ X r i s K :=
  rj_op1 (F := fun a => Instr.field ty a k) ho hgd rfl hn hx (by simp [Op.operands]) (fun ρ => rfl) hp h
def plainP (r : Rg) (s : RS) : List (Nat × Operand) → Option (List (Nat × Value))
  | [] => some []
  | (k, x) :: l => match opd r s x, plainP r s l with
    | .v v, some l => some ((k, v) :: l)
    | _, _ => none
theorem plainP_eq {r : Rg} {s : RS} : ∀ {l : List (Nat × Operand)} {pv : List (Nat × Value)}, plainP r s l = some pv → l.map (fun e => (e.1, opd r s e.2)) = pv.map (fun e => (e.1, AV.v e.2))
  | [], pv, h => by obtain rfl := Option.some.inj h; rfl
  | (k, x) :: l, pv, h => by
    unfold plainP at h
    cases hx : opd r s x with
    | v v =>
      cases hl : plainP r s l with
      | none => rw [hx, hl] at h; cases h
      | some q =>
        rw [hx, hl] at h
        obtain rfl := Option.some.inj h
        simp [hx, plainP_eq hl]
    | p _ _ => rw [hx] at h; cases h
    | sl _ _ _ _ => rw [hx] at h; cases h
def placeOf (ti : TI) (k : Nat) : Option (Nat × Nat) := match ti.len with
  | 0 => match ti.flds[k]? with
    | some (off, sz, _) => some (off, sz)
    | none => none
  | _ => some (k * ti.esz, ti.esz)
def spliceL (ti : TI) : List Value → List (Nat × Value) → Option (List Value)
  | z, [] => nrmL z
  | z, (k, v) :: l => match placeOf ti k with
    | some (off, sz) => spliceL ti (z.take off ++ v.cells.toList ++ z.drop (off + sz)) l
    | none => none
theorem rj_build {ty : TypeId} {parts : Array (Nat × Operand)} {pv : List (Nat × Value)} {l : List Value} {ti : TI} (ho : r.ops[i]? = some ⟨some t, .build ty parts, tp, ps, af, gd⟩)
    (hx : plainP r s parts.toList = some pv) (hT : findT X.tys ty = some ti) (hv : spliceL ti ti.zero pv = some l) (h : RJ X r (i + 1) { s with L := (i, t, .v (.agg l.toArray)) :: s.L } K) (hn : nms X ⟨some t, .build ty parts, tp, ps, af, gd⟩ = true := by kernel_rfl) (hp : X.P.built ty pv = some l.toArray := by kernel_rfl) (hgd : gOk s gd = true := by rfl) : RJ X r i s K := by
  refine rj_val (.v (.agg l.toArray)) s.R ho hgd rfl (fun _ h => h) ?_ h
  intro f b G w hr hs hle _
  have hev : (parts.map fun (k, x) => (k, (act X.nt G (selT b f.L r.T)).eval x)) = pv.toArray := by
    apply Array.ext'
    rw [Array.toList_map]
    have h1 : parts.toList.map (fun e => (e.1, (act X.nt G (selT b f.L r.T)).eval e.2)) = (parts.toList.map (fun e => (e.1, opd r s e.2))).map (fun e => (e.1, e.2.den G)) := by
      rw [List.map_map]
      refine List.map_congr_left (fun e he => ?_)
      show (e.1, _) = (e.1, _)
      rw [opd_val hr hs hle ho hn (x := e.2) (by simp [Op.operands]; exact ⟨e.1, by simpa using he⟩) rfl]
    refine h1.trans ?_
    rw [plainP_eq hx, List.map_map]
    show pv.map (fun e => (e.1, e.2)) = pv
    simp
  show (Sem.bind (Instr.build ty (parts.map fun (k, x) => (k, (act X.nt G (selT b f.L r.T)).eval x))) (fun v => Sem.pure (Next.value v))).run X.P w = _
  rw [hev, Sem.run_bind', run_build w ty pv.toArray l.toArray (by simpa using hp)]
  rfl
/-- a new box of plain cells -/
def bx (l : List Value) (ty : TypeId) : Box := ⟨ls (l.map AV.v), l.length, ty, (0, 0), 0⟩
theorem rj_alloc {ty : TypeId} {ti : TI} (ho : r.ops[i]? = some ⟨some t, .alloc ty, tp, ps, af, gd⟩) (hT : findT X.tys ty = some ti)
    (h : RJ X r (i + 1) { s with L := (i, t, .p s.n 0) :: s.L, N := (i, s.n, bx ti.zero ty) :: s.N, n := s.n + 1 } K) (hp : ∀ G w, Sem.run X.P (Instr.alloc ty true (.tuple #[])) w = .ok (.pointer (some ⟨w.heap.size, 0, none⟩)) (w.alloc ((bx ti.zero ty).obj G)) := by intro G w; kernel_rfl) (hgd : gOk s gd = true := by rfl) : RJ X r i s K := by
  refine rj_new (bx ti.zero ty) ho hgd rfl ?_ h
  intro f b G w hr hs hle
  show (Sem.bind (Instr.alloc ty true (.tuple #[])) (fun v => Sem.pure (Next.value v))).run X.P w = _
  rw [Sem.run_bind', hp G w]
  rfl
theorem rj_box {ty : TypeId} {x : Operand} {a : Value} (ho : r.ops[i]? = some ⟨some t, .box ty x, tp, ps, af, gd⟩) (hx : opd r s x = .v a) (h : RJ X r (i + 1) { s with L := (i, t, .p s.n 0) :: s.L, N := (i, s.n, bx a.cells.toList ty) :: s.N, n := s.n + 1 } K) (hn : nms X ⟨some t, .box ty x, tp, ps, af, gd⟩ = true := by kernel_rfl)
    (hp : ∀ G w, Sem.run X.P (Instr.box ty a) w = .ok (.pointer (some ⟨w.heap.size, 0, none⟩)) (w.alloc ((bx a.cells.toList ty).obj G)) := by intro G w; kernel_rfl) (hgd : gOk s gd = true := by rfl) : RJ X r i s K := by
  refine rj_new (bx a.cells.toList ty) ho hgd rfl ?_ h
  intro f b G w hr hs hle
  show (Sem.bind (Instr.box ty ((act X.nt G (selT b f.L r.T)).eval x)) (fun v => Sem.pure (Next.value v))).run X.P w = _
  rw [opd_val hr hs hle ho hn (x := x) (by simp [Op.operands]) hx]
  show (Sem.bind (Instr.box ty a) (fun v => Sem.pure (Next.value v))).run X.P w = _
  rw [Sem.run_bind', hp G w]
  rfl
theorem rj_faddr {ty : TypeId} {x : Operand} {k j o off sz : Nat} {ag : Bool} {ti : TI} (ho : r.ops[i]? = some ⟨some t, .fieldAddr ty x k, tp, ps, af, gd⟩) (hx : opd r s x = .p j o) (hT : findT X.tys ty = some ti) (hk : ti.flds[k]? = some (off, sz, ag))
    (h : RJ X r (i + 1) { s with L := (i, t, .p j (o + off)) :: s.L } K) (hn : nms X ⟨some t, .fieldAddr ty x k, tp, ps, af, gd⟩ = true := by kernel_rfl) (hp : ∀ g w, Sem.run X.P (Instr.fieldAt ty (.pointer (some ⟨g, o, none⟩)) k) w = .ok (.pointer (some ⟨g, o + off, none⟩)) w := by intro g w; kernel_rfl) (hgd : gOk s gd = true := by rfl) : RJ X r i s K := by
  refine rj_val (.p j (o + off)) s.R ho hgd rfl (fun _ h => h) ?_ h
  intro f b G w hr hs hle _
  show (Sem.bind (Instr.fieldAt ty ((act X.nt G (selT b f.L r.T)).eval x) k) (fun v => Sem.pure (Next.value v))).run X.P w = _
  rw [opd_val hr hs hle ho hn (x := x) (by simp [Op.operands]) hx]
  show (Sem.bind (Instr.fieldAt ty (.pointer (some ⟨G j, o, none⟩)) k) (fun v => Sem.pure (Next.value v))).run X.P w = _
  rw [Sem.run_bind', hp (G j) w]
  rfl
theorem rj_iaddr {ty : TypeId} {x y : Operand} {j o : Nat} {ik : IntKind} {m : Int} {ti : TI} (ho : r.ops[i]? = some ⟨some t, .indexAddr ty x y, tp, ps, af, gd⟩) (hx : opd r s x = .p j o) (hy : opd r s y = .v (.int ik m)) (hT : findT X.tys ty = some ti)
    (h : RJ X r (i + 1) { s with L := (i, t, .p j (o + m.toNat * ti.esz)) :: s.L } K) (hn : nms X ⟨some t, .indexAddr ty x y, tp, ps, af, gd⟩ = true := by kernel_rfl) (hp : ∀ g w, Sem.run X.P (Instr.indexAt ty (.pointer (some ⟨g, o, none⟩)) (.int ik m)) w = .ok (.pointer (some ⟨g, o + m.toNat * ti.esz, none⟩)) w := by intro g w; kernel_rfl) (hgd : gOk s gd = true := by rfl) : RJ X r i s K := by
  refine rj_val (.p j (o + m.toNat * ti.esz)) s.R ho hgd rfl (fun _ h => h) ?_ h
  intro f b G w hr hs hle _
  show (Sem.bind (Instr.indexAt ty ((act X.nt G (selT b f.L r.T)).eval x) ((act X.nt G (selT b f.L r.T)).eval y)) (fun v => Sem.pure (Next.value v))).run X.P w = _
  rw [opd_val hr hs hle ho hn (x := x) (by simp [Op.operands]) hx, opd_val hr hs hle ho hn (x := y) (by simp [Op.operands]) hy]
  show (Sem.bind (Instr.indexAt ty (.pointer (some ⟨G j, o, none⟩)) (.int ik m)) (fun v => Sem.pure (Next.value v))).run X.P w = _
  rw [Sem.run_bind', hp (G j) w]
  rfl
/-- a whole variable of several cells -/
theorem rj_loadn {ty : TypeId} {x : Operand} {j o : Nat} {y : Box} {ti : TI} {l : List Value} (ho : r.ops[i]? = some ⟨some t, .load ty x, tp, ps, af, gd⟩) (hx : opd r s x = .p j o) (hT : findT X.tys ty = some ti) (hag : ti.agg = true)
    (hy : hb yes s.W s.N r.H j = some y) (hv : cellsV y.cells o ti.size = some l) (hm : Nat.ble (o + ti.size) y.m = true) (hpos : Nat.beq ti.size 0 = false) (h : RJ X r (i + 1) { s with L := (i, t, .v (.agg l.toArray)) :: s.L, R := rl i j o ti.size s.R } K) (hn : nms X ⟨some t, .load ty x, tp, ps, af, gd⟩ = true := by kernel_rfl) (hgd : gOk s gd = true := by rfl) : RJ X r i s K := by
  refine rj_val (.v (.agg l.toArray)) (rl i j o ti.size s.R) ho hgd rfl (fun e he => rl_mem.1 e he) ?_ h
  intro f b G w hr hs hle hR
  have hm' := Nat.le_of_ble_eq_true hm
  have hp : 0 < ti.size := Nat.pos_of_ne_zero (fun q => by rw [q] at hpos; cases hpos)
  have hrd : ∀ k, k < ti.size → (i, j, o + k) ∈ f.R := fun k hk => hR _ (rl_mem.2 k hk)
  obtain ⟨z, hz, hzm, _, _, _, hzc⟩ := hr.box_at hs hle hy (.inr ⟨_, hrd 0 hp, rfl, rfl⟩)
  show (Sem.bind (Instr.loadAt ty ((act X.nt G (selT b f.L r.T)).eval x)) (fun v => Sem.pure (Next.value v))).run X.P w = _
  rw [opd_val hr hs hle ho hn (x := x) (by simp [Op.operands]) hx]
  show (Sem.bind (loadVar ty ⟨G j, o, none⟩) (fun v => Sem.pure (Next.value v))).run X.P w = _
  rw [Sem.run_bind', load_agg (hr.good.ti hT) hag (hr.hh.obj j z hz) (by omega) (fun k h1 h2 => hzc k (by have := hrd (k - o) (by omega); rwa [show o + (k - o) = k by omega] at this)) hv]
  rfl
/-- one cell -/
theorem rj_load {ty : TypeId} {x : Operand} {j o : Nat} {y : Box} {ti : TI} {a : AV} (ho : r.ops[i]? = some ⟨some t, .load ty x, tp, ps, af, gd⟩) (hx : opd r s x = .p j o) (hT : findT X.tys ty = some ti) (hag : ti.agg = false)
    (hy : hb yes s.W s.N r.H j = some y) (hv : nrm (y.cells o) = some a) (hm : Nat.ble (o + 1) y.m = true) (h : RJ X r (i + 1) { s with L := (i, t, a) :: s.L, R := (i, j, o) :: s.R } K) (hn : nms X ⟨some t, .load ty x, tp, ps, af, gd⟩ = true := by kernel_rfl) (hgd : gOk s gd = true := by rfl) : RJ X r i s K := by
  refine rj_val a ((i, j, o) :: s.R) ho hgd rfl (fun e he => List.mem_cons_of_mem _ he) ?_ h
  intro f b G w hr hs hle hR
  have hm' := Nat.le_of_ble_eq_true hm
  have hrd : (i, j, o) ∈ f.R := hR _ List.mem_cons_self
  obtain ⟨z, hz, hzm, _, _, _, hzc⟩ := hr.box_at hs hle hy (.inr ⟨_, hrd, rfl, rfl⟩)
  show (Sem.bind (Instr.loadAt ty ((act X.nt G (selT b f.L r.T)).eval x)) (fun v => Sem.pure (Next.value v))).run X.P w = _
  rw [opd_val hr hs hle ho hn (x := x) (by simp [Op.operands]) hx]
  show (Sem.bind (loadVar ty ⟨G j, o, none⟩) (fun v => Sem.pure (Next.value v))).run X.P w = _
  rw [Sem.run_bind', load_one (hr.good.ti hT) hag (hr.hh.obj j z hz) (by omega), hzc o hrd, nrm_eq hv]
  rfl
def oneC : Value → Bool
  | .agg _ => false
  | .tuple _ => false
  | _ => true
theorem oneC_eq (v : Value) (h : oneC v = true) : v.oneCell' = true := by cases v <;> first | rfl | cases h
/-- what a value fills: several cells, or one -/
def fills : AV → List AV
  | .v (.agg cs) => cs.toList.map AV.v
  | a => [a]
def fillOk : AV → Bool
  | .v (.agg cs) => cs.toList.all oneC
  | .v v => oneC v
  | _ => true
theorem fills_den (G : Nat → Nat) (a : AV) : (a.den G).cells.toList = (fills a).map (AV.den G) := by
  cases a with
  | v x =>
    cases x with
    | agg cs =>
      show cs.toList = (cs.toList.map AV.v).map (AV.den G)
      rw [List.map_map]
      show _ = cs.toList.map (fun x => x)
      simp
    | _ => rfl
  | p _ _ => rfl
  | sl _ _ _ _ => rfl
theorem fillOk_den (G : Nat → Nat) {a : AV} (h : fillOk a = true) : ∀ v ∈ (fills a).map (AV.den G), v.oneCell' = true := by
  intro v hv
  cases a with
  | v x =>
    cases x with
    | agg cs =>
      have hv : v ∈ (cs.toList.map AV.v).map (AV.den G) := hv
      rw [List.map_map, List.mem_map] at hv
      obtain ⟨c, hc, rfl⟩ := hv
      exact oneC_eq c (List.all_eq_true.1 h c hc)
    | tuple _ => cases h
    | _ =>
      rw [List.mem_map] at hv
      obtain ⟨c, hc, rfl⟩ := hv
      obtain rfl := List.mem_singleton.1 hc
      rfl
  | p _ _ =>
    rw [List.mem_map] at hv
    obtain ⟨c, hc, rfl⟩ := hv
    obtain rfl := List.mem_singleton.1 hc
    rfl
  | sl _ _ _ _ =>
    rw [List.mem_map] at hv
    obtain ⟨c, hc, rfl⟩ := hv
    obtain rfl := List.mem_singleton.1 hc
    rfl
theorem rj_store {ty : TypeId} {x q : Operand} {j o : Nat} {y : Box} {ti : TI} {a : AV} (ho : r.ops[i]? = some ⟨none, .store ty x q, tp, ps, af, gd⟩) (hx : opd r s x = .p j o) (hq : nrm (opd r s q) = some a) (hT : findT X.tys ty = some ti)
    (hy : hb yes s.W s.N r.H j = some y) (hsz : Nat.beq (fills a).length ti.size = true) (hok : fillOk a = true) (hm : Nat.ble (o + (fills a).length) y.m = true) (hk1 : Nat.beq y.kd 1 = false) (hk2 : Nat.ble y.kd 2 = true) (hpos : Nat.beq (fills a).length 0 = false)
    (h : RJ X r (i + 1) { s with W := wl i j o (fills a) s.W } K) (hn : nms X ⟨none, .store ty x q, tp, ps, af, gd⟩ = true := by kernel_rfl) (hgd : gOk s gd = true := by rfl) : RJ X r i s K := by
  refine rj_write j o (fills a) y ho hgd rfl hy hm hk1 hk2 hpos ?_ h
  intro f b G w hr hs hle z hzm hobj
  show (Sem.bind (Instr.storeAt ty ((act X.nt G (selT b f.L r.T)).eval x) ((act X.nt G (selT b f.L r.T)).eval q)) (fun _ => Sem.pure Next.skip)).run X.P w = _
  rw [opd_val hr hs hle ho hn (x := x) (by simp [Op.operands]) hx, opd_val hr hs hle ho hn (x := q) (by simp [Op.operands]) (nrm_eq hq)]
  show (Sem.bind (storeVar ty ⟨G j, o, none⟩ (a.den G)) (fun _ => Sem.pure Next.skip)).run X.P w = _
  have hm' := Nat.le_of_ble_eq_true hm
  have hlen : (a.den G).cells.size = ti.size := by
    rw [← Array.length_toList, fills_den, List.length_map]; exact Nat.eq_of_beq_eq_true hsz
  have hst := run_storeCells_at X.P (G j) o z.ty ((fills a).map (AV.den G)) 0 (z.vals G) w hobj (by rw [Box.vals_size, List.length_map]; omega) (fillOk_den G hok)
  have : (storeVar ty ⟨G j, o, none⟩ (a.den G)).run X.P w = .ok () (w.setRow (G j) ((z.vals G).toList.take o ++ (fills a).map (AV.den G) ++ (z.vals G).toList.drop (o + (fills a).length)).toArray) := by
    unfold storeVar
    simp only [Sem.run_bind, sizeOf_run (hr.good.ti hT) w, Result.andThen_ok]
    rw [if_neg (by rw [hlen]; simp), fills_den]
    simpa using hst
  rw [Sem.run_bind', this]
  rfl
def plainA (r : Rg) (s : RS) : List Operand → Option (List Value)
  | [] => some []
  | x :: l => match opd r s x, plainA r s l with
    | .v v, some l => some (v :: l)
    | _, _ => none
theorem plainA_eq {r : Rg} {s : RS} : ∀ {l : List Operand} {as_ : List Value}, plainA r s l = some as_ → l.map (opd r s) = as_.map AV.v
  | [], as_, h => by obtain rfl := Option.some.inj h; rfl
  | x :: l, as_, h => by
    unfold plainA at h
    cases hx : opd r s x with
    | v v =>
      cases hl : plainA r s l with
      | none => rw [hx, hl] at h; cases h
      | some q =>
        rw [hx, hl] at h
        obtain rfl := Option.some.inj h
        simp [hx, plainA_eq hl]
    | p _ _ => rw [hx] at h; cases h
    | sl _ _ _ _ => rw [hx] at h; cases h
/-- a call with plain arguments and a plain answer, that makes memory of its own alone -/
theorem rj_calls {fn : FuncId} {xs : Array Operand} {ts : Array TypeId} {as_ : List Value} {res : Value} (ho : r.ops[i]? = some ⟨some t, .call ⟨.value (.func fn), xs, ts⟩, tp, ps, af, gd⟩)
    (hxs : plainA r s xs.toList = some as_) (hcall : ∀ w, X.Γ w → Calls X.P fn as_.toArray w fun e w' => e = .returned res ∧ Below w.heap.size w w')
    (h : RJ X r (i + 1) { s with L := (i, t, .v res) :: s.L } K) (hf : X.fns.contains fn = true := by kernel_rfl) (hn : nms X ⟨some t, .call ⟨.value (.func fn), xs, ts⟩, tp, ps, af, gd⟩ = true := by kernel_rfl) (hgd : gOk s gd = true := by rfl) : RJ X r i s K :=
  rj_call (.v res) fn xs ts (as_.map AV.v) ho hgd rfl rfl hf hn (plainA_eq hxs) (fun G w hw => by
    have : ((as_.map AV.v).map (AV.den G)).toArray = as_.toArray := by
      rw [List.map_map]
      show (as_.map (fun x => x)).toArray = _
      simp
    rw [this]
    exact hcall w hw) h
theorem rj_eload {ty : TypeId} {x : Operand} {ad : Addr} {v : Value} (ho : r.ops[i]? = some ⟨some t, .load ty x, tp, ps, af, gd⟩) (hx : opd r s x = .v (.pointer (some ad))) (hr : ∀ w, X.Γ w → (loadVar ty ad).run X.P w = .ok v w)
    (h : RJ X r (i + 1) { s with L := (i, t, .v v) :: s.L } K) (hn : nms X ⟨some t, .load ty x, tp, ps, af, gd⟩ = true := by kernel_rfl) (hgd : gOk s gd = true := by rfl) : RJ X r i s K := by
  refine rj_val (.v v) s.R ho hgd rfl (fun _ h => h) ?_ h
  intro f b G w hr' hs hle _
  show (Sem.bind (Instr.loadAt ty ((act X.nt G (selT b f.L r.T)).eval x)) (fun v => Sem.pure (Next.value v))).run X.P w = _
  rw [opd_val hr' hs hle ho hn (x := x) (by simp [Op.operands]) hx]
  show (Sem.bind (loadVar ty ad) (fun v => Sem.pure (Next.value v))).run X.P w = _
  rw [Sem.run_bind', hr w (hr'.good.ctx w hr'.hh.keep)]
  rfl
def convV (ti : TI) : Value → Option Value
  | .int _ n => match ti.zero with
    | [.int k _] => some (.int k (k.wrap n))
    | _ => none
  | .string s => some (.string s)
  | _ => none
theorem rj_convi {src dst : TypeId} {x : Operand} {a v : Value} {ti : TI} (ho : r.ops[i]? = some ⟨some t, .convert src dst x, tp, ps, af, gd⟩) (hx : opd r s x = .v a) (hT : findT X.tys dst = some ti) (hv : convV ti a = some v)
    (h : RJ X r (i + 1) { s with L := (i, t, .v v) :: s.L } K) (hn : nms X ⟨some t, .convert src dst x, tp, ps, af, gd⟩ = true := by kernel_rfl) (hp : ∀ w, Sem.run X.P (convert src dst a) w = .ok v w := by intro w; kernel_rfl) (hgd : gOk s gd = true := by rfl) : RJ X r i s K :=
  rj_op1 (F := fun a => convert src dst a) ho hgd rfl hn hx (by simp [Op.operands]) (fun ρ => rfl) hp h
def lenV : Value → Option Value
  | .string s => some (.int .i64 (s.size : Int))
  | .slice _ n _ => some (.int .i64 (n : Int))
  | _ => none
def idxV : List Value → Int → Option Value
  | cs, m => cs[m.toNat]?
/-- an element of an array value -/
theorem rj_idx {ty : TypeId} {x y : Operand} {cs : Array Value} {ik : IntKind} {m : Int} {v : Value} (ho : r.ops[i]? = some ⟨some t, .index ty x y, tp, ps, af, gd⟩) (hx : opd r s x = .v (.agg cs)) (hy : opd r s y = .v (.int ik m)) (hv : idxV cs.toList m = some v)
    (h : RJ X r (i + 1) { s with L := (i, t, .v v) :: s.L } K) (hn : nms X ⟨some t, .index ty x y, tp, ps, af, gd⟩ = true := by kernel_rfl) (hp : ∀ w, Sem.run X.P (Instr.index ty (.agg cs) (.int ik m)) w = .ok v w := by intro w; kernel_rfl) (hgd : gOk s gd = true := by rfl) : RJ X r i s K :=
  rj_op2 (F := fun a b => Instr.index ty a b) ho hgd rfl hn hx hy (by simp [Op.operands]) (by simp [Op.operands]) (fun ρ => rfl) hp h
/-- one of two, by a test -/
theorem rj_pick {c x y : Operand} {β : Bool} {a : AV} (ho : r.ops[i]? = some ⟨some t, .pick c x y, tp, ps, af, gd⟩) (hc : opd r s c = .v (.bool β)) (ha : nrm (bif β then opd r s x else opd r s y) = some a)
    (h : RJ X r (i + 1) { s with L := (i, t, a) :: s.L } K) (hn : nms X ⟨some t, .pick c x y, tp, ps, af, gd⟩ = true := by kernel_rfl) (hgd : gOk s gd = true := by rfl) : RJ X r i s K := by
  refine rj_val a s.R ho hgd rfl (fun _ h => h) ?_ h
  intro f b G w hr hs hle _
  show (Sem.bind (asBool ((act X.nt G (selT b f.L r.T)).eval c)) (fun q => Sem.pure (Next.value (if q = true then (act X.nt G (selT b f.L r.T)).eval x else (act X.nt G (selT b f.L r.T)).eval y)))).run X.P w = _
  rw [opd_val hr hs hle ho hn (x := c) (by simp [Op.operands]) hc, opd_val hr hs hle ho hn (x := x) (by simp [Op.operands]) rfl, opd_val hr hs hle ho hn (x := y) (by simp [Op.operands]) rfl]
  rw [← nrm_eq ha]
  cases β <;> rfl
/-- a slice made of its elements -/
theorem rj_bslice {ty : TypeId} {len : Nat} {parts : Array (Nat × Operand)} {pv : List (Nat × Value)} {l : List Value} {ety : TypeId} {ti : TI} (ho : r.ops[i]? = some ⟨some t, .buildSlice ty len parts, tp, ps, af, gd⟩)
    (hx : plainP r s parts.toList = some pv) (hl : pv.map (·.2) = l)
    (h : RJ X r (i + 1) { s with L := (i, t, .sl s.n 0 len len) :: s.L, N := (i, s.n, bx l ety) :: s.N, n := s.n + 1 } K) (hp : ∀ G w, Sem.run X.P (Instr.buildSlice ty len pv.toArray) w = .ok (.slice (some ⟨w.heap.size, 0, none⟩) len len) (w.alloc ((bx l ety).obj G)))
    (hn : nms X ⟨some t, .buildSlice ty len parts, tp, ps, af, gd⟩ = true := by kernel_rfl) (hgd : gOk s gd = true := by rfl) : RJ X r i s K := by
  refine rj_newS (bx l ety) len len ho hgd rfl ?_ h
  intro f b G w hr hs hle
  have hev : (parts.map fun (k, x) => (k, (act X.nt G (selT b f.L r.T)).eval x)) = pv.toArray := by
    apply Array.ext'
    rw [Array.toList_map]
    have h1 : parts.toList.map (fun e => (e.1, (act X.nt G (selT b f.L r.T)).eval e.2)) = (parts.toList.map (fun e => (e.1, opd r s e.2))).map (fun e => (e.1, e.2.den G)) := by
      rw [List.map_map]
      refine List.map_congr_left (fun e he => ?_)
      show (e.1, _) = (e.1, _)
      rw [opd_val hr hs hle ho hn (x := e.2) (by simp [Op.operands]; exact ⟨e.1, by simpa using he⟩) rfl]
    refine h1.trans ?_
    rw [plainP_eq hx, List.map_map]
    show pv.map (fun e => (e.1, e.2)) = pv
    simp
  show (Sem.bind (Instr.buildSlice ty len (parts.map fun (k, x) => (k, (act X.nt G (selT b f.L r.T)).eval x))) (fun v => Sem.pure (Next.value v))).run X.P w = _
  rw [hev, Sem.run_bind', hp G w]
  rfl
theorem rj_len {x : Operand} {ts : Array TypeId} {a v : Value} (ho : r.ops[i]? = some ⟨some t, .call ⟨.builtin .len, #[x], ts⟩, tp, ps, af, gd⟩) (hx : opd r s x = .v a) (hv : lenV a = some v)
    (h : RJ X r (i + 1) { s with L := (i, t, .v v) :: s.L } K) (hn : nms X ⟨some t, .call ⟨.builtin .len, #[x], ts⟩, tp, ps, af, gd⟩ = true := by kernel_rfl) (hp : ∀ w, Sem.run X.P (Builtin.len_ ts tp #[a]) w = .ok v w := by intro w; kernel_rfl) (hgd : gOk s gd = true := by rfl) : RJ X r i s K :=
  rj_op1 (F := fun a => Builtin.len_ ts tp #[a]) ho hgd rfl hn hx (by simp [Op.operands, Call.operands]) (fun ρ => by
    show Sem.bind (resolve ρ ⟨.builtin .len, #[x], ts⟩ tp) (fun d => invoke d.target d.args) = _
    have e : #[x].map ρ = #[ρ x] := by simp
    unfold resolve
    simp only [e]
    rfl) hp h
theorem rj_cat {ty ty2 : TypeId} {x y : Operand} {a b : ByteArray} (ho : r.ops[i]? = some ⟨some t, .binOp .add ty x y ty2, tp, ps, af, gd⟩) (hx : opd r s x = .v (.string a)) (hy : opd r s y = .v (.string b)) (hsz : a.size + b.size ≤ 9223372036854775807)
    (h : RJ X r (i + 1) { s with L := (i, t, .v (.string (a ++ b))) :: s.L } K) (hn : nms X ⟨some t, .binOp .add ty x y ty2, tp, ps, af, gd⟩ = true := by kernel_rfl) (hgd : gOk s gd = true := by rfl) : RJ X r i s K :=
  rj_op2 (F := fun a b => do eqGuard .add ty x y a b; binOp .add ty a b) ho hgd rfl hn hx hy (by simp [Op.operands]) (by simp [Op.operands]) (fun ρ => rfl) (fun w => by
    simp [eqGuard, binOp, Op.stringOp]
    omega) h
theorem rj_slice {ty : TypeId} {x : Operand} {lo hi : Option Operand} {a v : Value} {l2 h2 : Option Value} (ho : r.ops[i]? = some ⟨some t, .slice ty x lo hi none, tp, ps, af, gd⟩) (hx : opd r s x = .v a) (hlo : lo.map (opd r s) = l2.map AV.v) (hhi : hi.map (opd r s) = h2.map AV.v)
    (hp : ∀ w, Sem.run X.P (Instr.sliceAt ty a l2 h2 none) w = .ok v w)
    (h : RJ X r (i + 1) { s with L := (i, t, .v v) :: s.L } K) (hn : nms X ⟨some t, .slice ty x lo hi none, tp, ps, af, gd⟩ = true := by kernel_rfl) (hgd : gOk s gd = true := by rfl) : RJ X r i s K := by
  refine rj_val (.v v) s.R ho hgd rfl (fun _ h => h) ?_ h
  intro f b G w hr' hs hle _
  have key : ∀ (q : Option Operand) (q2 : Option Value), (∀ y, q = some y → y ∈ (Op.slice ty x lo hi none).operands.toList) → q.map (opd r s) = q2.map AV.v → q.map (act X.nt G (selT b f.L r.T)).eval = q2 := by
    intro q q2 hm hq
    cases q with
    | none => cases q2 with
      | none => rfl
      | some _ => cases hq
    | some y => cases q2 with
      | none => cases hq
      | some z =>
        simp only [Option.map_some, Option.some.injEq] at hq ⊢
        rw [opd_val hr' hs hle ho hn (x := y) (hm y rfl) hq]
        rfl
  have e1 := key lo l2 (fun y hy => by rw [hy]; simp [Op.operands]) hlo
  have e2 := key hi h2 (fun y hy => by rw [hy]; simp [Op.operands]) hhi
  show (Sem.bind (Instr.sliceAt ty ((act X.nt G (selT b f.L r.T)).eval x) (lo.map (act X.nt G (selT b f.L r.T)).eval) (hi.map (act X.nt G (selT b f.L r.T)).eval) none) (fun v => Sem.pure (Next.value v))).run X.P w = _
  rw [e1, e2, opd_val hr' hs hle ho hn (x := x) (by simp [Op.operands]) hx]
  show (Sem.bind (Instr.sliceAt ty a l2 h2 none) (fun v => Sem.pure (Next.value v))).run X.P w = _
  rw [Sem.run_bind', hp w]
  rfl
end
end Go.Proofs.YtgdcafbdkidamaaGreatDoor.Ve
end
section
namespace Go.Proofs.YtgdcafbdkidamaaGreatDoor.Ve
open Go Go.RowKit Go.Proofs.YtgdcafbdkidamaaGreatDoorW.PrintWords Go.Proofs.YtgdcafbdkidamaaGreatDoorW.PrintLast
set_option linter.unusedVariables false
section
variable {X : Cx} {r : Rg} {i : Nat} {L_ : List (Nat × Tmp × AV)} {W_ : List (Nat × Nat × Nat × AV)} {N_ : List (Nat × Nat × Box)} {R_ : List (Nat × Nat × Nat)} {n_ : Nat} {K : RS → Prop} {o : Oper} {t : Tmp} {tp : TypeId} {ps : String} {af : Array Edge} {gd : Option (Nat × Bool)}
def fAL : List AV → Option (List AV)
  | [] => some []
  | a :: r => match fA a, fAL r with
    | .v x, some l => some (.v x :: l)
    | .p j o, some l => some (.p j o :: l)
    | .sl j o m c, some l => some (.sl j o m c :: l)
    | _, none => none
theorem fAL_eq : ∀ {a b : List AV}, fAL a = some b → a = b
  | [], b, h => Option.some.inj h
  | x :: r, b, h => by
    unfold fAL at h
    rw [fA_eq] at h
    cases hr : fAL r with
    | none => rw [hr] at h; cases x <;> cases h
    | some q => rw [hr] at h; rw [fAL_eq hr]; cases x <;> exact Option.some.inj h
theorem ve1 {ty : TypeId} {x : Operand} {a : Value} {cl : List Value} {cm : Nat} (h : RJ X r (i + 1) ⟨(i, t, .p n_ 0) :: L_, W_, (i, n_, ⟨ls (cl.map AV.v), cm, ty, (0, 0), 0⟩) :: N_, R_, n_ + 1⟩ K)
    (ho : r.ops[i]? = some ⟨some t, .box ty x, tp, ps, af, gd⟩ := by rfl) (hx : opd r ⟨L_, W_, N_, R_, n_⟩ x = .v a := by rfl) (hcl : nrmL a.cells.toList = some cl := by rfl) (hcm : frc cl.length some = some cm := by rfl) (hn : nms X ⟨some t, .box ty x, tp, ps, af, gd⟩ = true := by kernel_rfl) (hp : ∀ G w, Sem.run X.P (Instr.box ty a) w = .ok (.pointer (some ⟨w.heap.size, 0, none⟩)) (w.alloc ((bx a.cells.toList ty).obj G)) := by intro G w; kernel_rfl) (hgd : gOk ⟨L_, W_, N_, R_, n_⟩ gd = true := by rfl) : RJ X r i ⟨L_, W_, N_, R_, n_⟩ K := by
  have e1 := nrmL_eq hcl
  rw [frc_eq] at hcm
  have e2 := Option.some.inj hcm
  subst e1 e2
  exact rj_box ho hx h hn hp hgd
theorem ve2 {ty : TypeId} {ti : TI} (h : RJ X r (i + 1) ⟨(i, t, .p n_ 0) :: L_, W_, (i, n_, bx ti.zero ty) :: N_, R_, n_ + 1⟩ K)
    (ho : r.ops[i]? = some ⟨some t, .alloc ty, tp, ps, af, gd⟩ := by rfl) (hT : findT X.tys ty = some ti := by rfl) (hp : ∀ G w, Sem.run X.P (Instr.alloc ty true (.tuple #[])) w = .ok (.pointer (some ⟨w.heap.size, 0, none⟩)) (w.alloc ((bx ti.zero ty).obj G)) := by intro G w; kernel_rfl) (hgd : gOk ⟨L_, W_, N_, R_, n_⟩ gd = true := by rfl) : RJ X r i ⟨L_, W_, N_, R_, n_⟩ K := rj_alloc ho hT h hp hgd
theorem ve3 {ty : TypeId} {x : Operand} {j o : Nat} {y : Box} {ti : TI} {l : List Value} (h : RJ X r (i + 1) ⟨(i, t, .v (.agg l.toArray)) :: L_, W_, N_, rl i j o ti.size R_, n_⟩ K)
    (ho : r.ops[i]? = some ⟨some t, .load ty x, tp, ps, af, gd⟩ := by rfl) (hx : opd r ⟨L_, W_, N_, R_, n_⟩ x = .p j o := by rfl) (hT : findT X.tys ty = some ti := by rfl) (hag : ti.agg = true := by rfl) (hy : hb yes W_ N_ r.H j = some y := by rfl) (hv : cellsV y.cells o ti.size = some l := by rfl) (hm : Nat.ble (o + ti.size) y.m = true := by rfl) (hpos : Nat.beq ti.size 0 = false := by rfl) (hn : nms X ⟨some t, .load ty x, tp, ps, af, gd⟩ = true := by kernel_rfl) (hgd : gOk ⟨L_, W_, N_, R_, n_⟩ gd = true := by rfl) : RJ X r i ⟨L_, W_, N_, R_, n_⟩ K := rj_loadn ho hx hT hag hy hv hm hpos h hn hgd
theorem ve4 {ty : TypeId} {x : Operand} {j o : Nat} {y : Box} {ti : TI} {a : AV} (h : RJ X r (i + 1) ⟨(i, t, a) :: L_, W_, N_, (i, j, o) :: R_, n_⟩ K)
    (ho : r.ops[i]? = some ⟨some t, .load ty x, tp, ps, af, gd⟩ := by rfl) (hx : opd r ⟨L_, W_, N_, R_, n_⟩ x = .p j o := by rfl) (hT : findT X.tys ty = some ti := by rfl) (hag : ti.agg = false := by rfl) (hy : hb yes W_ N_ r.H j = some y := by rfl) (hv : nrm (y.cells o) = some a := by rfl) (hm : Nat.ble (o + 1) y.m = true := by rfl) (hn : nms X ⟨some t, .load ty x, tp, ps, af, gd⟩ = true := by kernel_rfl) (hgd : gOk ⟨L_, W_, N_, R_, n_⟩ gd = true := by rfl) : RJ X r i ⟨L_, W_, N_, R_, n_⟩ K := rj_load ho hx hT hag hy hv hm h hn hgd
theorem ve5 {ty : TypeId} {x q : Operand} {j o : Nat} {y : Box} {ti : TI} {a : AV} {vs : List AV} (h : RJ X r (i + 1) ⟨L_, wl i j o vs W_, N_, R_, n_⟩ K)
    (ho : r.ops[i]? = some ⟨none, .store ty x q, tp, ps, af, gd⟩ := by rfl) (hx : opd r ⟨L_, W_, N_, R_, n_⟩ x = .p j o := by rfl) (hq : nrm (opd r ⟨L_, W_, N_, R_, n_⟩ q) = some a := by rfl) (hvs : fAL (fills a) = some vs := by rfl) (hT : findT X.tys ty = some ti := by rfl) (hy : hb yes W_ N_ r.H j = some y := by rfl) (hsz : Nat.beq vs.length ti.size = true := by rfl) (hok : fillOk a = true := by rfl) (hm : Nat.ble (o + vs.length) y.m = true := by rfl) (hk1 : Nat.beq y.kd 1 = false := by rfl) (hk2 : Nat.ble y.kd 2 = true := by rfl) (hpos : Nat.beq vs.length 0 = false := by rfl) (hn : nms X ⟨none, .store ty x q, tp, ps, af, gd⟩ = true := by kernel_rfl) (hgd : gOk ⟨L_, W_, N_, R_, n_⟩ gd = true := by rfl) : RJ X r i ⟨L_, W_, N_, R_, n_⟩ K := by
  have e1 := fAL_eq hvs
  subst e1
  exact rj_store ho hx hq hT hy hsz hok hm hk1 hk2 hpos h hn hgd
theorem ve6 {ty : TypeId} {parts : Array (Nat × Operand)} {pv : List (Nat × Value)} {l : List Value} {ti : TI} (h : RJ X r (i + 1) ⟨(i, t, .v (.agg l.toArray)) :: L_, W_, N_, R_, n_⟩ K)
    (ho : r.ops[i]? = some ⟨some t, .build ty parts, tp, ps, af, gd⟩ := by rfl) (hx : plainP r ⟨L_, W_, N_, R_, n_⟩ parts.toList = some pv := by rfl) (hT : findT X.tys ty = some ti := by rfl) (hv : spliceL ti ti.zero pv = some l := by rfl) (hn : nms X ⟨some t, .build ty parts, tp, ps, af, gd⟩ = true := by kernel_rfl) (hp : X.P.built ty pv = some l.toArray := by kernel_rfl) (hgd : gOk ⟨L_, W_, N_, R_, n_⟩ gd = true := by rfl) : RJ X r i ⟨L_, W_, N_, R_, n_⟩ K := rj_build ho hx hT hv h hn hp hgd
theorem ve7 {ty : TypeId} {k : Nat} {x : Operand} {cs : Array Value} {v : Value} {ti : TI} (h : RJ X r (i + 1) ⟨(i, t, .v v) :: L_, W_, N_, R_, n_⟩ K)
    (ho : r.ops[i]? = some ⟨some t, .field ty x k, tp, ps, af, gd⟩ := by rfl) (hx : opd r ⟨L_, W_, N_, R_, n_⟩ x = .v (.agg cs) := by rfl) (hT : findT X.tys ty = some ti := by rfl) (hv : fieldV ti cs.toList k = some v := by rfl) (hn : nms X ⟨some t, .field ty x k, tp, ps, af, gd⟩ = true := by kernel_rfl) (hp : ∀ w, Sem.run X.P (Instr.field ty (.agg cs) k) w = .ok v w := by intro w; kernel_rfl) (hgd : gOk ⟨L_, W_, N_, R_, n_⟩ gd = true := by rfl) : RJ X r i ⟨L_, W_, N_, R_, n_⟩ K := rj_field ho hx hT hv h hn hp hgd
theorem ve8 {ty : TypeId} {x : Operand} {k j o off sz : Nat} {ag : Bool} {ti : TI} (h : RJ X r (i + 1) ⟨(i, t, .p j (o + off)) :: L_, W_, N_, R_, n_⟩ K)
    (ho : r.ops[i]? = some ⟨some t, .fieldAddr ty x k, tp, ps, af, gd⟩ := by rfl) (hx : opd r ⟨L_, W_, N_, R_, n_⟩ x = .p j o := by rfl) (hT : findT X.tys ty = some ti := by rfl) (hk : ti.flds[k]? = some (off, sz, ag) := by rfl) (hn : nms X ⟨some t, .fieldAddr ty x k, tp, ps, af, gd⟩ = true := by kernel_rfl) (hp : ∀ g w, Sem.run X.P (Instr.fieldAt ty (.pointer (some ⟨g, o, none⟩)) k) w = .ok (.pointer (some ⟨g, o + off, none⟩)) w := by intro g w; kernel_rfl) (hgd : gOk ⟨L_, W_, N_, R_, n_⟩ gd = true := by rfl) : RJ X r i ⟨L_, W_, N_, R_, n_⟩ K := rj_faddr ho hx hT hk h hn hp hgd
theorem ve9 {ty : TypeId} {x y : Operand} {j o : Nat} {ik : IntKind} {m : Int} {ti : TI} (h : RJ X r (i + 1) ⟨(i, t, .p j (o + m.toNat * ti.esz)) :: L_, W_, N_, R_, n_⟩ K)
    (ho : r.ops[i]? = some ⟨some t, .indexAddr ty x y, tp, ps, af, gd⟩ := by rfl) (hx : opd r ⟨L_, W_, N_, R_, n_⟩ x = .p j o := by rfl) (hy : opd r ⟨L_, W_, N_, R_, n_⟩ y = .v (.int ik m) := by rfl) (hT : findT X.tys ty = some ti := by rfl) (hn : nms X ⟨some t, .indexAddr ty x y, tp, ps, af, gd⟩ = true := by kernel_rfl) (hp : ∀ g w, Sem.run X.P (Instr.indexAt ty (.pointer (some ⟨g, o, none⟩)) (.int ik m)) w = .ok (.pointer (some ⟨g, o + m.toNat * ti.esz, none⟩)) w := by intro g w; kernel_rfl) (hgd : gOk ⟨L_, W_, N_, R_, n_⟩ gd = true := by rfl) : RJ X r i ⟨L_, W_, N_, R_, n_⟩ K := rj_iaddr ho hx hy hT h hn hp hgd
theorem rA {op : BinOp} {ty ty2 : TypeId} {x y : Operand} {a b v : Value} (h : RJ X r (i + 1) ⟨(i, t, .v v) :: L_, W_, N_, R_, n_⟩ K)
    (ho : r.ops[i]? = some ⟨some t, .binOp op ty x y ty2, tp, ps, af, gd⟩ := by rfl) (hx : opd r ⟨L_, W_, N_, R_, n_⟩ x = .v a := by rfl) (hy : opd r ⟨L_, W_, N_, R_, n_⟩ y = .v b := by rfl) (hv : binV op a b = some v := by rfl) (hn : nms X ⟨some t, .binOp op ty x y ty2, tp, ps, af, gd⟩ = true := by kernel_rfl) (hp : ∀ w, Sem.run X.P (do eqGuard op ty x y a b; binOp op ty a b) w = .ok v w := by intro w; kernel_rfl) (hgd : gOk ⟨L_, W_, N_, R_, n_⟩ gd = true := by rfl) : RJ X r i ⟨L_, W_, N_, R_, n_⟩ K := rj_bin ho hx hy hv h hn hp hgd
theorem rB {op : UnOp} {ty : TypeId} {x : Operand} {a v : Value} (h : RJ X r (i + 1) ⟨(i, t, .v v) :: L_, W_, N_, R_, n_⟩ K)
    (ho : r.ops[i]? = some ⟨some t, .unOp op ty x, tp, ps, af, gd⟩ := by rfl) (hx : opd r ⟨L_, W_, N_, R_, n_⟩ x = .v a := by rfl) (hv : unV op a = some v := by rfl) (hn : nms X ⟨some t, .unOp op ty x, tp, ps, af, gd⟩ = true := by kernel_rfl) (hp : ∀ w, Sem.run X.P (Op.unary op a) w = .ok v w := by intro w; kernel_rfl) (hgd : gOk ⟨L_, W_, N_, R_, n_⟩ gd = true := by rfl) : RJ X r i ⟨L_, W_, N_, R_, n_⟩ K := rj_un ho hx hv h hn hp hgd
theorem rC {x : Operand} {k : Nat} {vs : Array Value} {v : Value} (h : RJ X r (i + 1) ⟨(i, t, .v v) :: L_, W_, N_, R_, n_⟩ K)
    (ho : r.ops[i]? = some ⟨some t, .extract x k, tp, ps, af, gd⟩ := by rfl) (hx : opd r ⟨L_, W_, N_, R_, n_⟩ x = .v (.tuple vs) := by rfl) (hv : vs.toList[k]? = some v := by rfl) (hn : nms X ⟨some t, .extract x k, tp, ps, af, gd⟩ = true := by kernel_rfl) (hgd : gOk ⟨L_, W_, N_, R_, n_⟩ gd = true := by rfl) : RJ X r i ⟨L_, W_, N_, R_, n_⟩ K := rj_ext ho hx hv h hn hgd
theorem rD {x : Operand} {b : AV} (h : RJ X r (i + 1) ⟨(i, t, b) :: L_, W_, N_, R_, n_⟩ K)
    (ho : r.ops[i]? = some ⟨some t, .move x, tp, ps, af, gd⟩ := by rfl) (hb : nrm (opd r ⟨L_, W_, N_, R_, n_⟩ x) = some b := by rfl) (hn : nms X ⟨some t, .move x, tp, ps, af, gd⟩ = true := by kernel_rfl) (hgd : gOk ⟨L_, W_, N_, R_, n_⟩ gd = true := by rfl) : RJ X r i ⟨L_, W_, N_, R_, n_⟩ K := rj_move ho hb h hn hgd
theorem rE {x : Operand} {b : AV} (h : RJ X r (i + 1) ⟨(i, t, b) :: L_, W_, N_, R_, n_⟩ K)
    (ho : r.ops[i]? = some ⟨some t, .assign x, tp, ps, af, gd⟩ := by rfl) (hb : nrm (opd r ⟨L_, W_, N_, R_, n_⟩ x) = some b := by rfl) (hn : nms X ⟨some t, .assign x, tp, ps, af, gd⟩ = true := by kernel_rfl) (hgd : gOk ⟨L_, W_, N_, R_, n_⟩ gd = true := by rfl) : RJ X r i ⟨L_, W_, N_, R_, n_⟩ K := rj_assign ho hb h hn hgd
theorem rG {src dst : TypeId} {x : Operand} {a v : Value} {ti : TI} (h : RJ X r (i + 1) ⟨(i, t, .v v) :: L_, W_, N_, R_, n_⟩ K)
    (ho : r.ops[i]? = some ⟨some t, .convert src dst x, tp, ps, af, gd⟩ := by rfl) (hx : opd r ⟨L_, W_, N_, R_, n_⟩ x = .v a := by rfl) (hT : findT X.tys dst = some ti := by rfl) (hv : convV ti a = some v := by rfl) (hn : nms X ⟨some t, .convert src dst x, tp, ps, af, gd⟩ = true := by kernel_rfl) (hp : ∀ w, Sem.run X.P (convert src dst a) w = .ok v w := by intro w; kernel_rfl) (hgd : gOk ⟨L_, W_, N_, R_, n_⟩ gd = true := by rfl) : RJ X r i ⟨L_, W_, N_, R_, n_⟩ K := rj_convi ho hx hT hv h hn hp hgd
theorem rH {x : Operand} {ts : Array TypeId} {a v : Value} (h : RJ X r (i + 1) ⟨(i, t, .v v) :: L_, W_, N_, R_, n_⟩ K)
    (ho : r.ops[i]? = some ⟨some t, .call ⟨.builtin .len, #[x], ts⟩, tp, ps, af, gd⟩ := by rfl) (hx : opd r ⟨L_, W_, N_, R_, n_⟩ x = .v a := by rfl) (hv : lenV a = some v := by rfl) (hn : nms X ⟨some t, .call ⟨.builtin .len, #[x], ts⟩, tp, ps, af, gd⟩ = true := by kernel_rfl) (hp : ∀ w, Sem.run X.P (Builtin.len_ ts tp #[a]) w = .ok v w := by intro w; kernel_rfl) (hgd : gOk ⟨L_, W_, N_, R_, n_⟩ gd = true := by rfl) : RJ X r i ⟨L_, W_, N_, R_, n_⟩ K := rj_len ho hx hv h hn hp hgd
theorem rI {ty : TypeId} {x y : Operand} {cs : Array Value} {ik : IntKind} {m : Int} {v : Value} (h : RJ X r (i + 1) ⟨(i, t, .v v) :: L_, W_, N_, R_, n_⟩ K)
    (ho : r.ops[i]? = some ⟨some t, .index ty x y, tp, ps, af, gd⟩ := by rfl) (hx : opd r ⟨L_, W_, N_, R_, n_⟩ x = .v (.agg cs) := by rfl) (hy : opd r ⟨L_, W_, N_, R_, n_⟩ y = .v (.int ik m) := by rfl) (hv : idxV cs.toList m = some v := by rfl) (hn : nms X ⟨some t, .index ty x y, tp, ps, af, gd⟩ = true := by kernel_rfl) (hp : ∀ w, Sem.run X.P (Instr.index ty (.agg cs) (.int ik m)) w = .ok v w := by intro w; kernel_rfl) (hgd : gOk ⟨L_, W_, N_, R_, n_⟩ gd = true := by rfl) : RJ X r i ⟨L_, W_, N_, R_, n_⟩ K := rj_idx ho hx hy hv h hn hp hgd
theorem rJ {c x y : Operand} {β : Bool} {a : AV} (h : RJ X r (i + 1) ⟨(i, t, a) :: L_, W_, N_, R_, n_⟩ K)
    (ho : r.ops[i]? = some ⟨some t, .pick c x y, tp, ps, af, gd⟩ := by rfl) (hc : opd r ⟨L_, W_, N_, R_, n_⟩ c = .v (.bool β) := by rfl) (ha : nrm (bif β then opd r ⟨L_, W_, N_, R_, n_⟩ x else opd r ⟨L_, W_, N_, R_, n_⟩ y) = some a := by rfl) (hn : nms X ⟨some t, .pick c x y, tp, ps, af, gd⟩ = true := by kernel_rfl) (hgd : gOk ⟨L_, W_, N_, R_, n_⟩ gd = true := by rfl) : RJ X r i ⟨L_, W_, N_, R_, n_⟩ K := rj_pick ho hc ha h hn hgd
theorem rc {fn : FuncId} {xs : Array Operand} {ts : Array TypeId} {as_ : List Value} {res : Value} (hcall : ∀ w, X.Γ w → Calls X.P fn as_.toArray w fun e w' => e = .returned res ∧ Below w.heap.size w w')
    (h : RJ X r (i + 1) ⟨(i, t, .v res) :: L_, W_, N_, R_, n_⟩ K) (ho : r.ops[i]? = some ⟨some t, .call ⟨.value (.func fn), xs, ts⟩, tp, ps, af, gd⟩ := by rfl)
    (hxs : plainA r ⟨L_, W_, N_, R_, n_⟩ xs.toList = some as_ := by rfl) (hf : X.fns.contains fn = true := by kernel_rfl) (hn : nms X ⟨some t, .call ⟨.value (.func fn), xs, ts⟩, tp, ps, af, gd⟩ = true := by kernel_rfl) (hgd : gOk ⟨L_, W_, N_, R_, n_⟩ gd = true := by rfl) : RJ X r i ⟨L_, W_, N_, R_, n_⟩ K := rj_calls ho hxs hcall h hf hn hgd
theorem rcp {Pre : Prop} {fn : FuncId} {xs : Array Operand} {ts : Array TypeId} {as_ : List Value} {res : Value} (hcall : Pre → ∀ w, X.Γ w → Calls X.P fn as_.toArray w fun e w' => e = .returned res ∧ Below w.heap.size w w')
    (h : RJ X r (i + 1) ⟨(i, t, .v res) :: L_, W_, N_, R_, n_⟩ K) (ho : r.ops[i]? = some ⟨some t, .call ⟨.value (.func fn), xs, ts⟩, tp, ps, af, gd⟩ := by rfl)
    (hxs : plainA r ⟨L_, W_, N_, R_, n_⟩ xs.toList = some as_ := by rfl) (hpre : Pre := by first | (with_reducible assumption) | assumption) (hf : X.fns.contains fn = true := by kernel_rfl) (hn : nms X ⟨some t, .call ⟨.value (.func fn), xs, ts⟩, tp, ps, af, gd⟩ = true := by kernel_rfl) (hgd : gOk ⟨L_, W_, N_, R_, n_⟩ gd = true := by rfl) : RJ X r i ⟨L_, W_, N_, R_, n_⟩ K := rj_calls ho hxs (hcall hpre) h hf hn hgd
theorem drb {P : Program} {fn : FuncId} {a : Array Value} {w : World} {res : Value} (h : Calls P fn a w fun e w' => e = .returned res ∧ Drawn0 w w') : Calls P fn a w fun e w' => e = .returned res ∧ Below w.heap.size w w' := h.mono fun e w' ⟨a, b⟩ => ⟨a, by obtain ⟨⟨n, rfl⟩⟩ := b; exact ⟨rfl, rfl, rfl, Nat.le_refl _, fun _ _ => rfl⟩⟩
theorem rel {ty : TypeId} {x : Operand} {ad : Addr} {v : Value} (hr : ∀ w, X.Γ w → (loadVar ty ad).run X.P w = .ok v w) (h : RJ X r (i + 1) ⟨(i, t, .v v) :: L_, W_, N_, R_, n_⟩ K) (ho : r.ops[i]? = some ⟨some t, .load ty x, tp, ps, af, gd⟩ := by rfl) (hx : opd r ⟨L_, W_, N_, R_, n_⟩ x = .v (.pointer (some ad)) := by rfl)
    (hn : nms X ⟨some t, .load ty x, tp, ps, af, gd⟩ = true := by kernel_rfl) (hgd : gOk ⟨L_, W_, N_, R_, n_⟩ gd = true := by rfl) : RJ X r i ⟨L_, W_, N_, R_, n_⟩ K := rj_eload ho hx hr h hn hgd
theorem req {op : BinOp} {ty ty2 : TypeId} {x y : Operand} {a b v : Value} (hp : ∀ w, Sem.run X.P (do eqGuard op ty x y a b; binOp op ty a b) w = .ok v w) (h : RJ X r (i + 1) ⟨(i, t, .v v) :: L_, W_, N_, R_, n_⟩ K) (ho : r.ops[i]? = some ⟨some t, .binOp op ty x y ty2, tp, ps, af, gd⟩ := by rfl)
    (hx : opd r ⟨L_, W_, N_, R_, n_⟩ x = .v a := by rfl) (hy : opd r ⟨L_, W_, N_, R_, n_⟩ y = .v b := by rfl) (hn : nms X ⟨some t, .binOp op ty x y ty2, tp, ps, af, gd⟩ = true := by kernel_rfl) (hgd : gOk ⟨L_, W_, N_, R_, n_⟩ gd = true := by rfl) : RJ X r i ⟨L_, W_, N_, R_, n_⟩ K := rj_binp ho hx hy hp h hn hgd
theorem rof {op : Op} (h : RJ X r (i + 1) ⟨(i, t, .v undef) :: L_, W_, N_, R_, n_⟩ K) (ho : r.ops[i]? = some ⟨some t, op, tp, ps, af, gd⟩ := by rfl) (hg : gOff ⟨L_, W_, N_, R_, n_⟩ gd = true := by rfl) : RJ X r i ⟨L_, W_, N_, R_, n_⟩ K := rj_off ho hg rfl h
theorem rof0 {op : Op} (h : RJ X r (i + 1) ⟨L_, W_, N_, R_, n_⟩ K) (ho : r.ops[i]? = some ⟨none, op, tp, ps, af, gd⟩ := by rfl) (hg : gOff ⟨L_, W_, N_, R_, n_⟩ gd = true := by rfl) : RJ X r i ⟨L_, W_, N_, R_, n_⟩ K := rj_off0 ho hg rfl h
theorem rcb {ty ty2 : TypeId} {x y : Operand} {a b : ByteArray} (h : RJ X r (i + 1) ⟨(i, t, .v (.string (a ++ b))) :: L_, W_, N_, R_, n_⟩ K) (ho : r.ops[i]? = some ⟨some t, .binOp .add ty x y ty2, tp, ps, af, gd⟩ := by rfl) (hx : opd r ⟨L_, W_, N_, R_, n_⟩ x = .v (.string a) := by rfl) (hy : opd r ⟨L_, W_, N_, R_, n_⟩ y = .v (.string b) := by rfl)
    (hsz : a.size + b.size ≤ 9223372036854775807 := by first | assumption | omega) (hn : nms X ⟨some t, .binOp .add ty x y ty2, tp, ps, af, gd⟩ = true := by kernel_rfl) (hgd : gOk ⟨L_, W_, N_, R_, n_⟩ gd = true := by rfl) : RJ X r i ⟨L_, W_, N_, R_, n_⟩ K := rj_cat ho hx hy hsz h hn hgd
theorem rbt {l : List (Nat × Tmp × AV)} {W : List (Nat × Nat × Nat × AV)} {N : List (Nat × Nat × Box)} {R : List (Nat × Nat × Nat)} {n k : Nat} {β : Bool} (h : RJ X r i ⟨(k, t, .v (.bool true)) :: l, W, N, R, n⟩ K)
    (hβ : β = true := by (fail_if_success with_reducible rfl); (fail_if_success refine Eq.trans (b := false) (by with_reducible rfl) ?_); first | assumption | decide | exact decide_eq_true (by assumption) | exact decide_eq_true (by omega) | (simp [*] <;> fail)) : RJ X r i ⟨(k, t, .v (.bool β)) :: l, W, N, R, n⟩ K := by rw [hβ]; exact h
theorem rbf {l : List (Nat × Tmp × AV)} {W : List (Nat × Nat × Nat × AV)} {N : List (Nat × Nat × Box)} {R : List (Nat × Nat × Nat)} {n k : Nat} {β : Bool} (h : RJ X r i ⟨(k, t, .v (.bool false)) :: l, W, N, R, n⟩ K)
    (hβ : β = false := by (fail_if_success with_reducible rfl); (fail_if_success refine Eq.trans (b := true) (by with_reducible rfl) ?_); first | assumption | decide | exact decide_eq_false (by assumption) | exact decide_eq_false (by omega) | (simp [*] <;> fail)) : RJ X r i ⟨(k, t, .v (.bool β)) :: l, W, N, R, n⟩ K := by rw [hβ]; exact h
theorem rZ {B : List Nat} {n0 nt : Nat} {R : RS → Prop} (h : R ⟨L_, W_, N_, R_, n_⟩) (hi : r.ops.length = i := by rfl) (hok : okB B n0 nt ⟨L_, W_, N_, R_, n_⟩ = true := by kernel_rfl) : RJ X r i ⟨L_, W_, N_, R_, n_⟩ (fun f => okB B n0 nt f = true ∧ R f) := rj_end hi ⟨hok, h⟩
end
section
variable {X : Cx} {Q : Exit → Tmps → Heap → Nat → Prop} {T : Tmps} {H : Heap} {n : Nat}
theorem wb {id : Nat} {c : Code} (h : WC X c (blk id Q) T H n) : WC X (.block id c) Q T H n := wc_block h
theorem wk (h : Q .normal T H n) : WC X .skip Q T H n := wc_skip h
theorem we {id : Nat} (h : Q (.exit id) T H n) : WC X (.exit id) Q T H n := wc_exit h
theorem wT {t : Tmp} {x y : Code} (h : WC X x Q T H n) (hv : T t = .v (.bool true) := by rfl) (ht : Nat.blt t X.nt = true := by rfl) : WC X (.cond (.tmp t) x y) Q T H n := wc_cond ht hv (fun _ => h) (fun q => nomatch q)
end
theorem wr {X : Cx} {Q : Exit → Tmps → Heap → Nat → Prop} {T : Tmps} {H : Heap} {n : Nat} (h : Q .ret T H n) : WC X .ret Q T H n := wc_ret h
theorem rr1 {K : Tmps → Heap → Nat → Prop} {Q : Exit → Tmps → Heap → Nat → Prop} {T : Tmps} {H : Heap} {n : Nat} (h : Q .ret T H n) : thn K Q .ret T H n := h
theorem rr2 {id : Nat} {Q : Exit → Tmps → Heap → Nat → Prop} {T : Tmps} {H : Heap} {n : Nat} (h : Q .ret T H n) : blk id Q .ret T H n := h
theorem fr {X : Cx} {rs : List ResultVar} {v : Value} {T : Tmps} {H : Heap} {n : Nat} {l : List Value} (h : resL X T H rs = some l := by rfl) (hv : outV l = v := by first | rfl | (simp [outV] <;> fail) | (simp [outV, *] <;> fail)) : Fin X rs v .ret T H n := fin_ret h hv
theorem fe {X : Cx} {rs : List ResultVar} {v : Value} {T : Tmps} {H : Heap} {n : Nat} {l : List Value} (h : resL X T H rs = some l := by rfl) (hv : outV l = v := by first | rfl | (simp [outV] <;> fail) | (simp [outV, *] <;> fail)) : Fin X rs v .normal T H n := fin_end h hv
theorem wt {X : Cx} {rs : List ResultVar} {v : Value} {T : Tmps} {H : Heap} {n : Nat} {l : List Value} (h : resL X T H rs = some l := by rfl) (hv : outV l = v := by rfl) : WC X .ret (Fin X rs v) T H n := wc_ret (fin_ret h hv)
theorem wTs {X : Cx} {Q : Exit → Tmps → Heap → Nat → Prop} {T : Tmps} {H : Heap} {n : Nat} {t : Tmp} {x y : Code} {β : Bool} (h : WC X x Q T H n) (hv : T t = .v (.bool β) := by rfl) (ht : Nat.blt t X.nt = true := by rfl) (hβ : β = true := by first | assumption | decide | exact decide_eq_true (by assumption) | exact decide_eq_true (by omega) | (simp [*] <;> fail)) : WC X (.cond (.tmp t) x y) Q T H n := wc_cond ht hv (fun _ => h) (fun q => by rw [hβ] at q; cases q)
theorem wFs {X : Cx} {Q : Exit → Tmps → Heap → Nat → Prop} {T : Tmps} {H : Heap} {n : Nat} {t : Tmp} {x y : Code} {β : Bool} (h : WC X y Q T H n) (hv : T t = .v (.bool β) := by rfl) (ht : Nat.blt t X.nt = true := by rfl) (hβ : β = false := by first | assumption | decide | exact decide_eq_false (by assumption) | exact decide_eq_false (by omega) | (simp [*] <;> fail)) : WC X (.cond (.tmp t) x y) Q T H n := wc_cond ht hv (fun q => by rw [hβ] at q; cases q) (fun _ => h)
end Go.Proofs.YtgdcafbdkidamaaGreatDoor.Ve
end
section
namespace Go.Proofs.YtgdcafbdkidamaaGreatDoor.Ve
open Go Go.RowKit Go.Proofs.YtgdcafbdkidamaaGreatDoorW.PrintWords Go.Proofs.YtgdcafbdkidamaaGreatDoorW.PrintLast
set_option linter.unusedVariables false
theorem sl_h {P : Program} {t : TypeId} (hu : P.underlying t = some .string) (s : ByteArray) (k : IntKind) (m : Int) (h0 : 0 ≤ m) (h1 : m ≤ s.size) (w : World) : (Instr.sliceAt t (.string s) none (some (.int k m)) none).run P w = .ok (.string (s.extract 0 m.toNat)) w := by
  rw [run_sliceAt_string w t _ _ _ _ hu]
  simp [Instr.slice, run_underlying hu, Instr.sliceBounds, run_sliceBound, h0, h1]
theorem sl_l {P : Program} {t : TypeId} (hu : P.underlying t = some .string) (s : ByteArray) (k : IntKind) (m : Int) (h0 : 0 ≤ m) (h1 : m ≤ s.size) (w : World) : (Instr.sliceAt t (.string s) (some (.int k m)) none none).run P w = .ok (.string (s.extract m.toNat s.size)) w := by
  rw [run_sliceAt_string w t _ _ _ _ hu]
  simp [Instr.slice, run_underlying hu, Instr.sliceBounds, run_sliceBound, h0, h1]
theorem sl_lh {P : Program} {t : TypeId} (hu : P.underlying t = some .string) (s : ByteArray) (k k2 : IntKind) (m n : Int) (h0 : 0 ≤ m) (h1 : m ≤ n) (h2 : n ≤ s.size) (w : World) : (Instr.sliceAt t (.string s) (some (.int k m)) (some (.int k2 n)) none).run P w = .ok (.string (s.extract m.toNat n.toNat)) w := by
  have e : (n.toNat : Int) = n := Int.toNat_of_nonneg (by omega)
  rw [run_sliceAt_string w t _ _ _ _ hu]
  simp [Instr.slice, run_underlying hu, Instr.sliceBounds, run_sliceBound, h0, h1, h2, e, (by omega : 0 ≤ n)]
section
variable {X : Cx} {r : Rg} {i : Nat} {L_ : List (Nat × Tmp × AV)} {W_ : List (Nat × Nat × Nat × AV)} {N_ : List (Nat × Nat × Box)} {R_ : List (Nat × Nat × Nat)} {n_ : Nat} {K : RS → Prop} {t : Tmp} {tp : TypeId} {ps : String} {af : Array Edge} {gd : Option (Nat × Bool)}
theorem rsh {ty : TypeId} {x y : Operand} {a : ByteArray} {k : IntKind} {m : Int} (h : RJ X r (i + 1) ⟨(i, t, .v (.string (a.extract 0 m.toNat))) :: L_, W_, N_, R_, n_⟩ K)
    (ho : r.ops[i]? = some ⟨some t, .slice ty x none (some y) none, tp, ps, af, gd⟩ := by rfl) (hx : opd r ⟨L_, W_, N_, R_, n_⟩ x = .v (.string a) := by rfl) (hy : opd r ⟨L_, W_, N_, R_, n_⟩ y = .v (.int k m) := by rfl) (h0 : 0 ≤ m := by first | assumption | omega) (h1 : m ≤ a.size := by first | assumption | omega)
    (hu : X.P.underlying ty = some .string := by kernel_rfl) (hn : nms X ⟨some t, .slice ty x none (some y) none, tp, ps, af, gd⟩ = true := by kernel_rfl) (hgd : gOk ⟨L_, W_, N_, R_, n_⟩ gd = true := by rfl) : RJ X r i ⟨L_, W_, N_, R_, n_⟩ K :=
  rj_slice (l2 := none) (h2 := some (.int k m)) ho hx rfl (by simp [hy]) (sl_h hu a k m h0 h1) h hn hgd
theorem rsl_ {ty : TypeId} {x y : Operand} {a : ByteArray} {k : IntKind} {m : Int} (h : RJ X r (i + 1) ⟨(i, t, .v (.string (a.extract m.toNat a.size))) :: L_, W_, N_, R_, n_⟩ K)
    (ho : r.ops[i]? = some ⟨some t, .slice ty x (some y) none none, tp, ps, af, gd⟩ := by rfl) (hx : opd r ⟨L_, W_, N_, R_, n_⟩ x = .v (.string a) := by rfl) (hy : opd r ⟨L_, W_, N_, R_, n_⟩ y = .v (.int k m) := by rfl) (h0 : 0 ≤ m := by first | assumption | omega) (h1 : m ≤ a.size := by first | assumption | omega)
    (hu : X.P.underlying ty = some .string := by kernel_rfl) (hn : nms X ⟨some t, .slice ty x (some y) none none, tp, ps, af, gd⟩ = true := by kernel_rfl) (hgd : gOk ⟨L_, W_, N_, R_, n_⟩ gd = true := by rfl) : RJ X r i ⟨L_, W_, N_, R_, n_⟩ K :=
  rj_slice (l2 := some (.int k m)) (h2 := none) ho hx (by simp [hy]) rfl (sl_l hu a k m h0 h1) h hn hgd
theorem rslh {ty : TypeId} {x y z : Operand} {a : ByteArray} {k k2 : IntKind} {m n : Int} (h : RJ X r (i + 1) ⟨(i, t, .v (.string (a.extract m.toNat n.toNat))) :: L_, W_, N_, R_, n_⟩ K)
    (ho : r.ops[i]? = some ⟨some t, .slice ty x (some y) (some z) none, tp, ps, af, gd⟩ := by rfl) (hx : opd r ⟨L_, W_, N_, R_, n_⟩ x = .v (.string a) := by rfl) (hy : opd r ⟨L_, W_, N_, R_, n_⟩ y = .v (.int k m) := by rfl) (hz : opd r ⟨L_, W_, N_, R_, n_⟩ z = .v (.int k2 n) := by rfl) (h0 : 0 ≤ m := by first | assumption | omega) (h1 : m ≤ n := by first | assumption | omega) (h2 : n ≤ a.size := by first | assumption | omega)
    (hu : X.P.underlying ty = some .string := by kernel_rfl) (hn : nms X ⟨some t, .slice ty x (some y) (some z) none, tp, ps, af, gd⟩ = true := by kernel_rfl) (hgd : gOk ⟨L_, W_, N_, R_, n_⟩ gd = true := by rfl) : RJ X r i ⟨L_, W_, N_, R_, n_⟩ K :=
  rj_slice (l2 := some (.int k m)) (h2 := some (.int k2 n)) ho hx (by simp [hy]) (by simp [hz]) (sl_lh hu a k k2 m n h0 h1 h2) h hn hgd
end
end Go.Proofs.YtgdcafbdkidamaaGreatDoor.Ve
end
section
namespace Go.Proofs.YtgdcafbdkidamaaGreatDoor.Ve
open Go Go.RowKit Go.Proofs.YtgdcafbdkidamaaGreatDoorW.PrintWords Go.Proofs.YtgdcafbdkidamaaGreatDoorW.PrintLast
set_option linter.unusedVariables false
section
variable {X : Cx} {r : Rg} {i : Nat} {L_ : List (Nat × Tmp × AV)} {W_ : List (Nat × Nat × Nat × AV)} {N_ : List (Nat × Nat × Box)} {R_ : List (Nat × Nat × Nat)} {n_ : Nat} {K : RS → Prop} {t : Tmp} {tp : TypeId} {ps : String} {af : Array Edge} {gd : Option (Nat × Bool)}
/-- an operation whose guard was itself kept from being carried out -/
def nb : Value → Bool
  | .bool _ => false
  | _ => true
def gUnd (s : RS) : Option (Nat × Bool) → Bool
  | none => false
  | some (g, _) => match findOp s.L g with
    | some (_, .v x) => nb x
    | _ => false
theorem wanted_und {X : Cx} {r : Rg} {i : Nat} {s f : RS} {b : Nat → Bool} {G : Nat → Nat} {w : World} (h : Rdy X r i f b G w) (hle : Le i s f) {o : Oper} (ho : r.ops[i]? = some o) (hg : gUnd s o.guard = true) :
    Region.wanted o (yielded r.ops.toArray (act X.nt G (selT b f.L r.T)).tmps) = false := by
  cases hgd : o.guard with
  | none => rw [hgd] at hg; cases hg
  | some e =>
    obtain ⟨g, u⟩ := e
    rw [hgd] at hg
    unfold gUnd at hg
    dsimp only at hg
    cases hf : findOp s.L g with
    | none => rw [hf] at hg; cases hg
    | some x =>
      obtain ⟨t, a⟩ := x
      rw [hf] at hg
      cases a with
      | v y =>
        have hm := hle.L.1 _ (findOp_mem hf)
        obtain ⟨q, hq, hd⟩ := h.ds.L _ hm
        have hbg := h.on g (List.getElem?_eq_some_iff.1 hq).1 (tmpOk_g h.fine.tmp ho hgd)
        have h3 : (act X.nt G (selT b f.L r.T)).tmps[t]? = some y := by
          rw [act_get (h.ok.lL _ hm).1, selT_hit (e := (g, t, AV.v y)) hm (fun x hx q => h.ok.u2 x hx _ hm q) hbg]
          rfl
        have h1 : r.ops.toArray[g]? = some q := by simpa using hq
        have h2 : q.dst = some t := hd
        have hn : yielded r.ops.toArray (act X.nt G (selT b f.L r.T)).tmps g = none := by
          unfold yielded
          rw [h1, Option.bind_some, h2, Option.bind_some, h3]
          cases y <;> first | rfl | (cases hg <;> fail)
        unfold Region.wanted
        rw [hgd]
        show (yielded r.ops.toArray (act X.nt G (selT b f.L r.T)).tmps g == some u) = false
        rw [hn]; rfl
      | p _ _ => cases hg
      | sl _ _ _ _ => cases hg
theorem rofu {op : Op} (h : RJ X r (i + 1) ⟨(i, t, .v undef) :: L_, W_, N_, R_, n_⟩ K) (ho : r.ops[i]? = some ⟨some t, op, tp, ps, af, gd⟩ := by rfl) (hg : gUnd ⟨L_, W_, N_, R_, n_⟩ gd = true := by rfl) : RJ X r i ⟨L_, W_, N_, R_, n_⟩ K := by
  refine rj_step (s' := ⟨(i, t, .v undef) :: L_, W_, N_, R_, n_⟩) (List.getElem?_eq_some_iff.1 ho).1 ⟨fun e he => List.mem_cons_of_mem _ he, fun e he => (List.mem_cons.1 he).elim (fun q => .inr (by rw [q])) .inl⟩ ⟨fun _ h => h, fun _ h => .inl h⟩ ⟨fun _ h => h, fun _ h => .inl h⟩ (fun _ h => h)
    (fun e he => (List.mem_cons.1 he).elim (fun q => .inr ⟨⟨some t, op, tp, ps, af, gd⟩, by rw [q]; exact ho, by rw [q]⟩) .inl) ?_ h
  intro f hle hb b G w Q K' hr hK'
  refine ⟨_, ho, ?_⟩
  have hle0 : Le i ⟨L_, W_, N_, R_, n_⟩ f := ⟨⟨fun e he => hle.L.1 e (List.mem_cons_of_mem _ he), fun e he => (hle.L.2 e he).elim (fun q => (List.mem_cons.1 q).elim (fun q => .inr (by rw [q]; exact Nat.le_refl _)) .inl) (fun q => .inr (by omega))⟩,
    ⟨hle.W.1, fun e he => (hle.W.2 e he).imp id (fun q => by omega)⟩, ⟨hle.N.1, fun e he => (hle.N.2 e he).imp id (fun q => by omega)⟩, hle.R⟩
  refine off_ (wanted_und hr hle0 ho hg) ?_
  refine hK' _ _ ⟨G, put_val (a := .v undef) hr.ok (hle.L.1 _ List.mem_cons_self), ?_⟩
  rw [hb_up (fun e he => ?_) (fun e he => ?_)]
  · exact hr.hh
  · rcases hle.W.2 e he with q | q
    · have := hb.W e q; omega
    · omega
  · rcases hle.N.2 e he with q | q
    · have := hb.N e q; omega
    · omega
end
end Go.Proofs.YtgdcafbdkidamaaGreatDoor.Ve
end
section
namespace Go.Proofs.YtgdcafbdkidamaaGreatDoor.Ve
open Go Go.RowKit Go.Proofs.YtgdcafbdkidamaaGreatDoorW.PrintWords Go.Proofs.YtgdcafbdkidamaaGreatDoorW.PrintLast
set_option linter.unusedVariables false
section
variable {X : Cx} {r : Rg} {i : Nat} {L_ : List (Nat × Tmp × AV)} {W_ : List (Nat × Nat × Nat × AV)} {N_ : List (Nat × Nat × Box)} {R_ : List (Nat × Nat × Nat)} {n_ : Nat} {K : RS → Prop} {t : Tmp} {tp : TypeId} {ps : String} {af : Array Edge} {gd : Option (Nat × Bool)}
theorem rbs (ety : TypeId) {ty : TypeId} {len : Nat} {parts : Array (Nat × Operand)} {pv : List (Nat × Value)} {l : List Value} (h : RJ X r (i + 1) ⟨(i, t, .sl n_ 0 len len) :: L_, W_, (i, n_, ⟨ls (l.map AV.v), len, ety, (0, 0), 0⟩) :: N_, R_, n_ + 1⟩ K)
    (ho : r.ops[i]? = some ⟨some t, .buildSlice ty len parts, tp, ps, af, gd⟩ := by rfl) (hx : plainP r ⟨L_, W_, N_, R_, n_⟩ parts.toList = some pv := by rfl) (hl : nrmL (pv.map (·.2)) = some l := by rfl) (hc : l.length = len := by rfl)
    (hp : ∀ G w, Sem.run X.P (Instr.buildSlice ty len pv.toArray) w = .ok (.slice (some ⟨w.heap.size, 0, none⟩) len len) (w.alloc ((bx l ety).obj G)) := by intro G w; kernel_rfl) (hn : nms X ⟨some t, .buildSlice ty len parts, tp, ps, af, gd⟩ = true := by kernel_rfl) (hgd : gOk ⟨L_, W_, N_, R_, n_⟩ gd = true := by rfl) : RJ X r i ⟨L_, W_, N_, R_, n_⟩ K := by
  subst hc
  exact rj_bslice (ti := ⟨false, 0, [], [], 0, 0, false⟩) ho hx (nrmL_eq hl) h hp hn hgd
/-- a slice over a whole box, turned into a text -/
theorem rcv {src dst : TypeId} {x : Operand} {j m c : Nat} {y : Box} {l : List Value} {v : Value} (hp : ∀ g w, w.heap[g]? = some (.cells l.toArray y.ty y.fr) → (convert src dst (.slice (some ⟨g, 0, none⟩) m c)).run X.P w = .ok v w)
    (h : RJ X r (i + 1) ⟨(i, t, .v v) :: L_, W_, N_, rl i j 0 y.m R_, n_⟩ K) (ho : r.ops[i]? = some ⟨some t, .convert src dst x, tp, ps, af, gd⟩ := by rfl) (hx : opd r ⟨L_, W_, N_, R_, n_⟩ x = .sl j 0 m c := by rfl) (hy : hb yes W_ N_ r.H j = some y := by rfl) (hv : cellsV y.cells 0 y.m = some l := by rfl) (hpos : Nat.beq y.m 0 = false := by rfl)
    (hn : nms X ⟨some t, .convert src dst x, tp, ps, af, gd⟩ = true := by kernel_rfl) (hgd : gOk ⟨L_, W_, N_, R_, n_⟩ gd = true := by rfl) : RJ X r i ⟨L_, W_, N_, R_, n_⟩ K := by
  refine rj_val (.v v) (rl i j 0 y.m R_) ho hgd rfl (fun e he => rl_mem.1 e he) ?_ h
  intro f b G w hr hs hle hR
  have hp0 : 0 < y.m := Nat.pos_of_ne_zero (fun q => by rw [q] at hpos; cases hpos)
  have hrd : ∀ k, k < y.m → (i, j, k) ∈ f.R := fun k hk => by
    have := hR _ (rl_mem (i := i) (j := j) (o := 0) (acc := R_) |>.2 k hk)
    simpa using this
  obtain ⟨z, hz, hzm, hzt, hzf, _, hzc⟩ := hr.box_at hs hle hy (.inr ⟨_, hrd 0 hp0, rfl, rfl⟩)
  have hcv := cellsV_get (G := G) hv
  have hvals : z.vals G = l.toArray := by
    apply Array.ext'
    show (List.range z.m).map (fun o => (z.cells o).den G) = l
    apply List.ext_getElem?
    intro k
    by_cases hk : k < y.m
    · rw [List.getElem?_map, List.getElem?_range (by omega), Option.map_some, hzc k (hrd k hk)]
      have := hcv.2 k hk
      rw [Nat.zero_add] at this
      rw [this, List.getD_eq_getElem?_getD, List.getElem?_eq_getElem (by rw [hcv.1]; exact hk)]
      rfl
    · rw [List.getElem?_eq_none (by rw [List.length_map, List.length_range]; omega), List.getElem?_eq_none (by rw [hcv.1]; omega)]
  have hobj := hr.hh.obj j z hz
  rw [Box.obj, hvals, hzt, hzf] at hobj
  show (Sem.bind (convert src dst ((act X.nt G (selT b f.L r.T)).eval x)) (fun v => Sem.pure (Next.value v))).run X.P w = _
  rw [opd_val hr hs hle ho hn (x := x) (by simp [Op.operands]) hx]
  show (Sem.bind (convert src dst (.slice (some ⟨G j, 0, none⟩) m c)) (fun v => Sem.pure (Next.value v))).run X.P w = _
  rw [Sem.run_bind', hp (G j) w hobj]
  rfl
end
end Go.Proofs.YtgdcafbdkidamaaGreatDoor.Ve
end
