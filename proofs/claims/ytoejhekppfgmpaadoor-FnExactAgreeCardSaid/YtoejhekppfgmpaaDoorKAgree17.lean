/- What the proof of FnExactAgree leans on, part 17: cut out of the texts of this claim's making by a program (wip/tools/pack.py). -/
import Derived.Test.YtoejhekppfgmpaaDoorKAgree9
import Derived.Test.YtoejhekppfgmpaaDoorKAgree15
import Derived.Test.YtoejhekppfgmpaaDoorKAgree16
import Derived.Deep.RegionHeld3
import Derived.KernelRfl
import Derived.Laws.Tables
import Derived.Lib.Hide
import Derived.LoopTactic
import Derived.StillTailTactics
import Derived.WalkSpells
section
namespace Go.Proofs.YtoejhekppfgmpaaDoor.K6
open Go Go.RowKit Go.Shelf Go.Proofs.YtoejhekppfgmpaaDoorW.PrintWords Go.Proofs.YtoejhekppfgmpaaDoorW.PrintLast Go.Proofs.YtoejhekppfgmpaaDoorW.PrintMore Go.Proofs.YtoejhekppfgmpaaDoor.K0 Go.Proofs.YtoejhekppfgmpaaDoor.K2 Go.Proofs.YtoejhekppfgmpaaDoor.K3 Go.Proofs.YtoejhekppfgmpaaDoor.K4 Go.Proofs.YtoejhekppfgmpaaDoor.K5 Go.Proofs.YtoejhekppfgmpaaDoor.Kp
set_option linter.unusedVariables false
set_option linter.unusedSimpArgs false
/-- a box of 64 bytes -/
def Y8 (w : World) (g : Nat) (l : List Int) : Prop := l.length = 64 ∧ w.heap[g]? = some (.cells (c8 l).toArray 196 (0, 0))
theorem Y8.lt {w : World} {g : Nat} {l : List Int} (h : Y8 w g l) : g < w.heap.size := (Array.getElem?_eq_some_iff.1 h.2).1
theorem Y8.cell {w : World} {g : Nat} {l : List Int} (h : Y8 w g l) {i : Nat} (hi : i < 64) : w.cell? ⟨g, i, none⟩ = some (.int .u8 (rd l i)) := by
  rw [cell_of_row w g i _ _ _ h.2, List.getElem?_toArray, c8_get (by rw [h.1]; exact hi)]
theorem Y8.free {w : World} {g : Nat} {l : List Int} (h : Y8 w g l) (i : Nat) : w.frozen? ⟨g, i, none⟩ = false := frozen_of_row w g i _ _ h.2
theorem c8_set (l : List Int) (i : Nat) (x : Int) : (c8 l).set i (.int .u8 x) = c8 (l.set i x) := by unfold c8; rw [List.map_set]
theorem Y8.set {w : World} {g : Nat} {l : List Int} (h : Y8 w g l) (i : Nat) (x : Int) : Y8 (w.setCell ⟨g, i, none⟩ (.int .u8 x)) g (l.set i x) := by
  refine ⟨by rw [List.length_set]; exact h.1, ?_⟩
  have := heap_setCell_same w g i _ 196 (.int .u8 x) h.2
  rw [this, ← c8_set]; simp
theorem Y8.kept {w w' : World} {g : Nat} {l : List Int} (h : Y8 w g l) {row : Option Nat} (hg : w.grownBy w' row) (hne : some g ≠ row) : Y8 w' g l := ⟨h.1, (hg.block g h.lt hne).trans h.2⟩
theorem Y8.far {w : World} {g : Nat} {l : List Int} (h : Y8 w g l) {p : Addr} (hp : g ≠ p.block) (v : Value) : Y8 (w.setCell p v) g l := ⟨h.1, (Below.heap_setCell _ _ _ _ hp).trans h.2⟩
/-- the bytes of it as a text -/
theorem Y8.str {w : World} {g : Nat} {l : List Int} (h : Y8 w g l) : (convert 22 9 (.slice (some ⟨g, 0, none⟩) 64 64)).run Tryd.prog w = .ok (.string (strOfNums l)) w :=
  own_string (P := Tryd.prog) (base := 0) (n := 64) Tryd.underlying22 Tryd.underlying5 Tryd.underlying9 (xs := l)
    ⟨by rw [nums, List.length_map, h.1], .inr ⟨g, 64, _, rfl, Nat.zero_le _, h.2, Nat.le_refl _, by unfold maxLen; decide, by rw [List.size_toArray, c8_len, h.1], by
      rw [Nat.mul_one, List.take_of_length_le (by show (c8 l).length ≤ 64; rw [c8_len, h.1]; exact Nat.le_refl _)]; rfl⟩⟩

/-- a text laid over zeros -/
def keyL (s : ByteArray) : List Int := sb s ++ List.replicate (64 - s.size) 0
theorem keyL_len (s : ByteArray) (h : s.size ≤ 64) : (keyL s).length = 64 := by unfold keyL; rw [List.length_append, sb_len, List.length_replicate]; omega
theorem wpList_copy_key {w : World} {ops : Array Oper} {rest : List Oper} {o : Oper} {a : Act} {Q : Exit → Act → World → Prop} (hgd : o.guard = none) (d s : Operand)
    (ho : o.op = .call { callee := .builtin .copy, args := #[d, s], argTypes := #[22, 9] })
    (g : Nat) (x : ByteArray) (hd : a.eval d = .slice (some ⟨g, 0, none⟩) 64 64) (hs : a.eval s = .string x) (H : Y8 w g (List.replicate 64 0)) (hx : x.size ≤ 64)
    (K : ∀ w1, Y8 w1 g (keyL x) → w.grownBy w1 (some g) → wpList Tryd.prog ops Q rest (a.put o.dst (.int .i64 x.size)) w1) : wpList Tryd.prog ops Q (o :: rest) a w := by
  refine wpList_plain hgd fun K' hK => ?_
  have hsz : (c8 (List.replicate 64 (0 : Int))).toArray.size = 64 := by rw [List.size_toArray, c8_len, List.length_replicate]
  have hrun := run_copy_str_n (P := Tryd.prog) w 22 9 o.type 5 g 0 64 64 x.size x _ _ Tryd.underlying22 (by kernel_rfl) H.2 (Nat.min_eq_left hx).symm (by rw [hsz]; omega)
  have hov : (c8 (List.replicate 64 (0 : Int))).toArray.toList.take 0 ++ c8 ((sb x).take x.size) ++ (c8 (List.replicate 64 (0 : Int))).toArray.toList.drop (0 + x.size) = c8 (keyL x) := by
    show (c8 (List.replicate 64 (0 : Int))).take 0 ++ _ ++ (c8 (List.replicate 64 (0 : Int))).drop (0 + x.size) = _
    rw [List.take_zero, List.nil_append, Nat.zero_add, c8_drop, List.drop_replicate, List.take_of_length_le (by rw [sb_len]; exact Nat.le_refl _), ← c8_app]; rfl
  rw [hov] at hrun
  have hH : Y8 (w.setRow g (c8 (keyL x)).toArray) g (keyL x) := ⟨keyL_len x hx, setRow_heap w g _ _ _ _ H.2⟩
  unfold Oper.wp
  simp [execOp, ho, resolve, invoke, builtin, hd, hs, hrun, Result.andThen]
  exact hK _ _ (K _ hH (gb_setRow w g _))
/-- each byte by one -/
def xorL (l : List Int) (c : Int) : List Int := l.map fun x => Go.bits .xor .u8 x c
theorem xorL_len (l : List Int) (c : Int) : (xorL l c).length = l.length := List.length_map ..
theorem xorL_rd (l : List Int) (c : Int) (k : Nat) (h : k < l.length) : rd (xorL l c) k = Go.bits .xor .u8 (rd l k) c := by
  unfold rd xorL; simp [List.getD_eq_getElem?_getD, h]

theorem bytes_xor (l : List Int) (c : Int) : Bytes (xorL l c) := by
  intro y hy
  simp only [xorL, List.mem_map] at hy
  obtain ⟨x, _, rfl⟩ := hy
  show 0 ≤ IntKind.u8.wrap ((BitVec.ofInt 8 x ^^^ BitVec.ofInt 8 c).toNat : Int) ∧ IntKind.u8.wrap ((BitVec.ofInt 8 x ^^^ BitVec.ofInt 8 c).toNat : Int) < 256
  simp only [IntKind.wrap, IntKind.bits, IntKind.signed]
  simp
  omega
/-- a keyed hash: two running hashes and the box of their pointers -/
def KP (w : World) (k gi gg : Nat) : Prop := w.heap[k]? = some (.cells #[.pointer (some ⟨gi, 0, none⟩), .pointer (some ⟨gg, 0, none⟩)] 195 (0, 0))
theorem KP.lt {w : World} {k gi gg : Nat} (h : KP w k gi gg) : k < w.heap.size := (Array.getElem?_eq_some_iff.1 h).1
theorem KP.c0 {w : World} {k gi gg : Nat} (h : KP w k gi gg) : w.cell? ⟨k, 0, none⟩ = some (.pointer (some ⟨gi, 0, none⟩)) := (cell_of_row w k 0 _ _ _ h).trans rfl
theorem KP.c1 {w : World} {k gi gg : Nat} (h : KP w k gi gg) : w.cell? ⟨k, 1, none⟩ = some (.pointer (some ⟨gg, 0, none⟩)) := (cell_of_row w k 1 _ _ _ h).trans rfl
theorem KP.kept {w w' : World} {k gi gg : Nat} (h : KP w k gi gg) {row : Option Nat} (hg : w.grownBy w' row) (hne : some k ≠ row) : KP w' k gi gg := (hg.block k h.lt hne).trans h
theorem KP.far {w : World} {k gi gg : Nat} (h : KP w k gi gg) {p : Addr} (hp : k ≠ p.block) (v : Value) : KP (w.setCell p v) k gi gg := (Below.heap_setCell _ _ _ _ hp).trans h
theorem hs_far {w : World} {g : Nat} {p : List Int × List Int} {size : Int} (H : HS w g p size) {q : Addr} (hp : g ≠ q.block) (v : Value) : HS (w.setCell q v) g p size := by
  obtain ⟨b, h1, h2, h3⟩ := H; exact ⟨b, h1.far hp v, h2, h3⟩
theorem new3_0 (w : World) (a b c : Obj) : (((w.alloc a).alloc b).alloc c).heap[w.heap.size]? = some a := by
  rw [heap_alloc_old _ _ (by simp <;> omega), heap_alloc_old _ _ (by simp), heap_alloc_new]
theorem new3_1 (w : World) (a b c : Obj) : (((w.alloc a).alloc b).alloc c).heap[w.heap.size + 1]? = some b := by
  rw [heap_alloc_old _ _ (by simp)]
  have := heap_alloc_new (w.alloc a) b; rwa [World.size_alloc] at this
theorem new3_2 (w : World) (a b c : Obj) : (((w.alloc a).alloc b).alloc c).heap[w.heap.size + 1 + 1]? = some c := by
  have := heap_alloc_new ((w.alloc a).alloc b) c; simpa only [World.size_alloc] using this
theorem newB3 (w : World) (a b c : Obj) : Below w.heap.size w (((w.alloc a).alloc b).alloc c) :=
  (((Below.refl _ w).alloc (Nat.le_refl _) _).alloc (by simp) _).alloc (by simp <;> omega) _
set_option maxRecDepth 100000 in
theorem idx_y (g : Nat) (j : Nat) (h : j < 64) (w : World) : (Instr.indexAt 196 (.pointer (some ⟨g, 0, none⟩)) (.int .i64 j)).run Tryd.prog w = .ok (.pointer (some ⟨g, j, none⟩)) w := by
  have hu := Tryd.underlying196
  have e : Tryd.prog.arrayLen 196 = 64 := by kernel_rfl
  rw [run_indexAt_array w 196 ⟨g, 0, none⟩ .i64 j hu, e, if_pos (by omega)]
  have es : ∀ w, (sizeOf (Tryd.prog.elem 196)).run Tryd.prog w = .ok 1 w := fun w => by kernel_rfl
  rw [es]
  simp only [Result.andThen, Int.toNat_natCast]
  rw [Addr.add_lit, Nat.mul_one, Nat.zero_add]
theorem wpList_load_y {w : World} {ops : Array Oper} {rest : List Oper} {o : Oper} {a : Act} {Q : Exit → Act → World → Prop} (hgd : o.guard = none) (x : Operand) (ho : o.op = .load 196 x)
    (g : Nat) (l : List Int) (hx : a.eval x = .pointer (some ⟨g, 0, none⟩)) (H : Y8 w g l) (h : wpList Tryd.prog ops Q rest (a.put o.dst (.agg (c8 l).toArray)) w) : wpList Tryd.prog ops Q (o :: rest) a w :=
  wpList_load_row hgd 196 x ho g hx _ _ _ _ H.2 Tryd.underlying196 rfl (by rw [List.size_toArray, c8_len, H.1]; kernel_rfl) h
theorem wpList_store_y {w : World} {ops : Array Oper} {rest : List Oper} {o : Oper} {a : Act} {Q : Exit → Act → World → Prop} (hgd : o.guard = none) (x y : Operand) (ho : o.op = .store 196 x y)
    (g : Nat) (l l0 : List Int) (hx : a.eval x = .pointer (some ⟨g, 0, none⟩)) (hy : a.eval y = .agg (c8 l).toArray) (H : Y8 w g l0) (hl : l.length = 64)
    (h : ∀ w1, Y8 w1 g l → w.grownBy w1 (some g) → wpList Tryd.prog ops Q rest (a.put o.dst undef) w1) : wpList Tryd.prog ops Q (o :: rest) a w :=
  wpList_store_row hgd 196 x y ho g (c8 l).toArray hx hy _ _ H.2 (by rw [List.size_toArray, c8_len, hl]; kernel_rfl) (by rw [List.size_toArray, List.size_toArray, c8_len, c8_len, hl, H.1])
    (by rw [Array.all_eq_true_iff_forall_mem]; intro v hv; exact c8_one l v (by simpa using hv)) (h _ ⟨hl, setRow_heap w g _ _ _ _ H.2⟩ (gb_setRow w g _))
/-- what the loop keeps: the boxes, the hashes -/
structure KI (w wr : World) (k gi gg a b : Nat) (la lb : List Int) : Prop where
  ya : Y8 wr a la
  yb : Y8 wr b lb
  hi : HS wr gi (iv8, []) (0 : Nat)
  hg : HS wr gg (iv8, []) (0 : Nat)
  hk : KP wr k gi gg
  hb : Below w.heap.size w wr
theorem KI.setA {w wr : World} {k gi gg a b : Nat} {la lb : List Int} (h : KI w wr k gi gg a b la lb) (n1 : gi ≠ a) (n2 : gg ≠ a) (n3 : k ≠ a) (n4 : b ≠ a) (n5 : w.heap.size ≤ a) (i : Nat) (x : Int) :
    KI w (wr.setCell ⟨a, i, none⟩ (.int .u8 x)) k gi gg a b (la.set i x) lb :=
  ⟨h.ya.set i x, h.yb.far n4 _, hs_far h.hi n1 _, hs_far h.hg n2 _, h.hk.far n3 _, h.hb.setCell n5 _⟩
theorem KI.setB {w wr : World} {k gi gg a b : Nat} {la lb : List Int} (h : KI w wr k gi gg a b la lb) (n1 : gi ≠ b) (n2 : gg ≠ b) (n3 : k ≠ b) (n4 : a ≠ b) (n5 : w.heap.size ≤ b) (i : Nat) (x : Int) :
    KI w (wr.setCell ⟨b, i, none⟩ (.int .u8 x)) k gi gg a b la (lb.set i x) :=
  ⟨h.ya.far n4 _, h.yb.set i x, hs_far h.hi n1 _, hs_far h.hg n2 _, h.hk.far n3 _, h.hb.setCell n5 _⟩

theorem KI.growA {w wr w1 : World} {k gi gg a b : Nat} {la lb la' : List Int} (h : KI w wr k gi gg a b la lb) (n1 : gi ≠ a) (n2 : gg ≠ a) (n3 : k ≠ a) (n4 : b ≠ a) (n5 : w.heap.size ≤ a) (hY : Y8 w1 a la') (hG : wr.grownBy w1 (some a)) : KI w w1 k gi gg a b la' lb :=
  ⟨hY, h.yb.kept hG (some_ne n4), h.hi.kept hG (some_ne n1), h.hg.kept hG (some_ne n2), h.hk.kept hG (some_ne n3), below_of h.hb hG n5⟩
theorem KI.growB {w wr w1 : World} {k gi gg a b : Nat} {la lb lb' : List Int} (h : KI w wr k gi gg a b la lb) (n1 : gi ≠ b) (n2 : gg ≠ b) (n3 : k ≠ b) (n4 : a ≠ b) (n5 : w.heap.size ≤ b) (hY : Y8 w1 b lb') (hG : wr.grownBy w1 (some b)) : KI w w1 k gi gg a b la lb' :=
  ⟨h.ya.kept hG (some_ne n4), hY, h.hi.kept hG (some_ne n1), h.hg.kept hG (some_ne n2), h.hk.kept hG (some_ne n3), below_of h.hb hG n5⟩
/-- a keyed hash that runs: the key's bytes, what the inner one holds -/
structure KH (kk : List Int) (w0 w : World) (k gi gg : Nat) (L : List Int) (p : List Int × List Int) (n : Int) : Prop where
  kp : KP w k gi gg
  hi : HS w gi p n
  hg : HS w gg (Sh.feedL (C kk) (iv8, []) (xorL L 92)) (64 : Nat)
  n1 : gi ≠ gg
  n2 : k ≠ gi
  n3 : k ≠ gg
  l0 : w0.heap.size ≤ k
  l1 : w0.heap.size ≤ gi
  l2 : w0.heap.size ≤ gg
  hb : Below w0.heap.size w0 w
/-- the key as it is laid: a long one's hash -/
def keyOf (kk : List Int) (key : ByteArray) : ByteArray := if 64 < key.size then sha kk [key] else key
theorem sha_size (kk : List Int) (xs : List ByteArray) : (sha kk xs).size = 32 := by
  rw [← sb_len]
  unfold sha sb strOfNums
  rw [List.length_map]
  show (List.map _ _).length = 32
  rw [List.length_map, fin, outs_len]
theorem keyOf_le (kk : List Int) (key : ByteArray) : (keyOf kk key).size ≤ 64 := by
  unfold keyOf; split
  · rw [sha_size]; decide
  · omega
set_option maxRecDepth 100000 in
set_option maxHeartbeats 4000000 in
theorem newKeyed_c (kk : List Int) (hkk : kk.length = 64) (key0 : ByteArray) (hn : key0.size < 1152921504606846976) (w0 : World) (hR0 : Rw kk w0) :
    Calls Tryd.prog 154 #[.string key0] w0 fun e w' => ∃ k gi gg : Nat, e = .returned (.pointer (some ⟨k, 0, none⟩)) ∧ KH kk w0 w' k gi gg (keyL (keyOf kk key0)) (Sh.feedL (C kk) (iv8, []) (xorL (keyL (keyOf kk key0)) 54)) (64 : Nat) := by
  have hR0' := Lib.hid hR0
  have hn' := Lib.hid hn
  clear hR0 hn
  go_enter Tryd.func154, Tryd.ntmps154
  go_upto_if 9 with (fail)
  go_cut [0] (fun v wc => ∃ key : ByteArray, v = .string key ∧ Aside0 (key = keyOf kk key0) ∧ Aside0 (Below w0.heap.size w0 wc))
  case first =>
    by_cases h64 : 64 < key0.size
    · have hko : keyOf kk key0 = sha kk [key0] := if_pos h64
      have hko' := Lib.hid hko
      have h64' : (64 : Int) < (key0.size : Int) := by omega
      clear hko
      go_wp2_with (go_at_call 78; (with_reducible refine (K5.sha_c kk hkk key0 _ hn'.out hR0'.out).mono ?_); rintro e w1 ⟨rfl, hb1⟩; have hb1' := Lib.hid hb1; clear hb1)
      go_meet
      case rel => exact ⟨_, rfl, ⟨hko'.out.symm⟩, ⟨hb1'.out⟩⟩
    · have hko' := Lib.hid (show keyOf kk key0 = key0 from if_neg h64)
      have h64' : ¬ (64 : Int) < (key0.size : Int) := by omega
      go_wp2_with fail
      go_meet
      case rel => exact ⟨_, rfl, ⟨hko'.out.symm⟩, ⟨Below.refl _ _⟩⟩
  case rest =>
  obtain ⟨key, rfl, hkey, hb0⟩ := hcut
  generalize hwc : wc = w at *
  clear hwc
  have hk : key.size ≤ 64 := by rw [hkey.out]; exact keyOf_le kk key0
  have hR' := Lib.hid (Rw_kept hR0'.out (gb_of hb0.out) (by simp))
  have hw0 := hb0.out.size
  go_wp2_with fail
  go_at_call 158
  refine (newHash_c _).mono ?_
  rintro e w1 ⟨gi, rfl, hgi, hS1, hb1⟩
  have hS1' := Lib.hid hS1
  have hb1' := Lib.hid hb1
  have hgi' := Lib.hid hgi
  clear hS1 hb1 hgi
  go_wp2_with fail
  go_at_call 158
  refine (newHash_c _).mono ?_
  rintro e w2 ⟨gg, rfl, hgg, hS2, hb2⟩
  have hz1 := hb1'.out.size
  have hz2 := hb2.size
  have hl1 := hS1'.out.lt
  have hl2 := hS2.lt
  have hb3 := newB3 w2 (.cells #[.pointer (some ⟨gi, 0, none⟩), .pointer (some ⟨gg, 0, none⟩)] 195 (0, 0)) (.cells (c8 (List.replicate 64 0)).toArray 196 (0, 0)) (.cells (c8 (List.replicate 64 0)).toArray 196 (0, 0))
  have hKI : KI w _ w2.heap.size gi gg (w2.heap.size + 1) (w2.heap.size + 1 + 1) (List.replicate 64 0) (List.replicate 64 0) :=
    ⟨⟨by simp, new3_1 w2 _ _ _⟩, ⟨by simp, new3_2 w2 _ _ _⟩, (hS1'.out.kept (gb_of hb2) (by simp)).kept (gb_of hb3) (by simp), hS2.kept (gb_of hb3) (by simp), new3_0 w2 _ _ _, (hb1'.out.trans (hb2.mono hz1)).trans (hb3.mono (by omega))⟩
  have hKI' := Lib.hid hKI
  have n1 : gi < w2.heap.size := by omega
  have n2 : gg < w2.heap.size := by omega
  have hz3 : w.heap.size ≤ w2.heap.size := by omega
  have ngg : gi ≠ gg := by omega
  have hgi2 : w.heap.size ≤ gi := by have := hgi'.out; omega
  have hgg2 : w.heap.size ≤ gg := by omega
  clear hgg hS2 hb2 hb3 hKI
  obtain ⟨kb, hkb⟩ : ∃ kb, kb = w2.heap.size := ⟨_, rfl⟩
  have hkb' := Lib.hid hkb
  have hkl := Lib.hid (keyL_len key hk)
  go_wp2_with (first
    | (refine wpList_copy_key rfl (.tmp 16) (.tmp 17) rfl (w2.heap.size + 1) key rfl rfl hKI'.out.ya hk ?_; intro w4 hY4 hG4; have hK4 := Lib.hid (hKI'.out.growA (by omega) (by omega) (by omega) (by omega) (by omega) hY4 hG4); clear hY4 hG4)
    | (refine wpList_load_y rfl (.tmp 4) rfl (w2.heap.size + 1) (keyL key) rfl hK4.out.ya ?_)
    | (refine wpList_store_y rfl (.tmp 5) (.tmp 19) rfl (w2.heap.size + 1 + 1) (keyL key) _ rfl rfl hK4.out.yb hkl.out ?_; intro w5 hY5 hG5; have hK5 := Lib.hid (hK4.out.growB (by omega) (by omega) (by omega) (by omega) (by omega) hY5 hG5); clear hY5 hG5))
  clear hKI' hK4
  generalize hLk : keyL key = L at *
  have hLk' := Lib.hid hLk
  clear hLk
  go_loopw [20] (fun i wr => ∃ j : Nat, j ≤ 64 ∧ i = .int .i64 j ∧ KI w wr w2.heap.size gi gg (w2.heap.size + 1) (w2.heap.size + 1 + 1) ((xorL L 54).take j ++ L.drop j) ((xorL L 92).take j ++ L.drop j)) (fun i _ => (64 - intOf i).toNat)
  case atStart => exact ⟨0, by omega, rfl, hK5.out⟩
  case round =>
    clear hK5
    obtain ⟨j, hj, rfl, hI⟩ := hrel
    have hI' := Lib.hid hI
    by_cases hlt : j < 64
    · have ca := hI.ya.cell hlt
      have fa := hI.ya.free j
      have cb := hI.yb.cell hlt
      have fb := hI.yb.free j
      have hlx := Lib.hid (fun c => xorL_len L c)
      rw [rd_mix _ _ _ (by rw [xorL_len, hkl.out]; omega)] at ca cb
      have ia := idx_y (w2.heap.size + 1) j hlt
      have ib := idx_y (w2.heap.size + 1 + 1) j hlt
      clear hI
      go_wp2_with fail
      go_roundw
      case rel =>
        refine ⟨j + 1, by omega, by go_num, ?_⟩
        have h2 := (hI'.out.setA (by omega) (by omega) (by omega) (by omega) (by omega) j (Go.bits .xor .u8 (rd L j) 54)).setB (by omega) (by omega) (by omega) (by omega) (by omega) j (Go.bits .xor .u8 (rd L j) 92)
        rw [← xorL_rd L 54 j (by rw [hkl.out]; exact hlt), ← xorL_rd L 92 j (by rw [hkl.out]; exact hlt), set_mix _ _ _ (by rw [xorL_len, hkl.out]; omega) (by rw [hkl.out]; omega), set_mix _ _ _ (by rw [xorL_len, hkl.out]; omega) (by rw [hkl.out]; omega)] at h2
        rw [← xorL_rd L 54 j (by rw [hkl.out]; exact hlt), ← xorL_rd L 92 j (by rw [hkl.out]; exact hlt)]
        exact h2
      case measure => simp [intOf]; omega
    · have hj64 : j = 64 := by omega
      rw [hj64, List.take_of_length_le (by rw [xorL_len, hkl.out]; omega), List.take_of_length_le (by rw [xorL_len, hkl.out]; omega), List.drop_eq_nil_of_le (by rw [hkl.out]; omega), List.append_nil, List.append_nil] at hI
      have hI2 := Lib.hid hI
      have hcA : (convert 22 9 (.slice (some ⟨w2.heap.size + 1, 0, none⟩) 64 64)).run Tryd.prog wr.drew = .ok (.string (strOfNums (xorL L 54))) wr.drew := Y8.str (w := wr.drew) hI.ya
      have pk0 := hI.hk.c0
      have pk1 := hI.hk.c1
      have hsA := Lib.hid (sb_str (bytes_xor L 54))
      have hsB := Lib.hid (sb_str (bytes_xor L 92))
      have hzA : (strOfNums (xorL L 54)).size = 64 := by rw [← sb_len, sb_str (bytes_xor L 54), xorL_len, hkl.out]
      have hzB : (strOfNums (xorL L 92)).size = 64 := by rw [← sb_len, sb_str (bytes_xor L 92), xorL_len, hkl.out]
      have hzA' := Lib.hid hzA
      have hzB' := Lib.hid hzB
      clear hI' hI hj64 hzA hzB
      go_wp2_with fail
      go_still_tail 6, (by kernel_rfl)
      go_wp2_with fail
      go_at_call 169
      have hRr : Rw kk wr := Rw_kept hR'.out (gb_of hI2.out.hb) (by simp)
      refine (take_c kk hkk _ _ gi _ (by rw [hzA'.out]; unfold maxLen; omega) (by omega) (by rw [hzA'.out]; decide) _ (show Rw kk wr.drew from hRr) (show HS wr.drew gi (iv8, []) _ from hI2.out.hi)).mono ?_
      rintro e w6 ⟨rfl, hS6, hG6⟩
      have hG6 : wr.grownBy w6 (some gi) := gb_undrew hG6
      have hS6' := Lib.hid hS6
      have hG6' := Lib.hid hG6
      have hyb := hI2.out.yb.kept hG6 (some_ne (by omega))
      have hgg6 := Lib.hid (hI2.out.hg.kept hG6 (some_ne (by omega)))
      have hkp6 := hI2.out.hk.kept hG6 (some_ne (by omega))
      have hkp6' := Lib.hid hkp6
      have hR6 := Lib.hid (Rw_kept hRr hG6 (some_ne (by have := hR'.out; obtain ⟨t, fr, e⟩ := this; have := (Array.getElem?_eq_some_iff.1 e).1; omega)))
      have hcB : (convert 22 9 (.slice (some ⟨w2.heap.size + 1 + 1, 0, none⟩) 64 64)).run Tryd.prog w6.drew = .ok (.string (strOfNums (xorL L 92))) w6.drew := Y8.str (w := w6.drew) hyb
      have qk0 := hkp6.c0
      have qk1 := hkp6.c1
      clear hS6 hG6 hyb hkp6 pk0 pk1 hcA hRr
      go_wp2_with fail
      go_still_tail 6, (by kernel_rfl)
      go_wp2_with fail
      go_at_call 169
      refine (take_c kk hkk _ _ gg _ (by rw [hzB'.out]; unfold maxLen; omega) (by omega) (by rw [hzB'.out]; decide) _ (show Rw kk w6.drew from hR6.out) (show HS w6.drew gg (iv8, []) _ from hgg6.out)).mono ?_
      rintro e w7 ⟨rfl, hS7, hG7⟩
      have hG7 : w6.grownBy w7 (some gg) := gb_undrew hG7
      rw [hsB.out, hzB'.out] at hS7
      have hS6 := hS6'.out
      rw [hsA.out, hzA'.out] at hS6
      have hF := Lib.hid (show KH kk w0 w7 w2.heap.size gi gg L (Sh.feedL (C kk) (iv8, []) (xorL L 54)) 64 from
        ⟨hkp6'.out.kept hG7 (some_ne (by omega)), hS6.kept hG7 (some_ne ngg), hS7, ngg, by omega, by omega, by omega, by omega, by omega, below_of (below_of (hb0.out.trans (hI2.out.hb.mono hw0)) hG6'.out (by omega)) hG7 (by omega)⟩)
      clear hS7 hG7 hS6 qk0 qk1 hcB
      go_wp2_with fail
      go_ret
      have hF2 := hF.out
      rw [← hLk'.out, hkey.out] at hF2
      exact ⟨_, gi, gg, rfl, hF2⟩
end Go.Proofs.YtoejhekppfgmpaaDoor.K6
end
section
namespace Go.Proofs.YtoejhekppfgmpaaDoor.K6
open Go Go.RowKit Go.Shelf Go.Proofs.YtoejhekppfgmpaaDoorW.PrintWords Go.Proofs.YtoejhekppfgmpaaDoorW.PrintLast Go.Proofs.YtoejhekppfgmpaaDoorW.PrintMore Go.Proofs.YtoejhekppfgmpaaDoor.K0 Go.Proofs.YtoejhekppfgmpaaDoor.K2 Go.Proofs.YtoejhekppfgmpaaDoor.K3 Go.Proofs.YtoejhekppfgmpaaDoor.K4 Go.Proofs.YtoejhekppfgmpaaDoor.K5 Go.Proofs.YtoejhekppfgmpaaDoor.Kp
set_option linter.unusedVariables false
set_option linter.unusedSimpArgs false
theorem Rw_lt {kk : List Int} {w : World} (h : Rw kk w) : 3 < w.heap.size := by obtain ⟨t, fr, e⟩ := h; exact (Array.getElem?_eq_some_iff.1 e).1
theorem KH.drew {kk : List Int} {w0 w : World} {k gi gg : Nat} {L : List Int} {p : List Int × List Int} {n : Int} (h : KH kk w0 w k gi gg L p n) : KH kk w0 w.drew k gi gg L p n := ⟨h.kp, h.hi, h.hg, h.n1, h.n2, h.n3, h.l0, h.l1, h.l2, h.hb.drew⟩
theorem KH.rw {kk : List Int} {w0 w : World} {k gi gg : Nat} {L : List Int} {p : List Int × List Int} {n : Int} (h : KH kk w0 w k gi gg L p n) (hR : Rw kk w0) : Rw kk w := Rw_kept hR (gb_of h.hb) (by simp)

set_option maxRecDepth 100000 in
set_option maxHeartbeats 4000000 in
theorem ktake_c (kk : List Int) (hkk : kk.length = 64) (w0 w : World) (k gi gg : Nat) (L : List Int) (p : List Int × List Int) (n : Nat) (s : ByteArray) (hs : s.size ≤ maxLen) (hz : n + s.size < 1152921504606846976) (hR : Rw kk w0) (H : KH kk w0 w k gi gg L p n) :
    Calls Tryd.prog 211 #[.pointer (some ⟨k, 0, none⟩), .string s] w fun e w' => e = .returned (.tuple #[]) ∧ KH kk w0 w' k gi gg L (Sh.feedL (C kk) p (sb s)) ((n + s.size : Nat) : Int) ∧ w.grownBy w' (some gi) := by
  have k0 := H.kp.c0
  have H' := Lib.hid H
  have hR' := Lib.hid hR
  have hz' := Lib.hid hz
  clear H hR hz
  go_enter Tryd.func211, Tryd.ntmps211
  go_wp2_with fail
  go_at_call 169
  have hz := hz'.out
  refine (take_c kk hkk p n gi s hs (by omega) (by omega) _ (H'.out.rw hR'.out) H'.out.hi).mono ?_
  rintro e w1 ⟨rfl, hS, hG⟩
  have hS' := Lib.hid hS
  have hG' := Lib.hid hG
  clear hS hG hz
  go_wp2_with fail
  go_end0
  have h := H'.out
  have e1 : ((n + s.size : Nat) : Int) = (n : Int) + s.size := by omega
  rw [e1]
  exact ⟨rfl, ⟨h.kp.kept hG'.out (some_ne h.n2), hS'.out, h.hg.kept hG'.out (some_ne (Ne.symm h.n1)), h.n1, h.n2, h.n3, h.l0, h.l1, h.l2, below_of h.hb hG'.out h.l1⟩, hG'.out⟩

set_option maxRecDepth 100000 in
set_option maxHeartbeats 4000000 in
theorem kfeed_c (kk : List Int) (hkk : kk.length = 64) (w0 w : World) (k gi gg : Nat) (L : List Int) (p : List Int × List Int) (n b : Nat) (xs : List ByteArray) (cap : Nat) (hn : n + tot xs < 1152921504606846976) (hl : xs.length < 1000) (hR : Rw kk w0) (H : KH kk w0 w k gi gg L p n) (hP : Ps w b xs) (hbg : b ≠ gi) :
    Calls Tryd.prog 155 #[.iface 181 (.pointer (some ⟨k, 0, none⟩)), .slice (some ⟨b, 0, none⟩) xs.length cap] w fun e w' => e = .returned (.tuple #[]) ∧ KH kk w0 w' k gi gg L (Sh.feedL (C kk) p (sbs xs)) ((n + tot xs : Nat) : Int) ∧ w.grownBy w' (some gi) := by
  have hm : ∀ j w, (method (j + 1) 181 (.pointer (some ⟨k, 0, none⟩)) "loop.example/s02095/impl.take").run Tryd.prog w = .ok (211, .pointer (some ⟨k, 0, none⟩)) w := fun _ _ => by kernel_rfl
  have hH' := Lib.hid H
  have hR' := Lib.hid hR
  have hP' := Lib.hid hP
  have hn' := Lib.hid hn
  clear H hR hP hn
  go_enter Tryd.func155, Tryd.ntmps155
  go_wp2
  go_loopw [8] (fun i wr => ∃ j : Nat, j ≤ xs.length ∧ i = .int .i64 j ∧ KH kk w0 wr k gi gg L (Sh.feedL (C kk) p (sbs (xs.take j))) ((n + tot (xs.take j) : Nat) : Int) ∧ w.grownBy wr (some gi)) (fun i _ => xs.length - (intOf i).toNat)
  case atStart => exact ⟨0, by omega, rfl, hH'.out, gb_rf _ _⟩
  case round =>
    clear hH'
    obtain ⟨j, hj, rfl, hS, hG⟩ := hrel
    have hS' := Lib.hid hS
    have hG' := Lib.hid hG
    by_cases hlt : j < xs.length
    · have cx := (hP'.out.kept hG (some_ne hbg)).cell hlt
      have hx1 := tot_take xs j hlt
      have hx2 := tot_le xs (j + 1)
      have hn := hn'.out
      have hx3 : (xs[j]).size ≤ maxLen := by unfold maxLen; omega
      have hx4 : (n + tot (xs.take j)) + (xs[j]).size < 1152921504606846976 := by omega
      generalize hx : xs[j] = x at *
      have hx' := Lib.hid hx
      have hx1' := Lib.hid hx1
      have hc := Lib.hid (ktake_c kk hkk w0 wr k gi gg L _ (n + tot (xs.take j)) x hx3 hx4 hR'.out hS)
      clear hS hG hn hx hx1 hx2 hx4 hx3
      go_wp2_with (go_at_call 211; (with_reducible refine hc.out.mono ?_); rintro e w2 ⟨rfl, hS2, hG2⟩; have hS2' := Lib.hid hS2; have hG2' := Lib.hid hG2; clear hS2 hG2)
      go_roundw
      case rel =>
        refine ⟨j + 1, by omega, by go_num, ?_, gb_trans hG'.out hG2'.out⟩
        have h2 := hS2'.out
        rw [← Sh.feed_append] at h2
        have e1 : sbs (xs.take j) ++ sb x = sbs (xs.take (j + 1)) := by rw [take_step xs j hlt, sbs_app, sbs_one, hx'.out]
        have e2 : n + tot (xs.take j) + x.size = n + tot (xs.take (j + 1)) := by rw [hx1'.out]; omega
        rw [e1, e2] at h2
        exact h2
      case measure => simp [intOf]; omega
    · rw [List.take_of_length_le (by omega)] at hS
      have hS2' := Lib.hid hS
      clear hS hG
      go_wp2
      go_end0
      exact ⟨rfl, hS2'.out, hG'.out⟩

theorem bytes_outs (st : List Int) : ∀ n, Bytes (outs st n)
  | 0 => fun _ h => by cases h
  | n + 1 => fun y hy => by
    rw [outs, List.mem_append] at hy
    rcases hy with h | h
    · exact bytes_outs st n y h
    · exact bytes_b4 _ y h
theorem sb_fin (kk : List Int) (p : List Int × List Int) (n : Nat) : sb (strOfNums (fin kk p n)) = fin kk p n := sb_str (bytes_outs _ _)
theorem fin_len (kk : List Int) (p : List Int × List Int) (n : Nat) : (fin kk p n).length = 32 := outs_len _ 8
theorem fin_size (kk : List Int) (p : List Int × List Int) (n : Nat) : (strOfNums (fin kk p n)).size = 32 := by rw [← sb_len, sb_fin, fin_len]
/-- what a keyed hash sums to -/
def mac (kk : List Int) (L : List Int) (p : List Int × List Int) (n : Nat) : List Int :=
  fin kk (Sh.feedL (C kk) (Sh.feedL (C kk) (iv8, []) (xorL L 92)) (fin kk p n)) 96

set_option maxRecDepth 100000 in
set_option maxHeartbeats 4000000 in
theorem ksum_c (kk : List Int) (hkk : kk.length = 64) (w0 w : World) (k gi gg : Nat) (L : List Int) (p : List Int × List Int) (n : Nat) (hz : n < 1152921504606846976) (hR : Rw kk w0) (H : KH kk w0 w k gi gg L p n) :
    Calls Tryd.prog 156 #[.pointer (some ⟨k, 0, none⟩)] w fun e w' => e = .returned (.string (strOfNums (mac kk L p n))) ∧ Below w0.heap.size w0 w' := by
  have k0 := H.kp.c0
  have k1 := H.kp.c1
  have H' := Lib.hid H
  have hR' := Lib.hid hR
  have hz' := Lib.hid hz
  have hc := Lib.hid (fun W (hW : KH kk w0 W k gi gg L p n) => sum_c kk hkk p n hz gi W (hW.rw hR) hW.hi)
  clear H hR hz
  go_enter Tryd.func156, Tryd.ntmps156
  go_wp2_with fail
  go_region_held3 (fun w' => w'.cell? ⟨k, 0, none⟩ = some (.pointer (some ⟨gi, 0, none⟩)) ∧ w'.cell? ⟨k, 1, none⟩ = some (.pointer (some ⟨gg, 0, none⟩)))
    (first | go_keep | (go_split_ands; refine ⟨?_, ?_⟩ <;> assumption))
    (first
      | (go_at_call 159; refine (hc.out _ H'.out.drew).mono ?_; rintro e w1 ⟨rfl, hG1⟩; have hG1' := Lib.hid (gb_undrew hG1); have hk1 := H'.out.kp.kept hG1'.out (some_ne H'.out.n2); have c0' := hk1.c0; have c1' := hk1.c1; have hk1' := Lib.hid hk1; clear hG1 hk1)
      | (go_at_call 169; refine (take_c kk hkk _ _ gg _ (by rw [fin_size]; unfold maxLen; decide) (by decide) (by rw [fin_size]; decide) _ (Rw_kept (H'.out.rw hR'.out) hG1'.out (some_ne (by have := Rw_lt hR'.out; have := H'.out.l1; omega))) (H'.out.hg.kept hG1'.out (some_ne (Ne.symm H'.out.n1)))).mono ?_; rintro e w2 ⟨rfl, hS2, hG2⟩; have hS2' := Lib.hid hS2; have hG2' := Lib.hid hG2; have hk2 := hk1'.out.kept hG2 (some_ne H'.out.n3); have d0' := hk2.c0; have d1' := hk2.c1; clear hS2 hG2 hk2))
  clear c0' c1' k0 k1
  go_wp2_with fail
  go_at_call 159
  have hS3 := hS2'.out
  rw [sb_fin, fin_size] at hS3
  refine (sum_c kk hkk _ 96 (by decide) gg _ (Rw_kept (Rw_kept (H'.out.rw hR'.out) hG1'.out (some_ne (by have := Rw_lt hR'.out; have := H'.out.l1; omega))) hG2'.out (some_ne (by have := Rw_lt hR'.out; have := H'.out.l2; omega))) hS3).mono ?_
  rintro e w3 ⟨rfl, hG3⟩
  have hG3' := Lib.hid hG3
  clear hG3 hS3 d0' d1'
  go_wp2_with fail
  go_ret
  exact ⟨rfl, below_of (below_of (below_of H'.out.hb hG1'.out H'.out.l1) hG2'.out H'.out.l2) hG3'.out H'.out.l2⟩

/-- a keyed hash of texts -/
def hm (kk : List Int) (key : ByteArray) (xs : List ByteArray) : ByteArray :=
  strOfNums (mac kk (keyL (keyOf kk key)) (Sh.feedL (C kk) (Sh.feedL (C kk) (iv8, []) (xorL (keyL (keyOf kk key)) 54)) (sbs xs)) (64 + tot xs))

set_option maxRecDepth 100000 in
set_option maxHeartbeats 4000000 in
theorem macOf_c (kk : List Int) (hkk : kk.length = 64) (key : ByteArray) (b : Nat) (xs : List ByteArray) (cap : Nat) (w : World) (hk : key.size < 1152921504606846976) (hn : 64 + tot xs < 1152921504606846976) (hl : xs.length < 1000) (hR : Rw kk w) (hP : Ps w b xs) :
    Calls Tryd.prog 125 #[.string key, .slice (some ⟨b, 0, none⟩) xs.length cap] w fun e w' => e = .returned (.string (hm kk key xs)) ∧ Below w.heap.size w w' := by
  have hb := hP.lt
  have hn' := Lib.hid hn
  have hR' := Lib.hid hR
  have hP' := Lib.hid hP
  have hk' := Lib.hid hk
  clear hn hR hP hk
  go_enter Tryd.func125, Tryd.ntmps125
  go_wp2_with fail
  go_at_call 154
  refine (newKeyed_c kk hkk key hk'.out _ hR'.out).mono ?_
  rintro e w1 ⟨k, gi, gg, rfl, hK1⟩
  have hK1' := Lib.hid hK1
  clear hK1
  go_wp2_with fail
  go_at_call 155
  refine (kfeed_c kk hkk w w1 k gi gg _ _ 64 b xs cap hn'.out hl hR'.out hK1'.out (hP'.out.kept (gb_of hK1'.out.hb) (by simp)) (by have := hK1'.out.l1; omega)).mono ?_
  rintro e w2 ⟨rfl, hK2, hG2⟩
  have hK2' := Lib.hid hK2
  clear hK2 hG2
  go_wp2_with fail
  go_at_call 156
  refine (ksum_c kk hkk w w2 k gi gg _ _ _ hn'.out hR'.out hK2'.out).mono ?_
  rintro e w3 ⟨rfl, hb3⟩
  have hb3' := Lib.hid hb3
  clear hb3
  go_wp2_with fail
  go_ret
  exact ⟨rfl, hb3'.out⟩

set_option maxRecDepth 100000 in
set_option maxHeartbeats 4000000 in
theorem extract_c (kk : List Int) (hkk : kk.length = 64) (key s : ByteArray) (w : World) (hk : key.size < 1152921504606846976) (hn : 64 + s.size < 1152921504606846976) (hR : Rw kk w) :
    Calls Tryd.prog 75 #[.string key, .string s] w fun e w' => e = .returned (.string (hm kk key [s])) ∧ Below w.heap.size w w' := by
  have hn' := Lib.hid hn
  have hR' := Lib.hid hR
  have hk' := Lib.hid hk
  clear hn hR hk
  go_enter Tryd.func75, Tryd.ntmps75
  have hb1' := Lib.hid (below_alloc w (.cells #[.string s] 9 (0, 0)))
  go_wp2_with (go_at_call 125; refine (macOf_c kk hkk key w.heap.size [s] 1 _ hk'.out (by rw [tot_one]; exact hn'.out) (by simp) (Rw_kept hR'.out (gb_of hb1'.out) (by simp)) ⟨_, _, heap_alloc_new w _⟩).mono ?_; rintro e w2 ⟨rfl, hb2⟩; have hb2' := Lib.hid hb2; clear hb2)
  go_ret
  exact ⟨rfl, hb1'.out.trans (hb2'.out.mono (by simp))⟩
end Go.Proofs.YtoejhekppfgmpaaDoor.K6
end
section
namespace Go.Proofs.YtoejhekppfgmpaaDoor.K8
open Go Go.RowKit Go.Shelf Go.Proofs.YtoejhekppfgmpaaDoorW.PrintWords Go.Proofs.YtoejhekppfgmpaaDoorW.PrintLast Go.Proofs.YtoejhekppfgmpaaDoorW.PrintMore Go.Proofs.YtoejhekppfgmpaaDoor.K0 Go.Proofs.YtoejhekppfgmpaaDoor.K2 Go.Proofs.YtoejhekppfgmpaaDoor.K3 Go.Proofs.YtoejhekppfgmpaaDoor.K4 Go.Proofs.YtoejhekppfgmpaaDoor.K5 Go.Proofs.YtoejhekppfgmpaaDoor.K6 Go.Proofs.YtoejhekppfgmpaaDoor.Kp
set_option linter.unusedVariables false
set_option linter.unusedSimpArgs false
/-- one byte as a text -/
theorem str1 (w : World) (x : Int) : (convert 22 9 (.slice (some ⟨w.heap.size, 0, none⟩) 1 1)).run Tryd.prog (w.alloc (.cells #[.int .u8 x] 5 (0, 0))) = .ok (.string (strOfNums [x])) (w.alloc (.cells #[.int .u8 x] 5 (0, 0))) :=
  own_string (P := Tryd.prog) (base := 0) (n := 1) Tryd.underlying22 Tryd.underlying5 Tryd.underlying9 (xs := [x])
    ⟨rfl, .inr ⟨w.heap.size, 1, _, rfl, Nat.zero_le _, heap_alloc_new w _, Nat.le_refl _, by unfold maxLen; decide, rfl, rfl⟩⟩
theorem hm_size (kk : List Int) (key : ByteArray) (xs : List ByteArray) : (hm kk key xs).size = 32 := by unfold hm mac; exact fin_size _ _ _
/-- the pieces of Expand, and what they are together -/
def tE (kk : List Int) (key info : ByteArray) : Nat → ByteArray
  | 0 => ⟨#[]⟩
  | j + 1 => hm kk key [tE kk key info j, info, strOfNums [1 + (j : Int)]]
def oE (kk : List Int) (key info : ByteArray) : Nat → List UInt8
  | 0 => []
  | j + 1 => oE kk key info j ++ (tE kk key info (j + 1)).data.toList
theorem tE_size (kk : List Int) (key info : ByteArray) (j : Nat) : (tE kk key info j).size ≤ 32 := by
  cases j with
  | zero => exact Nat.zero_le _
  | succ j => rw [tE, hm_size]; exact Nat.le_refl _
theorem oE_len (kk : List Int) (key info : ByteArray) : ∀ j, (oE kk key info j).length = 32 * j
  | 0 => rfl
  | j + 1 => by
    rw [oE, List.length_append, oE_len kk key info j]
    show 32 * j + (tE kk key info (j + 1)).size = _
    rw [tE, hm_size]; omega

set_option maxRecDepth 100000 in
set_option maxHeartbeats 4000000 in
theorem expand_c (kk : List Int) (hkk : kk.length = 64) (key info : ByteArray) (n : Nat) (hn : n ≤ 8160) (hk : key.size < 1152921504606846976) (hi : info.size < 576460752303423488) (w : World) (hR : Rw kk w) :
    Calls Tryd.prog 77 #[.string key, .string info, .int .i64 n] w fun e w' => ∃ m : Nat, e = .returned (.tuple #[.string ⟨((oE kk key info m).take n).toArray⟩, .bool true]) ∧ n ≤ 32 * m ∧ 32 * m < n + 32 ∧ Below w.heap.size w w' := by
  have hR' := Lib.hid hR
  have hk' := Lib.hid hk
  have hi' := Lib.hid hi
  clear hR hk hi
  have hn2 : (n : Int) ≤ 8160 := by omega
  have hn3 : (0 : Int) ≤ (n : Int) := by omega
  go_enter Tryd.func77, Tryd.ntmps77
  go_wp2_with fail
  have hbd' := Lib.hid (bd_new w)
  have hbl' := Lib.hid (below_alloc w (.cells #[.pointer none, .slice none 0 0] 154 (0, 0)))
  go_loopw [9, 10] (fun v i wr => ∃ j : Nat, i = .int .i64 (1 + j) ∧ v = .string (tE kk key info j) ∧ 32 * j < n + 32 ∧ Bd wr w.heap.size w.heap.size (oE kk key info j) ∧ Below w.heap.size w wr) (fun _ i _ => (400 - intOf i).toNat)
  case atStart => exact ⟨0, rfl, rfl, by omega, hbd'.out, hbl'.out⟩
  case round =>
    clear hbd' hbl'
    obtain ⟨j, rfl, rfl, hj, hD, hb⟩ := hrel
    have hws := hb.size
    have hl := len_c w.heap.size w.heap.size (oE kk key info j) wr hD
    rw [oE_len] at hl
    have hl' := Lib.hid hl
    have hD' := Lib.hid hD
    have hb' := Lib.hid hb
    clear hD hb hl
    by_cases hlt : 32 * j < n
    · have hlt2 : ((32 * j : Nat) : Int) < (n : Int) := by omega
      have hj2 : (j : Int) < 255 := by omega
      have hs1 := str1 wr (1 + (j : Int))
      have hts := tE_size kk key info j
      generalize ht : tE kk key info j = t at *
      have ht' := Lib.hid ht
      have htot : 64 + tot [t, info, strOfNums [1 + (j : Int)]] < 1152921504606846976 := by
        have := hi'.out
        have e1 : (strOfNums [1 + (j : Int)]).size = 1 := rfl
        simp only [tot, List.map_cons, List.map_nil, List.sum_cons, List.sum_nil, e1]; omega
      have htot' := Lib.hid htot
      clear ht hts htot
      go_wp2_with (go_at_call 127; (with_reducible refine hl'.out.mono ?_); rintro e w2 ⟨rfl, hw2⟩; obtain rfl := hw2.symm)
      go_at_call 125
      have hb2 := (hb'.out.trans ((below_alloc wr (.cells #[.int .u8 (1 + (j : Int))] 5 (0, 0))).mono hws)).trans ((below_alloc (wr.alloc (.cells #[.int .u8 (1 + (j : Int))] 5 (0, 0))) (.cells #[.string t, .string info, .string (strOfNums [1 + (j : Int)])] 9 (0, 0))).mono (by simp; omega))
      have hb3 := (below_alloc wr (.cells #[.int .u8 (1 + (j : Int))] 5 (0, 0))).trans ((below_alloc (wr.alloc (.cells #[.int .u8 (1 + (j : Int))] 5 (0, 0))) (.cells #[.string t, .string info, .string (strOfNums [1 + (j : Int)])] 9 (0, 0))).mono (by simp))
      refine (macOf_c kk hkk key (wr.heap.size + 1) [t, info, strOfNums [1 + (j : Int)]] 3 _ hk'.out htot'.out (by simp) (Rw_kept hR'.out (gb_of hb2) (by simp)) ⟨_, _, heap_alloc2_new wr _ _⟩).mono ?_
      rintro e w3 ⟨rfl, hb4⟩
      have hD3 := Lib.hid ((hD'.out.below hb3).below hb4)
      have hb5 := Lib.hid (hb2.trans (hb4.mono (by simp; omega)))
      have hws3 := hb5.out.size
      have htn : hm kk key [t, info, strOfNums [1 + (j : Int)]] = tE kk key info (j + 1) := by rw [tE, ht'.out]
      generalize hm kk key [t, info, strOfNums [1 + (j : Int)]] = t2 at *
      have htn' := Lib.hid htn
      have hwc := Lib.hid (wstr_c w.heap.size w.heap.size (oE kk key info j) t2 w3 hD3.out (by rw [oE_len, htn]; have := tE_size kk key info (j + 1); omega) hws3)
      clear hb2 hb3 hb4 hs1 htn
      go_wp2_with (go_at_call 128; (with_reducible refine hwc.out.mono ?_); rintro e w4 ⟨rfl, hD4, hb6, ho6⟩; have hD4' := Lib.hid hD4; have hb6' := Lib.hid hb6; clear hD4 hb6 ho6)
      go_roundw
      case rel =>
        refine ⟨j + 1, by go_num, by rw [htn'.out], by omega, ?_, hb5.out.trans hb6'.out⟩
        have h4 := hD4'.out
        rw [htn'.out] at h4
        exact h4
      case measure => simp [intOf]; omega
    · have hlt2 : ¬ ((32 * j : Nat) : Int) < (n : Int) := by omega
      have hstr := str_c w.heap.size w.heap.size (oE kk key info j) wr hD'.out hws
      have hls : (⟨(oE kk key info j).toArray⟩ : ByteArray).size = 32 * j := by show (oE kk key info j).toArray.size = _; rw [List.size_toArray, oE_len]
      have hex : (⟨(oE kk key info j).toArray⟩ : ByteArray).extract 0 n = ⟨((oE kk key info j).take n).toArray⟩ := by rw [ByteArray.extract_mk]; simp
      generalize hz : (⟨(oE kk key info j).toArray⟩ : ByteArray) = z at *
      have hz1 : (n : Int) ≤ (z.size : Int) := by rw [hls]; omega
      have hz' := Lib.hid hz
      have hex' := Lib.hid hex
      have hstr' := Lib.hid hstr
      clear hz hls hex hstr
      go_wp2_with (first | (go_at_call 127; (with_reducible refine hl'.out.mono ?_); rintro e w2 ⟨rfl, hw2⟩; obtain rfl := hw2.symm) | (go_at_call 129; (with_reducible refine hstr'.out.mono ?_); rintro e w3 ⟨rfl, hD4, hb6, ho6⟩; have hb6' := Lib.hid hb6; clear hD4 hb6 ho6))
      go_ret2
      have he := hex'.out
      refine ⟨j, ?_, by omega, hj, hb'.out.trans hb6'.out⟩
      rw [← he]; rfl
set_option maxRecDepth 100000 in
set_option maxHeartbeats 4000000 in
theorem expand_no (key info : ByteArray) (n : Int) (hn : n < 0 ∨ 8160 < n) (w : World) :
    Calls Tryd.prog 77 #[.string key, .string info, .int .i64 n] w fun e w' => e = .returned (.tuple #[.string ⟨#[]⟩, .bool false]) ∧ w' = w := by
  rcases hn with h | h
  · go_enter Tryd.func77, Tryd.ntmps77
    go_wp2_with fail
    go_ret2
    exact ⟨rfl, rfl⟩
  · have h2 : ¬ n < 0 := by omega
    go_enter Tryd.func77, Tryd.ntmps77
    go_wp2_with fail
    go_ret2
    exact ⟨rfl, rfl⟩
end Go.Proofs.YtoejhekppfgmpaaDoor.K8
end
section
namespace Go.Proofs.YtoejhekppfgmpaaDoor.KH2
open Go Go.RowKit Go.Proofs.YtoejhekppfgmpaaDoorW.PrintWords Go.Proofs.YtoejhekppfgmpaaDoorW.PrintLast Go.Proofs.YtoejhekppfgmpaaDoorW.PrintMore Go.Proofs.YtoejhekppfgmpaaDoor.G2
/-- a keyed hash -/
def hm1 (key s : ByteArray) : ByteArray := K6.hm Ks.kk key [s]
def impl_Extract.f (a b : ByteArray) : Option ByteArray := if a.size < 274877906944 then if b.size < 274877906944 then some (hm1 a b) else none else none
theorem impl_Extract.calls (a b : ByteArray) (r : ByteArray) (w : World) (hG : G w) (h : impl_Extract.f a b = some r) :
    Calls Tryd.prog 75 #[.string a, .string b] w fun e w' => e = .returned (.string r) ∧ Below w.heap.size w w' := by
  unfold impl_Extract.f at h
  split at h
  · split at h
    · obtain rfl := Option.some.inj h
      exact K6.extract_c Ks.kk Ks.kk_len a b w (by omega) (by omega) hG
    · cases h
  · cases h
def exp1 (key info : ByteArray) (n : Nat) : ByteArray := ⟨((K8.oE Ks.kk key info ((n + 31) / 32)).take n).toArray⟩
def impl_Expand.f (a b : ByteArray) (n : Int) : Option (ByteArray × Bool) :=
  if n < 0 then some (⟨#[]⟩, false) else if 8160 < n then some (⟨#[]⟩, false) else if a.size < 274877906944 then if b.size < 274877906944 then some (exp1 a b n.toNat, true) else none else none
theorem impl_Expand.calls (a b : ByteArray) (n : Int) (r1 : ByteArray) (r2 : Bool) (w : World) (hG : G w) (h : impl_Expand.f a b n = some (r1, r2)) :
    Calls Tryd.prog 77 #[.string a, .string b, .int .i64 n] w fun e w' => e = .returned (.tuple #[.string r1, .bool r2]) ∧ Below w.heap.size w w' := by
  unfold impl_Expand.f at h
  split at h
  · obtain ⟨rfl, rfl⟩ := Prod.mk.inj (Option.some.inj h)
    exact (K8.expand_no a b n (.inl (by assumption)) w).mono fun e w' ⟨he, hw⟩ => ⟨he, by rw [hw]; exact Below.refl _ _⟩
  · split at h
    · obtain ⟨rfl, rfl⟩ := Prod.mk.inj (Option.some.inj h)
      exact (K8.expand_no a b n (.inr (by assumption)) w).mono fun e w' ⟨he, hw⟩ => ⟨he, by rw [hw]; exact Below.refl _ _⟩
    · split at h
      · split at h
        · obtain ⟨rfl, rfl⟩ := Prod.mk.inj (Option.some.inj h)
          obtain ⟨m, rfl⟩ := Int.eq_ofNat_of_zero_le (a := n) (by omega)
          refine (K8.expand_c Ks.kk Ks.kk_len a b m (by omega) (by omega) (by omega) w hG).mono fun e w' ⟨q, he, h1, h2, h3⟩ => ⟨?_, h3⟩
          rw [he, exp1, Int.toNat_natCast, show q = (m + 31) / 32 by omega]
        · cases h
      · cases h
end Go.Proofs.YtoejhekppfgmpaaDoor.KH2
end
section
namespace Go.Proofs.YtoejhekppfgmpaaDoor.Hp
open Go Go.RowKit Go.Proofs.YtoejhekppfgmpaaDoorW.PrintWords Go.Proofs.YtoejhekppfgmpaaDoorW.PrintLast Go.Proofs.YtoejhekppfgmpaaDoorW.PrintMore Go.Proofs.YtoejhekppfgmpaaDoor.K0 Go.Proofs.YtoejhekppfgmpaaDoor.K3 Go.Proofs.YtoejhekppfgmpaaDoor.K4 Go.Proofs.YtoejhekppfgmpaaDoor.K5 Go.Proofs.YtoejhekppfgmpaaDoor.K6 Go.Proofs.YtoejhekppfgmpaaDoor.Ks Go.Proofs.YtoejhekppfgmpaaDoor.KG2 Go.Proofs.YtoejhekppfgmpaaDoor.KH2 Go.Proofs.YtoejhekppfgmpaaDoor.B Go.Proofs.YtoejhekppfgmpaaDoor.C
set_option linter.unusedVariables false
set_option linter.unusedSimpArgs false
theorem str_eq {a b : ByteArray} (h : sb a = sb b) : a = b := by
  have h2 : a.data.toList = b.data.toList := by
    refine List.map_inj_right (f := fun b : UInt8 => (b.toNat : Int)) ?_ |>.1 h
    intro x y e
    exact UInt8.toNat_inj.1 (by omega)
  cases a; cases b
  simp only [ByteArray.mk.injEq]
  exact Array.toList_inj.1 h2
theorem w64 {n : Int} (h0 : -9223372036854775808 ≤ n) (h : n < 9223372036854775808) : wrap64 n = n := by unfold wrap64; omega
/-- a long run of zeros -/
theorem sb_zero (x : ByteArray) (n : Nat) (h : sb x = List.replicate n 0) : x = zs n := str_eq (h.trans (sb_zs n).symm)
theorem long_zero (n k : Nat) (h : n ≤ 64) (hk : 200 ≤ k) : spec_l1Long.f k n (⟨#[0]⟩ : ByteArray) = some (zs n) := by
  have h0 : ∀ j : Nat, j ≤ 64 → (spec_l1Long.f 200 j (⟨#[0]⟩ : ByteArray)).map sb = some (List.replicate j 0) := by
    intro j hj
    have : (List.range 65).all (fun j : Nat => decide ((spec_l1Long.f 200 j (⟨#[0]⟩ : ByteArray)).map sb = some (List.replicate j 0))) = true := by kernel_rfl
    exact of_decide_eq_true (List.all_eq_true.1 this j (List.mem_range.2 (by omega)))
  have h1 := h0 n h
  obtain ⟨x, hx, hs⟩ := Option.map_eq_some_iff.1 h1
  have hz := sb_zero x n hs
  subst hz
  exact at_least (f := fun k => spec_l1Long.f k n (⟨#[0]⟩ : ByteArray)) (fun k => spec_l1Long.mono _ _ _) hx hk
theorem bt_rd (s : ByteArray) (i : Nat) (h : i < s.size) : bt s i = rd (sb s) i := by
  have hl : i < (sb s).length := by rw [sb_len]; exact h
  unfold bt rd
  rw [Int.toNat_natCast, dif_pos h, List.getD_eq_getElem?_getD, List.getElem?_eq_getElem hl]
  simp [sb]; rfl
theorem xor_go (s : ByteArray) (c : Int) (hs : s.size < 140737488355328) : ∀ (d n k : Nat), n + d = s.size → d < k → spec_l1Xor.l0 k s c (xorL ((sb s).take n) c) n = some (strOfNums (xorL (sb s) c))
  | 0, n, k, hn, hk => by
    obtain ⟨k, rfl⟩ : ∃ j, k = j + 1 := ⟨k - 1, by omega⟩
    rw [spec_l1Xor.l0, if_neg (by omega), List.take_of_length_le (by rw [sb_len]; omega)]
  | d + 1, n, k, hn, hk => by
    obtain ⟨k, rfl⟩ : ∃ j, k = j + 1 := ⟨k - 1, by omega⟩
    have hl : n < (sb s).length := by rw [sb_len]; omega
    have hxl : (xorL ((sb s).take n) c).length = n := by rw [xorL_len, List.length_take]; omega
    rw [spec_l1Xor.l0, if_pos (by omega), if_pos (by omega), if_pos (by omega), w64 (by omega) (by omega), bt_rd s n (by omega)]
    have ih := xor_go s c hs d (n + 1) k (by omega) (by omega)
    rw [List.take_succ_eq_append_getElem hl] at ih
    have e1 : xorL ((sb s).take n ++ [(sb s)[n]]) c = xorL ((sb s).take n) c ++ [Go.bits .xor .u8 (rd (sb s) n) c] := by
      have e2 : rd (sb s) n = (sb s)[n] := by unfold rd; simp [List.getD_eq_getElem?_getD, hl]
      rw [e2]; unfold xorL; rw [List.map_append]; rfl
    rw [e1, show ((n + 1 : Nat) : Int) = (n : Int) + 1 by omega] at ih
    exact ih
theorem xor_f (s : ByteArray) (c : Int) (k : Nat) (hs : s.size < 140737488355328) (hk : s.size < k) : spec_l1Xor.f k s c = some (strOfNums (xorL (sb s) c)) := xor_go s c hs s.size 0 k (by omega) hk
theorem keyL_sb (key : ByteArray) (h : key.size ≤ 64) : sb (key ++ zs (64 - key.size)) = keyL key := by rw [sb_app, sb_zs]; rfl
theorem app_size (a b : ByteArray) : (a ++ b).size = a.size + b.size := by rw [← sb_len, sb_app, List.length_append, sb_len, sb_len]
theorem str_size {xs : List Int} : (strOfNums xs).size = xs.length := by unfold strOfNums; show (List.toArray _).size = _; simp
theorem sha1_sb (t : ByteArray) : sha1 t = strOfNums (fin kk (Sh.feedL (C kk) (iv8, []) (sb t)) t.size) := by unfold sha1 sha; rw [sbs_one, tot_one]
theorem hm_eq (key s : ByteArray) : hm1 key s = sha1 (strOfNums (xorL (keyL (K6.keyOf kk key)) 92) ++ sha1 (strOfNums (xorL (keyL (K6.keyOf kk key)) 54) ++ s)) := by
  have hl := keyL_len (K6.keyOf kk key) (K6.keyOf_le kk key)
  generalize hL : keyL (K6.keyOf kk key) = L at *
  unfold hm1 hm mac
  rw [hL, sha1_sb (strOfNums (xorL L 54) ++ s), sha1_sb, sb_app, sb_app, sb_str (bytes_xor L 92), sb_str (bytes_xor L 54), sb_fin, Sh.feed_append, Sh.feed_append, sbs_one, tot_one]
  have e1 : (strOfNums (xorL L 54) ++ s).size = 64 + s.size := by rw [app_size, str_size, xorL_len, hl]
  rw [e1]
  have e2 : (strOfNums (xorL L 92) ++ strOfNums (fin kk (Sh.feedL (C kk) (Sh.feedL (C kk) (iv8, []) (xorL L 54)) (sb s)) (64 + s.size))).size = 96 := by rw [app_size, str_size, str_size, xorL_len, hl, fin_len]
  rw [e2]
theorem sha1_size (t : ByteArray) : (sha1 t).size = 32 := sha_size _ _
theorem hmac_j (key s : ByteArray) (hk : key.size ≤ 64) (hs : s.size < 140737488355328 / 1024) (k : Nat) (hkk : 400 ≤ k) :
    spec_Hmac.j0 k key s = some (sha1 (strOfNums (xorL (keyL key) 92) ++ sha1 (strOfNums (xorL (keyL key) 54) ++ s))) := by
  obtain ⟨k, rfl⟩ : ∃ j, k = j + 1 := ⟨k - 1, by omega⟩
  have hl := keyL_len key hk
  rw [spec_Hmac.j0, w64 (by omega) (by omega), show (64 - (key.size : Int)) = ((64 - key.size : Nat) : Int) by omega, long_zero _ _ (by omega) (by omega), Option.bind_some, if_pos (by rw [zs_size]; omega)]
  have hz : (key ++ zs (64 - key.size)).size = 64 := by rw [app_size, zs_size]; omega
  rw [xor_f _ 92 k (by omega) (by omega), Option.bind_some, xor_f _ 54 k (by omega) (by omega), Option.bind_some, keyL_sb key hk]
  have h1 : (strOfNums (xorL (keyL key) 54)).size = 64 := by rw [str_size, xorL_len, hl]
  have h2 : (strOfNums (xorL (keyL key) 92)).size = 64 := by rw [str_size, xorL_len, hl]
  rw [if_pos (by omega)]
  unfold spec_Sha256.f
  rw [if_pos (by rw [app_size]; omega), Option.bind_some, if_pos (by rw [sha1_size]; omega), if_pos (by rw [app_size, sha1_size]; omega), Option.bind_some]
theorem hmac_spec (key s : ByteArray) (hk : key.size < 274877906944) (hs : s.size < 137438953472) (k : Nat) (hkk : 400 ≤ k) : spec_Hmac.f k key s = some (hm1 key s) := by
  rw [hm_eq]
  unfold spec_Hmac.f
  by_cases h : 64 < key.size
  · have e : K6.keyOf kk key = sha1 key := if_pos h
    rw [if_pos (by omega), e]
    unfold spec_Sha256.f
    rw [if_pos hk, Option.bind_some]
    exact hmac_j (sha1 key) s (by rw [sha1_size]; decide) (by omega) k hkk
  · have e : K6.keyOf kk key = key := if_neg h
    rw [if_neg (by omega), e]
    exact hmac_j key s (by omega) (by omega) k hkk
end Go.Proofs.YtoejhekppfgmpaaDoor.Hp
end
section
namespace Go.Proofs.YtoejhekppfgmpaaDoor.Hp
open Go Go.RowKit Go.Proofs.YtoejhekppfgmpaaDoorW.PrintWords Go.Proofs.YtoejhekppfgmpaaDoorW.PrintLast Go.Proofs.YtoejhekppfgmpaaDoorW.PrintMore Go.Proofs.YtoejhekppfgmpaaDoor.K0 Go.Proofs.YtoejhekppfgmpaaDoor.K3 Go.Proofs.YtoejhekppfgmpaaDoor.K4 Go.Proofs.YtoejhekppfgmpaaDoor.K5 Go.Proofs.YtoejhekppfgmpaaDoor.K6 Go.Proofs.YtoejhekppfgmpaaDoor.K8 Go.Proofs.YtoejhekppfgmpaaDoor.Ks Go.Proofs.YtoejhekppfgmpaaDoor.KG2 Go.Proofs.YtoejhekppfgmpaaDoor.KH2 Go.Proofs.YtoejhekppfgmpaaDoor.B Go.Proofs.YtoejhekppfgmpaaDoor.C
set_option linter.unusedVariables false
set_option linter.unusedSimpArgs false
theorem hm_three (key a b c : ByteArray) : hm kk key [a, b, c] = hm1 key ((a ++ b) ++ c) := by
  unfold hm1 hm
  have e1 : sbs [a, b, c] = sbs [(a ++ b) ++ c] := by simp [sbs, sb_app, List.append_assoc]
  have e2 : tot [a, b, c] = tot [(a ++ b) ++ c] := by simp only [tot, List.map_cons, List.map_nil, List.sum_cons, List.sum_nil, app_size]; omega
  rw [e1, e2]
def oS (key info : ByteArray) (j : Nat) : ByteArray := ⟨(oE kk key info j).toArray⟩
theorem oS_size (key info : ByteArray) (j : Nat) : (oS key info j).size = 32 * j := by show (oE kk key info j).toArray.size = _; rw [List.size_toArray, oE_len]
theorem oS_succ (key info : ByteArray) (j : Nat) : oS key info (j + 1) = oS key info j ++ tE kk key info (j + 1) := by
  apply str_eq
  rw [sb_app]
  unfold oS sb
  rw [oE, List.map_append]
theorem exp_go (key info : ByteArray) (n : Nat) (hn : n ≤ 8160) (hk : key.size < 274877906944) (hi : info.size < 68719476736) : ∀ (d j k : Nat), n ≤ 32 * (j + d) → 32 * j < n + 32 → d + 500 < k →
    spec_Expand.l0 k key info n (oS key info j) (tE kk key info j) (1 + (j : Int)) = some (exp1 key info n, true)
  | 0, j, k, h1, h2, hd => by
    obtain ⟨k, rfl⟩ : ∃ i, k = i + 1 := ⟨k - 1, by omega⟩
    rw [spec_Expand.l0, oS_size, if_neg (by omega), if_pos (by omega), if_pos (by omega)]
    have e : (n + 31) / 32 = j := by omega
    rw [exp1, e, Int.toNat_natCast]
    congr 2
    unfold oS
    rw [ByteArray.extract_mk]; simp
  | d + 1, j, k, h1, h2, hd => by
    obtain ⟨k, rfl⟩ : ∃ i, k = i + 1 := ⟨k - 1, by omega⟩
    rw [spec_Expand.l0, oS_size]
    by_cases h : 32 * j < n
    · have ht := tE_size kk key info j
      have hb : (strOfNums [(1 + (j : Int)) % 256]).size = 1 := rfl
      have hap := app_size (tE kk key info j) info
      have hap2 := app_size (tE kk key info j ++ info) (strOfNums [(1 + (j : Int)) % 256])
      rw [if_pos (by omega), if_pos (by omega), Option.bind_some, if_pos (by omega), hmac_spec key _ hk (by omega) k (by omega), Option.bind_some]
      have e1 : (1 + (j : Int)) % 256 = 1 + (j : Int) := by omega
      rw [e1, ← hm_three]
      have e2 : hm kk key [tE kk key info j, info, strOfNums [1 + (j : Int)]] = tE kk key info (j + 1) := by rw [tE]
      rw [e2, if_pos (by have := tE_size kk key info (j + 1); omega), ← oS_succ, w64 (by omega) (by omega)]
      have ih := exp_go key info n hn hk hi d (j + 1) k (by omega) (by omega) (by omega)
      rw [show (1 : Int) + ((j + 1 : Nat) : Int) = 1 + (j : Int) + 1 by omega] at ih
      exact ih
    · rw [if_neg (by omega), if_pos (by omega), if_pos (by omega)]
      have e : (n + 31) / 32 = j := by omega
      rw [exp1, e, Int.toNat_natCast]
      congr 2
      unfold oS
      rw [ByteArray.extract_mk]; simp
theorem exp_spec (key info : ByteArray) (n : Int) (hk : key.size < 274877906944) (hi : info.size < 68719476736) : spec_Expand.f 2000 key info n = impl_Expand.f key info n := by
  unfold spec_Expand.f impl_Expand.f
  by_cases h1 : n < 0
  · rw [if_pos h1, if_pos h1, spec_Expand.j0, if_pos rfl]
  · rw [if_neg h1, if_neg h1]
    by_cases h2 : 8160 < n
    · rw [if_pos h2, spec_Expand.j0, if_pos (by simpa using h2)]
    · obtain ⟨m, rfl⟩ := Int.eq_ofNat_of_zero_le (a := n) (by omega)
      rw [if_neg h2, if_pos hk, if_pos (by omega), spec_Expand.j0, if_neg (by simpa using h2)]
      have := exp_go key info m (by omega) hk hi 255 0 1999 (by omega) (by omega) (by omega)
      exact this
end Go.Proofs.YtoejhekppfgmpaaDoor.Hp
end
