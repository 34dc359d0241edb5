/- What the proof of FnKeys leans on, part 15: cut out of the texts of this claim's making by a program (wip/tools/pack.py). -/
import Derived.Test.YtgdcafbdkidamaaGreatDoorKKeys3
import Derived.Test.YtgdcafbdkidamaaGreatDoorKKeys13
import Derived.BigQuiet
import Derived.Deep.QuietTactic
import Derived.Lib.Hide
import Derived.LoopTactic
import Derived.StillTailTactics
import Derived.Test.YtgdcafbdkidamaaGreatDoorProg
section
namespace Go.Proofs.YtgdcafbdkidamaaGreatDoor.K2
open Go Go.RowKit Go.Proofs.YtgdcafbdkidamaaGreatDoorW.PrintWords Go.Proofs.YtgdcafbdkidamaaGreatDoorW.PrintLast Go.Proofs.YtgdcafbdkidamaaGreatDoorW.PrintMore Go.Proofs.YtgdcafbdkidamaaGreatDoor.K0
set_option linter.unusedVariables false
set_option linter.unusedSimpArgs false
def zeros (n : Nat) : List Int := List.replicate n 0
set_option maxRecDepth 100000 in
theorem cells_zero : (List.toArray (Value.int .u32 0 :: .int .u32 0 :: .int .u32 0 :: .int .u32 0 :: .int .u32 0 :: .int .u32 0 :: .int .u32 0 :: .int .u32 0 :: .int .u32 0 :: .int .u32 0 :: .int .u32 0 :: .int .u32 0 :: .int .u32 0 :: .int .u32 0 :: .int .u32 0 :: .int .u32 0 :: .int .u32 0 :: .int .u32 0 :: .int .u32 0 :: .int .u32 0 :: .int .u32 0 :: .int .u32 0 :: .int .u32 0 :: .int .u32 0 :: .int .u32 0 :: .int .u32 0 :: .int .u32 0 :: .int .u32 0 :: .int .u32 0 :: .int .u32 0 :: .int .u32 0 :: .int .u32 0 :: .int .u32 0 :: .int .u32 0 :: .int .u32 0 :: .int .u32 0 :: .int .u32 0 :: .int .u32 0 :: .int .u32 0 :: .int .u32 0 :: .int .u32 0 :: .int .u32 0 :: .int .u32 0 :: .int .u32 0 :: .int .u32 0 :: .int .u32 0 :: .int .u32 0 :: .int .u32 0 :: .int .u32 0 :: .int .u32 0 :: .int .u32 0 :: .int .u32 0 :: .int .u32 0 :: .int .u32 0 :: .int .u32 0 :: .int .u32 0 :: .int .u32 0 :: .int .u32 0 :: .int .u32 0 :: .int .u32 0 :: .int .u32 0 :: .int .u32 0 :: .int .u32 0 :: .int .u32 0 :: []) : Array Value) = (c32 (zeros 64)).toArray := by kernel_rfl
set_option maxRecDepth 100000
theorem slice_blk (g : Nat) (l : Nat) (h : l < 64) (w : World) (x : Int) (hx : x = l) : (Instr.sliceAt 187 (.pointer (some ⟨g, 8, none⟩)) (some (.int .i64 x)) none none).run Tryz.prog w = .ok (.slice (some ⟨g, 8 + l, none⟩) (64 - l) (64 - l)) w := by
  have hu := Tryz.underlying187
  subst hx
  rw [run_sliceAt_array_l w 187 ⟨g, 8, none⟩ hu .i64 l (by omega) (by show (l : Int) ≤ 64; omega)]
  have e : Tryz.prog.arrayLen 187 = 64 := by kernel_rfl
  have es : ∀ w, (sizeOf (Tryz.prog.elem 187)).run Tryz.prog w = .ok 1 w := fun w => by kernel_rfl
  rw [es, e]
  simp only [Result.andThen, slicedAt, Int.toNat_natCast]
  rw [if_neg (by omega), Addr.add_lit, Nat.mul_one]
theorem idx_blk (g o n c j : Nat) (h : j < n) (w : World) : (Instr.indexAt 46 (.slice (some ⟨g, o, none⟩) n c) (.int .i64 j)).run Tryz.prog w = .ok (.pointer (some ⟨g, o + j, none⟩)) w := by
  have hu := Tryz.underlying46
  rw [run_indexAt_slice w 46 ⟨g, o, none⟩ n c .i64 j hu, if_pos (by omega)]
  have es : ∀ w, (sizeOf (Tryz.prog.elem 46)).run Tryz.prog w = .ok 1 w := fun w => by kernel_rfl
  rw [es]
  simp only [Result.andThen, Int.toNat_natCast]
  rw [Addr.add_lit, Nat.mul_one]
theorem idx_w (g : Nat) (j : Nat) (h : j < 64) (x : Int) (hx : x = j) (w : World) : (Instr.indexAt 206 (.pointer (some ⟨g, 0, none⟩)) (.int .i64 x)).run Tryz.prog w = .ok (.pointer (some ⟨g, j, none⟩)) w := by
  have hu := Tryz.underlying206
  subst hx
  have e : Tryz.prog.arrayLen 206 = 64 := by kernel_rfl
  rw [run_indexAt_array w 206 ⟨g, 0, none⟩ .i64 j hu, e, if_pos (by omega)]
  have es : ∀ w, (sizeOf (Tryz.prog.elem 206)).run Tryz.prog w = .ok 1 w := fun w => by kernel_rfl
  rw [es]
  simp only [Result.andThen, Int.toNat_natCast]
  rw [Addr.add_lit, Nat.mul_one, Nat.zero_add]
theorem zeros_len (n : Nat) : (zeros n).length = n := List.length_replicate ..
/-- the next cell of an array that is filled from the left -/
theorem set_next (A : List Int) (n k : Nat) (h : A.length = k) (hn : k < n) (x : Int) : (A ++ zeros (n - k)).set k x = (A ++ [x]) ++ zeros (n - (k + 1)) := by
  subst h
  rw [List.set_append_right _ _ (Nat.le_refl _), Nat.sub_self]
  obtain ⟨m, hm⟩ : ∃ m, n - A.length = m + 1 := ⟨n - A.length - 1, by omega⟩
  rw [hm, show n - (A.length + 1) = m by omega]
  simp [zeros, List.replicate_succ]
theorem rd_left (A B : List Int) (i : Nat) (h : i < A.length) : rd (A ++ B) i = rd A i := by
  unfold rd; simp [List.getD_eq_getElem?_getD, List.getElem?_append_left h]
theorem cellA {w : World} {g : Nat} {t : TypeId} {A B : List Int} (h : W32 w g t (A ++ B)) {i : Nat} (hi : i < A.length) {x : Int} (hx : x = i) : w.cell? ⟨g, i, none⟩ = some (.int .u32 (rd A x)) := by
  rw [h.cell (by rw [List.length_append]; omega), rd_left _ _ _ hi, hx]

theorem idx_agg {T : TypeId} (n : Nat) (hu : Tryz.prog.underlying T = some (.array n 171)) (l : List Int) (hl : l.length = n) (j : Nat) (hj : j < n) (x : Int) (hx : x = j) (w : World) :
    (Instr.index T (.agg (c32 l).toArray) (.int .i64 x)).run Tryz.prog w = .ok (.int .u32 (rd l x)) w := by
  subst hx
  have hs : ∀ w, (sizeOf 171).run Tryz.prog w = .ok 1 w := fun w => by kernel_rfl
  have ha : ∀ w, (isAgg 171).run Tryz.prog w = .ok false w := fun w => by kernel_rfl
  have hg : (c32 l)[j]? = some (.int .u32 (rd l j)) := c32_get (by omega)
  simp [Instr.index, asIntOf, run_underlying hu, part, hs, ha, Sem.run_bind, hj, hg]
theorem wext_succ (w : List Int) (k : Nat) : Sx.wext w (k + 1) = Sx.wext w k ++ [Sx.nx (Sx.wext w k) (16 + k)] := rfl
theorem nx_walk (w : List Int) (i : Int) :
    (rd w (i - 16) + rd w (i - 7) + Go.bits .xor .u32 (Go.bits .xor .u32 (Sx.tn (rd w (i - 15)) 7) (Sx.tn (rd w (i - 15)) 18)) (rd w (i - 15) / 8) + Go.bits .xor .u32 (Go.bits .xor .u32 (Sx.tn (rd w (i - 2)) 17) (Sx.tn (rd w (i - 2)) 19)) (rd w (i - 2) / 1024)) % 4294967296 = Sx.nx w i := by
  unfold Sx.nx
  generalize Go.bits .xor .u32 (Go.bits .xor .u32 (Sx.tn (rd w (i - 15)) 7) (Sx.tn (rd w (i - 15)) 18)) (rd w (i - 15) / 8) = x
  generalize Go.bits .xor .u32 (Go.bits .xor .u32 (Sx.tn (rd w (i - 2)) 17) (Sx.tn (rd w (i - 2)) 19)) (rd w (i - 2) / 1024) = y
  omega
theorem quiet_add {P : Program} {f : FuncId} {args : Array Value} {v : Value} {w : World} {a x : Nat} (h : ∀ W, Calls P f args W fun e w' => e = .returned v ∧ w' = W) :
    Calls P f args (w.drewN (a + x)) fun e w'' => e = .returned v ∧ ∃ n, w'' = w.drewN (a + n) := (h _).mono fun _ _ ⟨he, hm⟩ => ⟨he, x, hm⟩
theorem gb_of {B : Nat} {w W : World} (h : Below B w W) (hB : B = w.heap.size := by rfl) : w.grownBy W none := by
  subst hB; exact ⟨h.os, h.tape, h.output, h.size, fun k hk _ => h.block k hk⟩
/-- a box of eight words -/
def S8 (w : World) (B : Nat) (s : Sx.W8) : Prop := w.heap[B]? = some (.cells #[.int .u32 s.a, .int .u32 s.b, .int .u32 s.c, .int .u32 s.d, .int .u32 s.e, .int .u32 s.f, .int .u32 s.g, .int .u32 s.h] 196 (0, 0))
section
variable {w : World} {B : Nat} {s : Sx.W8}
theorem S8.lt (h : S8 w B s) : B < w.heap.size := (Array.getElem?_eq_some_iff.1 h).1
theorem S8.c0 (h : S8 w B s) : w.cell? ⟨B, 0, none⟩ = some (.int .u32 s.a) := (cell_of_row w B 0 _ _ _ h).trans rfl
theorem S8.c1 (h : S8 w B s) : w.cell? ⟨B, 1, none⟩ = some (.int .u32 s.b) := (cell_of_row w B 1 _ _ _ h).trans rfl
theorem S8.c2 (h : S8 w B s) : w.cell? ⟨B, 2, none⟩ = some (.int .u32 s.c) := (cell_of_row w B 2 _ _ _ h).trans rfl
theorem S8.c3 (h : S8 w B s) : w.cell? ⟨B, 3, none⟩ = some (.int .u32 s.d) := (cell_of_row w B 3 _ _ _ h).trans rfl
theorem S8.c4 (h : S8 w B s) : w.cell? ⟨B, 4, none⟩ = some (.int .u32 s.e) := (cell_of_row w B 4 _ _ _ h).trans rfl
theorem S8.c5 (h : S8 w B s) : w.cell? ⟨B, 5, none⟩ = some (.int .u32 s.f) := (cell_of_row w B 5 _ _ _ h).trans rfl
theorem S8.c6 (h : S8 w B s) : w.cell? ⟨B, 6, none⟩ = some (.int .u32 s.g) := (cell_of_row w B 6 _ _ _ h).trans rfl
theorem S8.c7 (h : S8 w B s) : w.cell? ⟨B, 7, none⟩ = some (.int .u32 s.h) := (cell_of_row w B 7 _ _ _ h).trans rfl
theorem S8.free (h : S8 w B s) (i : Nat) : w.frozen? ⟨B, i, none⟩ = false := frozen_of_row w B i _ _ h
end
theorem gb_drewN {w W : World} {row : Option Nat} (h : w.grownBy W row) (n : Nat) : w.grownBy (W.drewN n) row := ⟨h.os, h.tape, h.output, h.size, h.block⟩
theorem gb_set0 {w W : World} {row : Option Nat} (h : w.grownBy W row) {B : Nat} (hB : w.heap.size ≤ B) (i : Nat) (v : Value) : w.grownBy (W.setCell ⟨B, i, none⟩ v) row :=
  ⟨h.os, h.tape, h.output, by simpa [World.setCell] using h.size, fun k hk hr => (Below.heap_setCell _ _ _ _ (by simp; omega)).trans (h.block k hk hr)⟩
theorem gb_setR {w W : World} {B : Nat} (h : w.grownBy W (some B)) (i : Nat) (v : Value) : w.grownBy (W.setCell ⟨B, i, none⟩ v) (some B) :=
  ⟨h.os, h.tape, h.output, by simpa [World.setCell] using h.size, fun k hk hr => (Below.heap_setCell _ _ _ _ (fun e => hr (by simp [e]))).trans (h.block k hk hr)⟩
theorem gb_weak {w W : World} (h : w.grownBy W none) (row : Option Nat) : w.grownBy W row := ⟨h.os, h.tape, h.output, h.size, fun k hk _ => h.block k hk (by simp)⟩
theorem S8_set {w : World} {B : Nat} {s : Sx.W8} (h : S8 w B s) (a b c d e f g k : Int) :
    S8 ((((((((w.setCell ⟨B, 0, none⟩ (.int .u32 a)).setCell ⟨B, 1, none⟩ (.int .u32 b)).setCell ⟨B, 2, none⟩ (.int .u32 c)).setCell ⟨B, 3, none⟩ (.int .u32 d)).setCell ⟨B, 4, none⟩ (.int .u32 e)).setCell ⟨B, 5, none⟩ (.int .u32 f)).setCell ⟨B, 6, none⟩ (.int .u32 g)).setCell ⟨B, 7, none⟩ (.int .u32 k)) B ⟨a, b, c, d, e, f, g, k⟩ := by
  have h0 := heap_setCell_same w B 0 _ _ (.int .u32 a) h
  have h1 := heap_setCell_same _ B 1 _ _ (.int .u32 b) h0
  have h2 := heap_setCell_same _ B 2 _ _ (.int .u32 c) h1
  have h3 := heap_setCell_same _ B 3 _ _ (.int .u32 d) h2
  have h4 := heap_setCell_same _ B 4 _ _ (.int .u32 e) h3
  have h5 := heap_setCell_same _ B 5 _ _ (.int .u32 f) h4
  have h6 := heap_setCell_same _ B 6 _ _ (.int .u32 g) h5
  have h7 := heap_setCell_same _ B 7 _ _ (.int .u32 k) h6
  simpa [S8] using h7
theorem a_walk (s : Sx.W8) (ck wk : Int) : (s.h + Go.bits .xor .u32 (Go.bits .xor .u32 (Sx.tn s.e 6) (Sx.tn s.e 11)) (Sx.tn s.e 25) + Go.bits .xor .u32 (Go.bits .and .u32 s.e s.f) (Go.bits .and .u32 (Go.bits .xor .u32 IntKind.u32.max s.e) s.g) + ck + wk +
    (Go.bits .xor .u32 (Go.bits .xor .u32 (Sx.tn s.a 2) (Sx.tn s.a 13)) (Sx.tn s.a 22) + Go.bits .xor .u32 (Go.bits .xor .u32 (Go.bits .and .u32 s.a s.b) (Go.bits .and .u32 s.a s.c)) (Go.bits .and .u32 s.b s.c))) % 4294967296 = (Sx.t1 s ck wk + Sx.t2 s) % 4294967296 := by
  unfold Sx.t1 Sx.t2
  generalize Go.bits .xor .u32 (Go.bits .xor .u32 (Sx.tn s.e 6) (Sx.tn s.e 11)) (Sx.tn s.e 25) = x1
  generalize Go.bits .xor .u32 (Go.bits .and .u32 s.e s.f) (Go.bits .and .u32 (Go.bits .xor .u32 IntKind.u32.max s.e) s.g) = x2
  generalize Go.bits .xor .u32 (Go.bits .xor .u32 (Sx.tn s.a 2) (Sx.tn s.a 13)) (Sx.tn s.a 22) = x3
  generalize Go.bits .xor .u32 (Go.bits .xor .u32 (Go.bits .and .u32 s.a s.b) (Go.bits .and .u32 s.a s.c)) (Go.bits .and .u32 s.b s.c) = x4
  omega
theorem e_walk (s : Sx.W8) (ck wk : Int) : (s.d + (s.h + Go.bits .xor .u32 (Go.bits .xor .u32 (Sx.tn s.e 6) (Sx.tn s.e 11)) (Sx.tn s.e 25) + Go.bits .xor .u32 (Go.bits .and .u32 s.e s.f) (Go.bits .and .u32 (Go.bits .xor .u32 IntKind.u32.max s.e) s.g) + ck + wk)) % 4294967296 = (s.d + Sx.t1 s ck wk) % 4294967296 := by
  unfold Sx.t1
  generalize Go.bits .xor .u32 (Go.bits .xor .u32 (Sx.tn s.e 6) (Sx.tn s.e 11)) (Sx.tn s.e 25) = x1
  generalize Go.bits .xor .u32 (Go.bits .and .u32 s.e s.f) (Go.bits .and .u32 (Go.bits .xor .u32 IntKind.u32.max s.e) s.g) = x2
  omega
theorem w32_far8 {w : World} {G B : Nat} {t : TypeId} {l : List Int} (h : W32 w G t l) (hne : G ≠ B) (a b c d e f g k : Value) :
    W32 ((((((((w.setCell ⟨B, 0, none⟩ a).setCell ⟨B, 1, none⟩ b).setCell ⟨B, 2, none⟩ c).setCell ⟨B, 3, none⟩ d).setCell ⟨B, 4, none⟩ e).setCell ⟨B, 5, none⟩ f).setCell ⟨B, 6, none⟩ g).setCell ⟨B, 7, none⟩ k) G t l :=
  ((((((((h.far (p := ⟨B, 0, none⟩) hne _).far (p := ⟨B, 1, none⟩) hne _).far (p := ⟨B, 2, none⟩) hne _).far (p := ⟨B, 3, none⟩) hne _).far (p := ⟨B, 4, none⟩) hne _).far (p := ⟨B, 5, none⟩) hne _).far (p := ⟨B, 6, none⟩) hne _).far (p := ⟨B, 7, none⟩) hne _)
def l8 (s : Sx.W8) : List Int := [s.a, s.b, s.c, s.d, s.e, s.f, s.g, s.h]
theorem s8_w32 {w : World} {B : Nat} {s : Sx.W8} (h : S8 w B s) : W32 w B 196 (l8 s) := h
theorem idx_8 (g : Nat) (j : Nat) (h : j < 8) (x : Int) (hx : x = j) (w : World) : (Instr.indexAt 196 (.pointer (some ⟨g, 0, none⟩)) (.int .i64 x)).run Tryz.prog w = .ok (.pointer (some ⟨g, j, none⟩)) w := by
  have hu := Tryz.underlying196
  subst hx
  have e : Tryz.prog.arrayLen 196 = 8 := by kernel_rfl
  rw [run_indexAt_array w 196 ⟨g, 0, none⟩ .i64 j hu, e, if_pos (by omega)]
  have es : ∀ w, (sizeOf (Tryz.prog.elem 196)).run Tryz.prog w = .ok 1 w := fun w => by kernel_rfl
  rw [es]
  simp only [Result.andThen, Int.toNat_natCast]
  rw [Addr.add_lit, Nat.mul_one, Nat.zero_add]
theorem block_rd (kk st blk : List Int) (k : Nat) (h : k < 8) : rd (Sx.block kk st blk 0) k = (rd st k + rd (l8 (Sx.rnds kk (Sx.sched blk 0) (Sx.of8 st) 64)) k) % 4294967296 := by
  unfold Sx.block
  generalize Sx.rnds kk (Sx.sched blk 0) (Sx.of8 st) 64 = s
  obtain rfl | rfl | rfl | rfl | rfl | rfl | rfl | rfl : k = 0 ∨ k = 1 ∨ k = 2 ∨ k = 3 ∨ k = 4 ∨ k = 5 ∨ k = 6 ∨ k = 7 := by omega
  all_goals rfl
theorem rd_mix (A B : List Int) (k : Nat) (h : k ≤ A.length) : rd (A.take k ++ B.drop k) k = rd B k := by
  unfold rd
  simp [List.getD_eq_getElem?_getD, List.getElem?_append, Nat.min_eq_left h]
theorem set_mix (A B : List Int) (k : Nat) (h : k < A.length) (h' : k < B.length) : (A.take k ++ B.drop k).set k (rd A k) = A.take (k + 1) ++ B.drop (k + 1) := by
  have e : rd A k = A[k] := by unfold rd; simp [List.getD_eq_getElem?_getD, h]
  have hl : (A.take k).length = k := by rw [List.length_take]; omega
  rw [List.set_append_right _ _ (by omega), hl, Nat.sub_self, List.drop_eq_getElem_cons h', List.set_cons_zero, e, List.take_succ_eq_append_getElem h, List.append_assoc, List.singleton_append]
theorem w16_succ (m : List Int) (k : Nat) : Sx.w16 m 0 (k + 1) = Sx.w16 m 0 k ++ [Sx.wd4 m (4 * k)] := by rw [Sx.w16, Int.zero_add]
set_option maxRecDepth 100000 in
set_option maxHeartbeats 4000000 in
theorem turn_c (kk st blk : List Int) (fill size : Int) (g : Nat) (w : World) (hkk : kk.length = 64) (hR : Rw kk w) (H : HB w g st blk fill size) :
    Calls Tryz.prog 161 #[.pointer (some ⟨g, 0, none⟩)] w fun e w' => e = .returned (.tuple #[]) ∧ HB w' g (Sx.block kk st blk 0) blk fill size ∧ w.grownBy w' (some g) := by
  have hg := H.lt
  go_enter Tryz.func161, Tryz.ntmps161
  go_wp2
  go_loopw [16] (fun i wr => ∃ k : Nat, k ≤ 16 ∧ i = .int .i64 k ∧ Below w.heap.size w wr ∧ W32 wr w.heap.size 206 (Sx.w16 blk 0 k ++ zeros (64 - k))) (fun i _ => (16 - intOf i).toNat)
  case atStart => exact ⟨0, by omega, rfl, (Below.refl _ _).alloc (Nat.le_refl _) _, (heap_alloc_new w _).trans (by rw [cells_zero]; rfl)⟩
  case round =>
    obtain ⟨k, hk, rfl, hb, hW⟩ := hrel
    by_cases hlt : k < 16
    · have HK := H.below hb
      have hl : (Sx.w16 blk 0 k ++ zeros (64 - k)).length = 64 := by rw [List.length_append, Sx.w16_len, zeros, List.length_replicate]; omega
      have b0 := HK.byte (i := 4 * k) (by omega)
      have b1 : wr.cell? ⟨g, 8 + 4 * k + 1, none⟩ = _ := HK.byte (i := 4 * k + 1) (by omega)
      have b2 : wr.cell? ⟨g, 8 + 4 * k + 2, none⟩ = _ := HK.byte (i := 4 * k + 2) (by omega)
      have b3 : wr.cell? ⟨g, 8 + 4 * k + 3, none⟩ = _ := HK.byte (i := 4 * k + 3) (by omega)
      have hs := slice_blk g (4 * k) (by omega) wr (4 * ↑k) (by omega)
      have i0 := idx_blk g (8 + 4 * k) (64 - 4 * k) (64 - 4 * k) 0 (by omega)
      have i1 := idx_blk g (8 + 4 * k) (64 - 4 * k) (64 - 4 * k) 1 (by omega)
      have i2 := idx_blk g (8 + 4 * k) (64 - 4 * k) (64 - 4 * k) 2 (by omega)
      have i3 := idx_blk g (8 + 4 * k) (64 - 4 * k) (64 - 4 * k) 3 (by omega)
      have iw := idx_w w.heap.size k (by omega) k rfl
      have cw := hW.cell (i := k) (by omega)
      have fw := hW.free k
      simp only [Int.ofNat_zero, Nat.add_zero, show ((0 : Nat) : Int) = 0 from rfl, show ((1 : Nat) : Int) = 1 from rfl, show ((2 : Nat) : Int) = 2 from rfl, show ((3 : Nat) : Int) = 3 from rfl] at i0 i1 i2 i3
      have hW' := Lib.hid hW
      have hl' := Lib.hid hl
      clear hW hl
      go_wp2
      go_still_tail 23, (by kernel_rfl)
      go_wp2
      go_roundw
      case rel =>
        refine ⟨k + 1, by omega, by go_num, (hb.setCell (Nat.le_refl _) _).drew, ?_⟩
        have h2 := hW'.out.set k (Sx.wd4 blk (4 * k))
        rw [set_next _ 64 k (Sx.w16_len _ _ _) (by omega), ← w16_succ] at h2
        exact h2
      case measure => simp [intOf]; omega
    · rw [show k = 16 by omega] at hW
      go_wp2
      clear hlt hk
      have hW' := Lib.hid hW
      clear hW
      go_loopw [5] (fun i wr => ∃ k : Nat, k ≤ 48 ∧ i = .int .i64 (16 + k) ∧ Below w.heap.size w wr ∧ W32 wr w.heap.size 206 (Sx.wext (Sx.w16 blk 0 16) k ++ zeros (64 - (16 + k)))) (fun i _ => (64 - intOf i).toNat)
      case atStart => exact ⟨0, by omega, rfl, hb, hW'.out⟩
      case round =>
        clear hW' hb
        obtain ⟨k, hk, rfl, hb, hW⟩ := hrel
        by_cases hlt : k < 48
        · have hl : (Sx.wext (Sx.w16 blk 0 16) k).length = 16 + k := by rw [Sx.wext_len, Sx.w16_len]
          have c1 := cellA hW (i := k + 1) (x := 16 + ↑k - 15) (by omega) (by omega)
          have c2 := cellA hW (i := 16 + k - 2) (x := 16 + ↑k - 2) (by omega) (by omega)
          have c3 := cellA hW (i := k) (x := 16 + ↑k - 16) (by omega) (by omega)
          have c4 := cellA hW (i := 16 + k - 7) (x := 16 + ↑k - 7) (by omega) (by omega)
          have i1 := idx_w w.heap.size (k + 1) (by omega) (16 + ↑k - 15) (by omega)
          have i2 := idx_w w.heap.size (16 + k - 2) (by omega) (16 + ↑k - 2) (by omega)
          have i3 := idx_w w.heap.size k (by omega) (16 + ↑k - 16) (by omega)
          have i4 := idx_w w.heap.size (16 + k - 7) (by omega) (16 + ↑k - 7) (by omega)
          have i5 := idx_w w.heap.size (16 + k) (by omega) (16 + ↑k) (by omega)
          have cw := hW.cell (i := 16 + k) (by rw [List.length_append, hl, zeros_len]; omega)
          have fw := hW.free (16 + k)
          have hW' := Lib.hid hW
          have hl' := Lib.hid hl
          clear hW hl
          go_wp2
          go_quiet (fail)
          go_wp2
          have hb' : Below w.heap.size w (wr.drewN nq) := hb.trans ⟨rfl, rfl, rfl, Nat.le_refl _, fun _ _ => rfl⟩
          replace hW' : Hid (W32 (wr.drewN nq) w.heap.size 206 (Sx.wext (Sx.w16 blk 0 16) k ++ zeros (64 - (16 + k)))) := Lib.hid (show W32 wr _ _ _ from hW'.out)
          have c3' : (wr.drewN nq).cell? _ = _ := c3
          have c4' : (wr.drewN nq).cell? _ = _ := c4
          have cw' : (wr.drewN nq).cell? _ = _ := cw
          have fw' : (wr.drewN nq).frozen? _ = _ := fw
          clear c1 c2 c3 c4 cw fw hb i1 i2
          generalize wr.drewN nq = W at *
          have r1 : IntKind.i64.wrap (16 + ↑k - 16) = 16 + ↑k - 16 := IntWalk.i64_in _ (by omega)
          have r2 : IntKind.i64.wrap (16 + ↑k - 7) = 16 + ↑k - 7 := IntWalk.i64_in _ (by omega)
          refine wp_region_still_tail 28 (by kernel_rfl) (by kernel_rfl) ?_
          simp only [List.take_succ_cons, List.take_zero, List.drop_succ_cons, List.drop_zero]
          repeat (first | still_step | still_call (rot_c _ _ (by decide) (by decide) _))
          try refine wpStill_nil ?_
          go_wp2
          go_roundw
          case rel =>
            refine ⟨k + 1, by omega, by go_num, (hb'.setCell (Nat.le_refl _) _).drew, ?_⟩
            have h2 := hW'.out.set (16 + k) (Sx.nx (Sx.wext (Sx.w16 blk 0 16) k) (16 + k))
            rw [set_next _ 64 (16 + k) hl'.out (by omega), ← wext_succ, ← nx_walk] at h2
            exact h2
          case measure => simp [intOf]; omega
        · rw [show k = 48 by omega] at hW
          have HK := H.below hb
          have w0 := HK.word (i := 0) (by omega)
          have w1 := HK.word (i := 1) (by omega)
          have w2 := HK.word (i := 2) (by omega)
          have w3 := HK.word (i := 3) (by omega)
          have w4 := HK.word (i := 4) (by omega)
          have w5 := HK.word (i := 5) (by omega)
          have w6 := HK.word (i := 6) (by omega)
          have w7 := HK.word (i := 7) (by omega)
          obtain ⟨tR, frR, hR'⟩ := hR
          have hRl : 3 < w.heap.size := (Array.getElem?_eq_some_iff.1 hR').1
          have hR2 := Lib.hid (show (wr.alloc (.cells #[.int .u32 (rd st 0), .int .u32 (rd st 1), .int .u32 (rd st 2), .int .u32 (rd st 3), .int .u32 (rd st 4), .int .u32 (rd st 5), .int .u32 (rd st 6), .int .u32 (rd st 7)] 196)).heap[3]? = _ from (heap_alloc_old _ _ (by have := hb.size; omega)).trans ((hb.block _ hRl).trans hR'))
          have hRi : (Tryz.prog.info? 206).map (·.size) = some (c32 kk).toArray.size := by
            rw [List.size_toArray, c32_len, hkk]; kernel_rfl
          have hRi' := Lib.hid hRi
          clear hRi hR'
          have hW' := Lib.hid hW
          have HK' := Lib.hid HK
          clear hW HK
          go_wp2_with (refine wpList_load_row rfl 206 (.global 3) rfl 3 rfl _ _ _ _ hR2.out Tryz.underlying206 rfl hRi'.out ?_)
          clear hlt hk
          clear hR2 hRi' w0 w1 w2 w3 w4 w5 w6 w7
          have hG1 : w.grownBy (wr.alloc (.cells #[.int .u32 (rd st 0), .int .u32 (rd st 1), .int .u32 (rd st 2), .int .u32 (rd st 3), .int .u32 (rd st 4), .int .u32 (rd st 5), .int .u32 (rd st 6), .int .u32 (rd st 7)] 196)) none := gb_of (hb.alloc hb.size _)
          have hS1 : S8 (wr.alloc (.cells #[.int .u32 (rd st 0), .int .u32 (rd st 1), .int .u32 (rd st 2), .int .u32 (rd st 3), .int .u32 (rd st 4), .int .u32 (rd st 5), .int .u32 (rd st 6), .int .u32 (rd st 7)] 196)) wr.heap.size (Sx.rnds kk (Sx.sched blk 0) (Sx.of8 st) 0) := heap_alloc_new _ _
          have hW1 : W32 (wr.alloc (.cells #[.int .u32 (rd st 0), .int .u32 (rd st 1), .int .u32 (rd st 2), .int .u32 (rd st 3), .int .u32 (rd st 4), .int .u32 (rd st 5), .int .u32 (rd st 6), .int .u32 (rd st 7)] 196)) w.heap.size 206 (Sx.sched blk 0) := (heap_alloc_old _ _ hW'.out.lt).trans (by have := hW'.out; rw [show zeros (64 - (16 + 48)) = [] from rfl, List.append_nil] at this; exact this)
          have hne : w.heap.size < wr.heap.size := hW'.out.lt
          have hG1 := Lib.hid hG1
          have hS1 := Lib.hid hS1
          have hW1 := Lib.hid hW1
          clear hW' HK' hb
          generalize wr.heap.size = B2 at *
          go_loopw [96] (fun i wr => ∃ k : Nat, k ≤ 64 ∧ i = .int .i64 k ∧ w.grownBy wr none ∧ S8 wr B2 (Sx.rnds kk (Sx.sched blk 0) (Sx.of8 st) k) ∧ W32 wr w.heap.size 206 (Sx.sched blk 0)) (fun i _ => (64 - intOf i).toNat)
          case atStart => exact ⟨0, by omega, rfl, hG1.out, hS1.out, hW1.out⟩
          case round =>
            clear hG1 hS1 hW1
            obtain ⟨k, hk, rfl, hG, hS, hW⟩ := hrel
            by_cases hlt : k < 64
            · have cw := hW.cell (i := k) (by rw [Sx.sched_len]; omega)
              have iw := idx_w w.heap.size k (by omega) k rfl
              have ix := idx_agg (T := 206) 64 Tryz.underlying206 kk hkk k hlt k rfl
              have hr : Sx.rnds kk (Sx.sched blk 0) (Sx.of8 st) (k + 1) = Sx.rnd (Sx.rnds kk (Sx.sched blk 0) (Sx.of8 st) k) (rd kk k) (rd (Sx.sched blk 0) k) := rfl
              generalize Sx.rnds kk (Sx.sched blk 0) (Sx.of8 st) k = s at *
              generalize hx : rd (Sx.sched blk 0) (k : Int) = wk at *
              generalize hy : rd kk (k : Int) = ck at *
              have p0 := hS.c0
              have p1 := hS.c1
              have p2 := hS.c2
              have p3 := hS.c3
              have p4 := hS.c4
              have p5 := hS.c5
              have p6 := hS.c6
              have p7 := hS.c7
              have q0 := hS.free 0
              have q1 := hS.free 1
              have q2 := hS.free 2
              have q3 := hS.free 3
              have q4 := hS.free 4
              have q5 := hS.free 5
              have q6 := hS.free 6
              have q7 := hS.free 7
              have hS' := Lib.hid hS
              have hW' := Lib.hid hW
              have hG' := Lib.hid hG
              have hr' := Lib.hid hr
              clear hS hW hG hr hx hy
              go_wp2
              go_quiet (fail)
              go_wp2
              go_quiet ((exact quiet_add (rot_c _ _ (by decide) (by decide))))
              go_wp2
              go_quiet ((exact quiet_add (rot_c _ _ (by decide) (by decide))))
              go_wp2
              go_roundw
              case rel =>
                have hlt2 : w.heap.size ≤ B2 := by omega
                refine ⟨k + 1, by omega, by go_num, ?_, ?_, ?_⟩
                · exact gb_set0 (gb_set0 (gb_set0 (gb_set0 (gb_set0 (gb_set0 (gb_set0 (gb_set0 (gb_drewN hG'.out _) hlt2 _ _) hlt2 _ _) hlt2 _ _) hlt2 _ _) hlt2 _ _) hlt2 _ _) hlt2 _ _) hlt2 _ _
                · rw [hr'.out, a_walk, e_walk]
                  exact S8_set (show S8 (wr.drewN _) B2 s from hS'.out) _ _ _ _ _ _ _ _
                · exact w32_far8 (show W32 (wr.drewN _) _ _ _ from hW'.out) (by omega) _ _ _ _ _ _ _ _
              case measure => simp [intOf]; omega
            · rw [show k = 64 by omega] at hS
              have hS' := Lib.hid hS
              clear hS hW
              have hG' := Lib.hid hG
              clear hG
              go_wp2
              clear hlt hk
              go_loopw [177] (fun i wr => ∃ k : Nat, k ≤ 8 ∧ i = .int .i64 k ∧ w.grownBy wr (some g) ∧ S8 wr B2 (Sx.rnds kk (Sx.sched blk 0) (Sx.of8 st) 64) ∧ HB wr g ((Sx.block kk st blk 0).take k ++ st.drop k) blk fill size) (fun i _ => (8 - intOf i).toNat)
              case atStart => exact ⟨0, by omega, rfl, gb_weak hG'.out _, hS'.out, H.kept hG'.out (by simp)⟩
              case round =>
                clear hG' hS'
                obtain ⟨k, hk, rfl, hG, hS, hH⟩ := hrel
                by_cases hlt : k < 8
                · have hl : ((Sx.block kk st blk 0).take k ++ st.drop k).length = 8 := hH.1
                  have cw := hH.word (i := k) hlt
                  rw [rd_mix _ _ _ (by rw [Sx.block_len]; omega)] at cw
                  have cs := (s8_w32 hS).cell (i := k) (by simpa [l8] using hlt)
                  have fw := hH.free k
                  have i1 := idx_8 g k hlt k rfl
                  have i2 := idx_8 B2 k hlt k rfl
                  have hv := block_rd kk st blk k hlt
                  have hH' := Lib.hid hH
                  have hS' := Lib.hid hS
                  have hG' := Lib.hid hG
                  have hv' := Lib.hid hv
                  have hl' := Lib.hid hl
                  clear hH hS hG hv hl
                  generalize hst : rd st (k : Int) = x at *
                  generalize hss : rd (l8 (Sx.rnds kk (Sx.sched blk 0) (Sx.of8 st) 64)) (k : Int) = y at *
                  clear hst hss
                  go_wp2
                  refine wp_region_still_tail 12 (by kernel_rfl) (by kernel_rfl) ?_
                  simp only [List.take_succ_cons, List.take_zero, List.drop_succ_cons, List.drop_zero]
                  repeat still_step
                  try refine wpStill_nil ?_
                  go_wp2
                  go_roundw
                  case rel =>
                    refine ⟨k + 1, by omega, by go_num, ?_, ?_, ?_⟩
                    · exact gb_drewN (gb_setR hG'.out _ _) 1
                    · exact (Below.heap_setCell _ _ _ _ (by simp; omega)).trans hS'.out
                    · have h2 := hH'.out.set_word hlt (rd (Sx.block kk st blk 0) k)
                      rw [set_mix _ _ _ (by rw [Sx.block_len]; omega) (by rw [H.1]; omega), hv'.out] at h2
                      exact h2
                  case measure => simp [intOf]; omega
                · rw [show k = 8 by omega] at hH
                  have hb8 := Lib.hid hH
                  have hG' := Lib.hid hG
                  clear hH hG
                  go_wp2
                  go_end0
                  refine ⟨rfl, ?_, hG'.out⟩
                  have h3 := hb8.out
                  rw [List.drop_eq_nil_of_le (by rw [H.1]; omega), List.append_nil, List.take_of_length_le (by rw [Sx.block_len]; omega)] at h3
                  exact h3
end Go.Proofs.YtgdcafbdkidamaaGreatDoor.K2
end
