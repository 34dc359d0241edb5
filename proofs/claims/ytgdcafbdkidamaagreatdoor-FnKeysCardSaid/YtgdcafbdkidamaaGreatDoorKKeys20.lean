/- What the proof of FnKeys leans on, part 20: cut out of the texts of this claim's making by a program (wip/tools/pack.py). -/
import Derived.Test.YtgdcafbdkidamaaGreatDoorKKeys10
import Derived.Test.YtgdcafbdkidamaaGreatDoorKKeys11
import Derived.Test.YtgdcafbdkidamaaGreatDoorKKeys12
import Derived.Test.YtgdcafbdkidamaaGreatDoorKKeys13
import Derived.Test.YtgdcafbdkidamaaGreatDoorKKeys19
import Derived.Deep.RegionHeld
import Derived.Lib.Hide
import Derived.LoopTactic
import Derived.Outline
import Derived.StillTailTactics
import Derived.WalkSpells
section
namespace Go.Proofs.YtgdcafbdkidamaaGreatDoor.K9
open Go Go.RowKit Go.Shelf Go.Proofs.YtgdcafbdkidamaaGreatDoorW.PrintWords Go.Proofs.YtgdcafbdkidamaaGreatDoorW.PrintLast Go.Proofs.YtgdcafbdkidamaaGreatDoorW.PrintMore Go.Proofs.YtgdcafbdkidamaaGreatDoor.K0 Go.Proofs.YtgdcafbdkidamaaGreatDoor.K2 Go.Proofs.YtgdcafbdkidamaaGreatDoor.K3 Go.Proofs.YtgdcafbdkidamaaGreatDoor.K4 Go.Proofs.YtgdcafbdkidamaaGreatDoor.K5 Go.Proofs.YtgdcafbdkidamaaGreatDoor.K6 Go.Proofs.YtgdcafbdkidamaaGreatDoor.K8 Go.Proofs.YtgdcafbdkidamaaGreatDoor.Kp
set_option linter.unusedVariables false
set_option linter.unusedSimpArgs false
/-- a box of one value -/
def One (w : World) (b : Nat) (T : TypeId) (v : Value) : Prop := w.heap[b]? = some (.cells #[v] T (0, 0))
theorem One.lt {w : World} {b : Nat} {T : TypeId} {v : Value} (h : One w b T v) : b < w.heap.size := (Array.getElem?_eq_some_iff.1 h).1
theorem One.cell {w : World} {b : Nat} {T : TypeId} {v : Value} (h : One w b T v) : w.cell? ⟨b, 0, none⟩ = some v := (cell_of_row w b 0 _ _ _ h).trans rfl
theorem One.free {w : World} {b : Nat} {T : TypeId} {v : Value} (h : One w b T v) : w.frozen? ⟨b, 0, none⟩ = false := frozen_of_row w b 0 _ _ h
theorem One.kept {w w' : World} {b : Nat} {T : TypeId} {v : Value} (h : One w b T v) {row : Option Nat} (hg : w.grownBy w' row) (hne : some b ≠ row) : One w' b T v := (hg.block b h.lt hne).trans h
theorem One.far {w : World} {b : Nat} {T : TypeId} {v : Value} (h : One w b T v) {p : Addr} (hp : b ≠ p.block) (u : Value) : One (w.setCell p u) b T v := (Below.heap_setCell _ _ _ _ hp).trans h
theorem One.set {w : World} {b : Nat} {T : TypeId} {v : Value} (h : One w b T v) (u : Value) : One (w.setCell ⟨b, 0, none⟩ u) b T u := by
  have := heap_setCell_same w b 0 _ T u h
  unfold One; rw [this]; rfl
/-- two old blocks may have changed -/
structure G2 (w w' : World) (a b : Nat) : Prop where
  os : w'.os = w.os
  tape : w'.tape = w.tape
  output : w'.output = w.output
  size : w.heap.size ≤ w'.heap.size
  block : ∀ k, k < w.heap.size → k ≠ a → k ≠ b → w'.heap[k]? = w.heap[k]?
theorem G2.rf (w : World) (a b : Nat) : G2 w w a b := ⟨rfl, rfl, rfl, Nat.le_refl _, fun _ _ _ _ => rfl⟩
theorem G2.grown {w W W' : World} {a b : Nat} (h : G2 w W a b) {row : Option Nat} (hg : W.grownBy W' row) (hr : ∀ k, row = some k → k = a ∨ k = b ∨ w.heap.size ≤ k) : G2 w W' a b :=
  ⟨hg.os.trans h.os, hg.tape.trans h.tape, hg.output.trans h.output, Nat.le_trans h.size hg.size, fun k hk h1 h2 => (hg.block k (Nat.lt_of_lt_of_le hk h.size) (fun e => by rcases hr k e.symm with r | r | r <;> omega)).trans (h.block k hk h1 h2)⟩
theorem G2.set {w W : World} {a b : Nat} (h : G2 w W a b) {p : Addr} (hp : p.block = a ∨ p.block = b ∨ w.heap.size ≤ p.block) (v : Value) : G2 w (W.setCell p v) a b :=
  ⟨h.os, h.tape, h.output, by simpa [World.setCell] using h.size, fun k hk h1 h2 => (Below.heap_setCell _ _ _ _ (by rcases hp with r | r | r <;> omega)).trans (h.block k hk h1 h2)⟩
theorem G2.drew {w W : World} {a b : Nat} (h : G2 w W a b) : G2 w W.drew a b := ⟨h.os, h.tape, h.output, h.size, h.block⟩
theorem One.g2 {w w' : World} {x : Nat} {T : TypeId} {v : Value} (h : One w x T v) {a b : Nat} (hg : G2 w w' a b) (h1 : x ≠ a) (h2 : x ≠ b) : One w' x T v := (hg.block x h.lt h1 h2).trans h
theorem Rw_g2 {kk : List Int} {w w' : World} (hR : Rw kk w) {a b : Nat} (hg : G2 w w' a b) (h1 : 3 ≠ a) (h2 : 3 ≠ b) : Rw kk w' := by
  obtain ⟨t, fr, e⟩ := hR
  exact ⟨t, fr, (hg.block _ (Array.getElem?_eq_some_iff.1 e).1 h1 h2).trans e⟩

theorem Rw_al {kk : List Int} {w : World} (h : Rw kk w) (o : Obj) : Rw kk (w.alloc o) := Rw_kept h (World.grownBy_alloc w o none) (by simp)
theorem Rw_dr {kk : List Int} {w : World} (h : Rw kk w) : Rw kk w.drew := h
/-- a box of bytes, of type T -/
def Yb (w : World) (g : Nat) (T : TypeId) (l : List Int) : Prop := w.heap[g]? = some (.cells (c8 l).toArray T (0, 0))
theorem Yb.lt {w : World} {g : Nat} {T : TypeId} {l : List Int} (h : Yb w g T l) : g < w.heap.size := (Array.getElem?_eq_some_iff.1 h).1
theorem Yb.cell {w : World} {g : Nat} {T : TypeId} {l : List Int} (h : Yb w g T l) {i : Nat} (hi : i < l.length) : w.cell? ⟨g, i, none⟩ = some (.int .u8 (rd l i)) := by
  rw [cell_of_row w g i _ _ _ h, List.getElem?_toArray, c8_get hi]
theorem Yb.free {w : World} {g : Nat} {T : TypeId} {l : List Int} (h : Yb w g T l) (i : Nat) : w.frozen? ⟨g, i, none⟩ = false := frozen_of_row w g i _ _ h
theorem Yb.set {w : World} {g : Nat} {T : TypeId} {l : List Int} (h : Yb w g T l) (i : Nat) (x : Int) : Yb (w.setCell ⟨g, i, none⟩ (.int .u8 x)) g T (l.set i x) := by
  have := heap_setCell_same w g i _ T (.int .u8 x) h
  unfold Yb; rw [this, ← c8_set]; simp
theorem Yb.kept {w w' : World} {g : Nat} {T : TypeId} {l : List Int} (h : Yb w g T l) {row : Option Nat} (hg : w.grownBy w' row) (hne : some g ≠ row) : Yb w' g T l := (hg.block g h.lt hne).trans h
theorem Yb.str {w : World} {g : Nat} {T : TypeId} {l : List Int} (h : Yb w g T l) (n : Nat) (hn : l.length = n) (hm : n ≤ maxLen) : (convert 46 9 (.slice (some ⟨g, 0, none⟩) n n)).run Tryz.prog w = .ok (.string (strOfNums l)) w :=
  own_string (P := Tryz.prog) (base := 0) (n := n) Tryz.underlying46 Tryz.underlying5 Tryz.underlying9 (xs := l)
    ⟨by rw [nums, List.length_map, hn]; omega, .inr ⟨g, n, _, rfl, Nat.zero_le _, h, Nat.le_refl _, hm, by rw [List.size_toArray, c8_len, hn]; omega, by
      rw [Nat.mul_one, List.take_of_length_le (by show (c8 l).length ≤ n; rw [c8_len, hn]; exact Nat.le_refl _)]; rfl⟩⟩

/-- bytes of two texts, one with the other -/
def xr (a b : List Int) : Nat → List Int
  | 0 => []
  | n + 1 => xr a b n ++ [Go.bits .xor .u8 (rd a n) (rd b n)]
theorem xr_len (a b : List Int) : ∀ n, (xr a b n).length = n
  | 0 => rfl
  | n + 1 => by rw [xr, List.length_append, xr_len a b n]; rfl
theorem idx_str (s : ByteArray) (k : Nat) (h : k < s.size) (w : World) : (Instr.index 9 (.string s) (.int .i64 k)).run Tryz.prog w = .ok (.int .u8 (rd (sb s) k)) w := by
  have hl : k < (sb s).length := by rw [sb_len]; exact h
  have e : rd (sb s) k = ((s[k]'h).toNat : Int) := by
    unfold rd
    rw [Int.toNat_natCast, List.getD_eq_getElem?_getD, List.getElem?_eq_getElem hl]
    simp [sb]; rfl
  rw [e]
  simp [Instr.index, asIntOf, run_underlying Tryz.underlying9, h]
set_option maxRecDepth 100000 in
theorem idx_m (g : Nat) (j : Nat) (h : j < 32) (w : World) : (Instr.indexAt 214 (.pointer (some ⟨g, 0, none⟩)) (.int .i64 j)).run Tryz.prog w = .ok (.pointer (some ⟨g, j, none⟩)) w := by
  have hu := Tryz.underlying214
  have e : Tryz.prog.arrayLen 214 = 32 := by kernel_rfl
  rw [run_indexAt_array w 214 ⟨g, 0, none⟩ .i64 j hu, e, if_pos (by omega)]
  have es : ∀ w, (sizeOf (Tryz.prog.elem 214)).run Tryz.prog w = .ok 1 w := fun w => by kernel_rfl
  rw [es]
  simp only [Result.andThen, Int.toNat_natCast]
  rw [Addr.add_lit, Nat.mul_one, Nat.zero_add]
/-- the next block -/
def nxt (kk : List Int) (b0 t last : ByteArray) (i : Int) : ByteArray := sha kk [strOfNums (xr (sb b0) (sb last) 32), strOfNums [i], t]

theorem yb_far {w : World} {g : Nat} {T : TypeId} {l : List Int} (h : Yb w g T l) {p : Addr} (hp : g ≠ p.block) (v : Value) : Yb (w.setCell p v) g T l := (Below.heap_setCell _ _ _ _ hp).trans h
theorem yb_alloc {w : World} {g : Nat} {T : TypeId} {l : List Int} {o : Obj} (h : Yb w g T l) : Yb (w.alloc o) g T l := h.kept (World.grownBy_alloc w o none) (by simp)
theorem one_drew {w : World} {b : Nat} {T : TypeId} {v : Value} (h : One w b T v) : One w.drew b T v := h
/-- what the closure's loop keeps -/
structure CI (w wr : World) (bi b0 bl bt gm : Nat) (i : Int) (s0 last t : ByteArray) (m : List Int) : Prop where
  hi : One wr bi 5 (.int .u8 i)
  h0 : One wr b0 9 (.string s0)
  hl : One wr bl 9 (.string last)
  ht : One wr bt 9 (.string t)
  hm : Yb wr gm 214 m
  hg : G2 w wr bi bl
theorem CI.drewN {w wr : World} {bi b0 bl bt gm : Nat} {i : Int} {s0 last t : ByteArray} {m : List Int} (h : CI w wr bi b0 bl bt gm i s0 last t m) (n : Nat) : CI w (wr.drewN n) bi b0 bl bt gm i s0 last t m :=
  ⟨h.hi, h.h0, h.hl, h.ht, h.hm, ⟨h.hg.os, h.hg.tape, h.hg.output, h.hg.size, h.hg.block⟩⟩
theorem CI.setM {w wr : World} {bi b0 bl bt gm : Nat} {i : Int} {s0 last t : ByteArray} {m : List Int} (h : CI w wr bi b0 bl bt gm i s0 last t m) (k1 : bi ≠ gm) (k2 : b0 ≠ gm) (k3 : bl ≠ gm) (k4 : bt ≠ gm) (k5 : w.heap.size ≤ gm) (j : Nat) (x : Int) :
    CI w (wr.setCell ⟨gm, j, none⟩ (.int .u8 x)) bi b0 bl bt gm i s0 last t (m.set j x) :=
  ⟨h.hi.far k1 _, h.h0.far k2 _, h.hl.far k3 _, h.ht.far k4 _, h.hm.set j x, h.hg.set (.inr (.inr k5)) _⟩
theorem CI.kept {w wr w' : World} {bi b0 bl bt gm : Nat} {i : Int} {s0 last t : ByteArray} {m : List Int} (h : CI w wr bi b0 bl bt gm i s0 last t m) (hg : wr.grownBy w' none) : CI w w' bi b0 bl bt gm i s0 last t m :=
  ⟨h.hi.kept hg (by simp), h.h0.kept hg (by simp), h.hl.kept hg (by simp), h.ht.kept hg (by simp), h.hm.kept hg (by simp), h.hg.grown hg (by simp)⟩
theorem CI.al {w wr : World} {bi b0 bl bt gm : Nat} {i : Int} {s0 last t : ByteArray} {m : List Int} (h : CI w wr bi b0 bl bt gm i s0 last t m) (o : Obj) : CI w (wr.alloc o) bi b0 bl bt gm i s0 last t m := h.kept (World.grownBy_alloc wr o none)
theorem CI.dr {w wr : World} {bi b0 bl bt gm : Nat} {i : Int} {s0 last t : ByteArray} {m : List Int} (h : CI w wr bi b0 bl bt gm i s0 last t m) : CI w wr.drew bi b0 bl bt gm i s0 last t m := h.drewN 1
set_option maxRecDepth 100000 in
set_option maxHeartbeats 4000000 in
theorem next_c (kk : List Int) (hkk : kk.length = 64) (w : World) (bi b0 bl bt : Nat) (i : Int) (s0 last t : ByteArray) (hR : Rw kk w)
    (hi : One w bi 5 (.int .u8 i)) (h0 : One w b0 9 (.string s0)) (hl : One w bl 9 (.string last)) (ht : One w bt 9 (.string t))
    (n1 : bi ≠ b0) (n2 : bi ≠ bl) (n3 : bi ≠ bt) (n4 : bl ≠ b0) (n5 : bl ≠ bt) (z0 : s0.size = 32) (zl : last.size = 32) (zt : t.size ≤ 1000) (r1 : 3 ≠ bi) (r2 : 3 ≠ bl) :
    Calls Tryz.prog 181 #[.pointer (some ⟨bi, 0, none⟩), .pointer (some ⟨b0, 0, none⟩), .pointer (some ⟨bl, 0, none⟩), .pointer (some ⟨bt, 0, none⟩)] w fun e w' =>
      e = .returned (.string (nxt kk s0 t last ((i + 1) % 256))) ∧ One w' bi 5 (.int .u8 ((i + 1) % 256)) ∧ One w' bl 9 (.string (nxt kk s0 t last ((i + 1) % 256))) ∧ G2 w w' bi bl := by
  have ci := hi.cell
  have fi := hi.free
  have hi' := Lib.hid hi
  have h0' := Lib.hid h0
  have hl' := Lib.hid hl
  have ht' := Lib.hid ht
  have hR' := Lib.hid hR
  have li := hi.lt
  have l0 := h0.lt
  have ll := hl.lt
  have lt := ht.lt
  clear hi h0 hl ht hR
  go_enter Tryz.func181, Tryz.ntmps181
  go_wp2_with fail
  have hC0 := Lib.hid (show CI w ((w.setCell ⟨bi, 0, none⟩ (.int .u8 ((i + 1) % 256))).alloc (.cells (c8 (zeros 32)).toArray 214 (0, 0))) bi b0 bl bt w.heap.size ((i + 1) % 256) s0 last t (xr (sb s0) (sb last) 0 ++ zeros (32 - 0)) from by
    have ka : ∀ (W : World) (o : Obj), W.grownBy (W.alloc o) none := fun W o => World.grownBy_alloc W o none
    refine ⟨(hi'.out.set _).kept (ka _ _) (by simp), (h0'.out.far (by simpa using Ne.symm n1) _).kept (ka _ _) (by simp), (hl'.out.far (by simpa using Ne.symm n2) _).kept (ka _ _) (by simp), (ht'.out.far (by simpa using Ne.symm n3) _).kept (ka _ _) (by simp), ?_, ((G2.rf w bi bl).set (.inl rfl) _).grown (ka _ _) (by simp)⟩
    have := heap_alloc_new (w.setCell ⟨bi, 0, none⟩ (.int .u8 ((i + 1) % 256))) (.cells (c8 (zeros 32)).toArray 214 (0, 0))
    rwa [show (w.setCell ⟨bi, 0, none⟩ (.int .u8 ((i + 1) % 256))).heap.size = w.heap.size by simp [World.setCell]] at this)
  clear ci fi
  generalize hi2 : (i + 1) % 256 = i2 at *
  have hi2' := Lib.hid hi2
  clear hi2
  go_loopw [9] (fun v wr => ∃ k : Nat, k ≤ 32 ∧ v = .int .i64 k ∧ CI w wr bi b0 bl bt w.heap.size i2 s0 last t (xr (sb s0) (sb last) k ++ zeros (32 - k))) (fun v _ => (32 - intOf v).toNat)
  case atStart => exact ⟨0, by omega, rfl, hC0.out⟩
  case round =>
    clear hC0
    obtain ⟨k, hk, rfl, hC⟩ := hrel
    have hC' := Lib.hid hC
    by_cases hlt : k < 32
    · have c0 := hC.h0.cell
      have cl := hC.hl.cell
      have x0 := idx_str s0 k (by omega)
      have xl := idx_str last k (by omega)
      have im := idx_m w.heap.size k hlt
      have cm := hC.hm.cell (i := k) (by rw [List.length_append, xr_len, zeros_len]; omega)
      have fm := hC.hm.free k
      clear hC
      go_wp2_with fail
      go_still_tail 8, (by kernel_rfl)
      go_wp2_with fail
      go_roundw
      case rel =>
        refine ⟨k + 1, by omega, by go_num, ?_⟩
        have h2 := (hC'.out.setM (by omega) (by omega) (by omega) (by omega) (Nat.le_refl _) k (Go.bits .xor .u8 (rd (sb s0) k) (rd (sb last) k))).drewN 1
        rw [set_next _ 32 k (xr_len _ _ _) (by omega)] at h2
        exact h2
      case measure => simp [intOf]; omega
    · rw [show k = 32 by omega, show zeros (32 - 32) = [] from rfl, List.append_nil] at hC
      have hC2 := Lib.hid hC
      have ci := hC.hi.cell
      have ct := hC.ht.cell
      have cl := hC.hl.cell
      have fl := hC.hl.free
      have hY := Lib.hid hC.hm
      have hRr := Lib.hid (Rw_g2 hR'.out hC.hg r1 r2)
      have hcm := hC.hm.str 32 (xr_len _ _ _) (by unfold maxLen; decide)
      have hcm0 : (convert 46 9 (.slice (some ⟨w.heap.size, 0, none⟩) 32 32)).run Tryz.prog wr.drew = .ok (.string (strOfNums (xr (sb s0) (sb last) 32))) wr.drew := Yb.str (w := wr.drew) hC.hm 32 (xr_len _ _ _) (by unfold maxLen; decide)
      have hcm1 : ∀ o, (convert 46 9 (.slice (some ⟨w.heap.size, 0, none⟩) 32 32)).run Tryz.prog (wr.alloc o).drew = .ok (.string (strOfNums (xr (sb s0) (sb last) 32))) (wr.alloc o).drew := fun o => Yb.str (w := (wr.alloc o).drew) (yb_alloc hC.hm) 32 (xr_len _ _ _) (by unfold maxLen; decide)
      have hcm2 : ∀ o o', (convert 46 9 (.slice (some ⟨w.heap.size, 0, none⟩) 32 32)).run Tryz.prog ((wr.alloc o).alloc o').drew = .ok (.string (strOfNums (xr (sb s0) (sb last) 32))) ((wr.alloc o).alloc o').drew := fun o o' => Yb.str (w := ((wr.alloc o).alloc o').drew) (yb_alloc (yb_alloc hC.hm)) 32 (xr_len _ _ _) (by unfold maxLen; decide)
      have fl1 : ∀ o, (wr.alloc o).drew.frozen? ⟨bl, 0, none⟩ = false := fun o => One.free (w := (wr.alloc o).drew) (one_drew (hC.hl.kept (World.grownBy_alloc wr o none) (by simp)))
      have fl2 : ∀ o o', ((wr.alloc o).alloc o').drew.frozen? ⟨bl, 0, none⟩ = false := fun o o' => One.free (w := ((wr.alloc o).alloc o').drew) (one_drew ((hC.hl.kept (World.grownBy_alloc wr o none) (by simp)).kept (World.grownBy_alloc _ o' none) (by simp)))
      have hsz := hC.hg.size
      have hmz : (strOfNums (xr (sb s0) (sb last) 32)).size = 32 := by show (List.toArray _).size = _; simp [xr_len]
      have htot : tot [strOfNums (xr (sb s0) (sb last) 32), strOfNums [i2], t] < 1152921504606846976 := by
        have e1 : (strOfNums [i2]).size = 1 := rfl
        simp only [tot, List.map_cons, List.map_nil, List.sum_cons, List.sum_nil, e1, hmz]; omega
      have htot' := Lib.hid htot
      have hs1 : (convert 46 9 (.slice (some ⟨wr.heap.size, 0, none⟩) 1 1)).run Tryz.prog (wr.alloc (.cells #[.int .u8 i2] 5 (0, 0))).drew = .ok (.string (strOfNums [i2])) (wr.alloc (.cells #[.int .u8 i2] 5 (0, 0))).drew := str1 wr.drew i2
      clear hC' hC htot hmz
      generalize hm : strOfNums (xr (sb s0) (sb last) 32) = m at *
      have hm' := Lib.hid hm
      clear hm
      go_wp2_with fail
      have hcall := Lib.hid (hashOf_c kk hkk (wr.heap.size + 1) [m, strOfNums [i2], t] 3 ((wr.alloc (.cells #[.int .u8 i2] 5 (0, 0))).alloc (.cells #[.string m, .string (strOfNums [i2]), .string t] 9 (0, 0))).drew htot'.out (by simp)
        (Rw_dr (Rw_al (Rw_al hRr.out _) _))
        ⟨9, (0, 0), show ((wr.alloc (.cells #[.int .u8 i2] 5 (0, 0))).alloc (.cells #[.string m, .string (strOfNums [i2]), .string t] 9 (0, 0))).drew.heap[wr.heap.size + 1]? = _ from heap_alloc2_new wr _ _⟩)
      go_region_held (fun w' => w'.cell? ⟨bi, 0, none⟩ = some (.int .u8 i2) ∧ w'.cell? ⟨bt, 0, none⟩ = some (.string t) ∧ (w'.cell? ⟨bl, 0, none⟩).isSome = true ∧ w'.frozen? ⟨bl, 0, none⟩ = false ∧ (convert 46 9 (.slice (some ⟨w.heap.size, 0, none⟩) 32 32)).run Tryz.prog w' = .ok (.string m) w')
        (first | go_keep | (go_split_ands; refine ⟨?_, ?_, ?_, ?_, ?_⟩ <;> assumption))
        ((go_at_call 103; refine hcall.out.mono ?_; rintro e w2 ⟨rfl, hb2⟩; have hC4 := ((((hC2.out.al (.cells #[.int .u8 i2] 5 (0, 0))).al (.cells #[.string m, .string (strOfNums [i2]), .string t] 9 (0, 0))).dr).kept (gb_of hb2)); have ci4 := hC4.hi.cell; have ct4 := hC4.ht.cell; have cl4 := hC4.hl.cell; have fl4 := hC4.hl.free; have hcm4 := hC4.hm.str 32 (xr_len _ _ _) (by unfold maxLen; decide); rw [hm'.out] at hcm4; have ci5 : ∀ v, (w2.setCell ⟨bl, 0, none⟩ v).cell? ⟨bi, 0, none⟩ = some (.int .u8 i2) := (fun v => (hC4.hi.far (p := ⟨bl, 0, none⟩) n2 v).cell); have ct5 : ∀ v, (w2.setCell ⟨bl, 0, none⟩ v).cell? ⟨bt, 0, none⟩ = some (.string t) := (fun v => (hC4.ht.far (p := ⟨bl, 0, none⟩) (Ne.symm n5) v).cell); have cl5 : ∀ v, ((w2.setCell ⟨bl, 0, none⟩ v).cell? ⟨bl, 0, none⟩).isSome = true := (fun v => by rw [(hC4.hl.set v).cell]; rfl); have fl5 : ∀ v, (w2.setCell ⟨bl, 0, none⟩ v).frozen? ⟨bl, 0, none⟩ = false := (fun v => (hC4.hl.set v).free); have hcm5 : ∀ v, (convert 46 9 (.slice (some ⟨w.heap.size, 0, none⟩) 32 32)).run Tryz.prog (w2.setCell ⟨bl, 0, none⟩ v) = .ok (.string m) (w2.setCell ⟨bl, 0, none⟩ v) := (fun v => hm'.out ▸ Yb.str (w := w2.setCell ⟨bl, 0, none⟩ v) (yb_far hC4.hm (p := ⟨bl, 0, none⟩) (by simp; omega) v) 32 (xr_len _ _ _) (by unfold maxLen; decide)); have hC4' := Lib.hid hC4; clear hb2 hC4))
      clear hcm hcm0 hcm1 hcm2 fl1 fl2 hs1
      go_wp2_with fail
      go_ret
      have hnx : nxt kk s0 t last ((i + 1) % 256) = sha kk [m, strOfNums [i2], t] := by unfold nxt; rw [hm'.out, hi2'.out]
      rw [hnx, hi2'.out]
      exact ⟨rfl, hC4'.out.hi.far n2 _, hC4'.out.hl.set _, hC4'.out.hg.set (.inr (.inl rfl)) _⟩
end Go.Proofs.YtgdcafbdkidamaaGreatDoor.K9
end
section
namespace Go.Proofs.YtgdcafbdkidamaaGreatDoor.K9
open Go Go.RowKit Go.Shelf Go.Proofs.YtgdcafbdkidamaaGreatDoorW.PrintWords Go.Proofs.YtgdcafbdkidamaaGreatDoorW.PrintLast Go.Proofs.YtgdcafbdkidamaaGreatDoorW.PrintMore Go.Proofs.YtgdcafbdkidamaaGreatDoor.K0 Go.Proofs.YtgdcafbdkidamaaGreatDoor.K2 Go.Proofs.YtgdcafbdkidamaaGreatDoor.K3 Go.Proofs.YtgdcafbdkidamaaGreatDoor.K4 Go.Proofs.YtgdcafbdkidamaaGreatDoor.K5 Go.Proofs.YtgdcafbdkidamaaGreatDoor.K6 Go.Proofs.YtgdcafbdkidamaaGreatDoor.K8 Go.Proofs.YtgdcafbdkidamaaGreatDoor.Kp Go.Proofs.YtgdcafbdkidamaaGreatDoor.B
set_option linter.unusedVariables false
set_option linter.unusedSimpArgs false
def b2 (x : Int) : List Int := [x / 256 % 256, x % 256]
theorem be2 (a : Int) : impl_bigEndian.f 20 a 2 = some (strOfNums (b2 a)) := by
  simp [impl_bigEndian.f, impl_bigEndian.l0, wrap64, List.replicate_succ, b2, shr, IntKind.bits]
theorem be2_c (a : Int) (w : World) : Calls Tryz.prog 105 #[.int .u64 a, .int .i64 2] w fun e w' => e = .returned (.string (strOfNums (b2 a))) ∧ Below w.heap.size w w' := impl_bigEndian.calls 20 a 2 _ w (be2 a)
/-- the tag with its size; the first block -/
def tagT (tag : ByteArray) : ByteArray := tag ++ strOfNums [(tag.size : Int)]
def fst0 (kk : List Int) (msg tag : ByteArray) (n : Nat) : ByteArray := sha kk [zs 64, msg, strOfNums (b2 (n : Int)), ⟨#[0]⟩, tagT tag]
theorem tagT_size (tag : ByteArray) : (tagT tag).size = tag.size + 1 := by rw [← sb_len, tagT, sb_app, List.length_append, sb_len, sb_len]; rfl

/-- what the closure has caught -/
structure CL (w wr : World) (bi b0 bl bt : Nat) (i : Int) (s0 last t : ByteArray) : Prop where
  hi : One wr bi 5 (.int .u8 i)
  h0 : One wr b0 9 (.string s0)
  hl : One wr bl 9 (.string last)
  ht : One wr bt 9 (.string t)
  n1 : bi ≠ b0
  n2 : bi ≠ bl
  n3 : bi ≠ bt
  n4 : bl ≠ b0
  n5 : bl ≠ bt
  li : w.heap.size ≤ bi
  ll : w.heap.size ≤ bl
  hb : Below w.heap.size w wr

/-- what the blocks' maker keeps -/
structure BS (kk : List Int) (w W : World) (bt : Nat) (t : ByteArray) : Prop where
  hR : Rw kk W
  ht : One W bt 9 (.string t)
  hb : Below w.heap.size w W
  hl : w.heap.size ≤ W.heap.size
theorem sz_alloc (w : World) (o : Obj) : (w.alloc o).heap.size = w.heap.size + 1 := by simp
theorem sz_drew (w : World) : w.drew.heap.size = w.heap.size := rfl
theorem one_al {w : World} {b : Nat} {T : TypeId} {v : Value} (h : One w b T v) (o : Obj) : One (w.alloc o) b T v := h.kept (World.grownBy_alloc w o none) (by simp)
theorem one_call {w w' : World} {b : Nat} {T : TypeId} {v : Value} (h : One w b T v) (hb : Below w.heap.size w w') : One w' b T v := h.kept (gb_of hb) (by simp)
theorem one_new (w : World) (T : TypeId) (v : Value) : One (w.alloc (.cells #[v] T (0, 0))) w.heap.size T v := heap_alloc_new w _
theorem BS.al {kk : List Int} {w W : World} {bt : Nat} {t : ByteArray} (h : BS kk w W bt t) (o : Obj) : BS kk w (W.alloc o) bt t :=
  ⟨Rw_al h.hR o, one_al h.ht o, h.hb.alloc h.hl o, by have := h.hl; simp; omega⟩
theorem BS.dr {kk : List Int} {w W : World} {bt : Nat} {t : ByteArray} (h : BS kk w W bt t) : BS kk w W.drew bt t := ⟨h.hR, h.ht, h.hb.drew, h.hl⟩
theorem BS.call {kk : List Int} {w W W' : World} {bt : Nat} {t : ByteArray} (h : BS kk w W bt t) (hb : Below W.heap.size W W') : BS kk w W' bt t :=
  ⟨Rw_kept h.hR (gb_of hb) (by simp), one_call h.ht hb, h.hb.trans (hb.mono h.hl), Nat.le_trans h.hl hb.size⟩
theorem BS.set {kk : List Int} {w W : World} {bt : Nat} {t : ByteArray} (h : BS kk w W bt t) {b : Nat} (hb : w.heap.size ≤ b) (hn : bt ≠ b) (hr : 3 ≠ b) (v : Value) : BS kk w (W.setCell ⟨b, 0, none⟩ v) bt t :=
  ⟨(by obtain ⟨t, fr, e⟩ := h.hR; exact ⟨t, fr, (Below.heap_setCell _ _ _ _ hr).trans e⟩), h.ht.far hn v, h.hb.setCell hb v, by have := h.hl; simpa [World.setCell] using this⟩
set_option maxRecDepth 100000 in
set_option maxHeartbeats 8000000 in
theorem blocks_c (kk : List Int) (hkk : kk.length = 64) (msg tag : ByteArray) (n : Nat) (hn : n ≤ 8160) (hm : msg.size ≤ 65535) (ht : tag.size ≤ 255) (w : World) (hR : Rw kk w) :
    Calls Tryz.prog 172 #[.string msg, .string tag, .int .i64 n] w fun e w' => ∃ bi b0 bl bt : Nat, e = .returned (.func (.func 181) #[] #[.pointer (some ⟨bi, 0, none⟩), .pointer (some ⟨b0, 0, none⟩), .pointer (some ⟨bl, 0, none⟩), .pointer (some ⟨bt, 0, none⟩)]) ∧
      CL w w' bi b0 bl bt 0 (fst0 kk msg tag n) (zs 32) (tagT tag) := by
  have hR' := Lib.hid hR
  have hs1 := str1 w (tag.size : Int)
  have hcat : (9223372036854775807 < tag.size + (strOfNums [(tag.size : Int)]).size) = False := eq_false (by show ¬ 9223372036854775807 < tag.size + 1; omega)
  have hn2 : (n : Int) ≤ 8160 := by omega
  have ht2 : (tag.size : Int) ≤ 255 := by omega
  have hrw : 3 < w.heap.size := by obtain ⟨t, fr, e⟩ := hR; exact (Array.getElem?_eq_some_iff.1 e).1
  have hw64 : IntKind.u64.wrap (n : Int) = n := by rw [IntKind.wrap]; simp [IntKind.bits]; omega
  clear hR
  go_enter Tryz.func172, Tryz.ntmps172
  go_wp2_with fail
  have hS' := Lib.hid (show BS kk w (((w.alloc (.cells #[.int .u8 (tag.size : Int)] 5 (0, 0))).alloc (.cells #[.string (tag ++ strOfNums [(tag.size : Int)])] 9 (0, 0)))) (w.heap.size + 1) (tagT tag) from ⟨Rw_al (Rw_al hR'.out _) _, heap_alloc2_new w _ _, ((Below.refl _ w).alloc (Nat.le_refl _) _).alloc (by simp) _, by simp; omega⟩)
  have ct := hS'.out.ht.cell
  rw [show tag ++ strOfNums [(tag.size : Int)] = tagT tag from rfl] at *
  have htot : tot [zs 64, msg, strOfNums (b2 (n : Int)), ⟨#[0]⟩, tagT tag] < 1152921504606846976 := by
    have e1 : (strOfNums (b2 (n : Int))).size = 2 := rfl
    have e2 : (zs 64).size = 64 := by decide +kernel
    have e3 : (⟨#[0]⟩ : ByteArray).size = 1 := rfl
    simp only [tot, List.map_cons, List.map_nil, List.sum_cons, List.sum_nil, e1, e2, e3, tagT_size]; omega
  have htot' := Lib.hid htot
  clear htot hcat hs1
  generalize htt : tagT tag = tT at *
  go_region_held (fun w' => w'.cell? ⟨w.heap.size + 1, 0, none⟩ = some (.string tT)) (go_keep) ((first
    | (go_at_call 156; refine (zs_c 64 (by decide) _).mono ?_; rintro e w1 ⟨rfl, hb1⟩; (try have hB' := Lib.hid (one_call (show One _ _ 9 (.string ⟨#[]⟩) from by first | with_reducible exact one_new _ _ _ | with_reducible exact hB'.out | with_reducible exact one_al hB'.out _ | with_reducible exact one_al (one_new _ _ _) _ | with_reducible exact one_drew (one_new _ _ _)) hb1)); have hS' := Lib.hid ((show BS kk w _ (w.heap.size + 1) tT from by first | with_reducible exact hS'.out | with_reducible exact BS.al hS'.out _ | with_reducible exact BS.dr hS'.out | with_reducible exact BS.al (BS.al hS'.out _) _ | with_reducible exact BS.dr (BS.al hS'.out _)).call hb1); have ct := hS'.out.ht.cell; have nw := World.new_ne w1 _ ct; have lz : w.heap.size + 2 ≤ w1.heap.size := (by have := hS'.out.ht.lt; omega); have nv : ¬ w1.heap.size = w.heap.size := (by omega); clear hb1)
    | (go_at_call 105; refine (be2_c _ _).mono ?_; rintro e w2 ⟨rfl, hb2⟩; (try have hB' := Lib.hid (one_call (show One _ _ 9 (.string ⟨#[]⟩) from by first | with_reducible exact one_new _ _ _ | with_reducible exact hB'.out | with_reducible exact one_al hB'.out _ | with_reducible exact one_al (one_new _ _ _) _ | with_reducible exact one_drew (one_new _ _ _)) hb2)); have hS' := Lib.hid ((show BS kk w _ (w.heap.size + 1) tT from by first | with_reducible exact hS'.out | with_reducible exact BS.al hS'.out _ | with_reducible exact BS.dr hS'.out | with_reducible exact BS.al (BS.al hS'.out _) _ | with_reducible exact BS.dr (BS.al hS'.out _)).call hb2); have ct := hS'.out.ht.cell; have nw := World.new_ne w2 _ ct; have lz : w.heap.size + 2 ≤ w2.heap.size := (by have := hS'.out.ht.lt; omega); have nv : ¬ w2.heap.size = w.heap.size := (by omega); clear hb2)
    | (go_at_call 103; refine (hashOf_c kk hkk _ [zs 64, msg, strOfNums (b2 (n : Int)), ⟨#[0]⟩, tT] 5 _ htot'.out (by simp) (show BS kk w _ (w.heap.size + 1) tT from by first | with_reducible exact hS'.out | with_reducible exact BS.al hS'.out _ | with_reducible exact BS.dr hS'.out | with_reducible exact BS.al (BS.al hS'.out _) _ | with_reducible exact BS.dr (BS.al hS'.out _)).hR ⟨9, (0, 0), by first | exact heap_alloc_new _ _ | exact heap_alloc2_new _ _ _ | (refine (Below.heap_alloc _ _ _ (by simp)).trans ?_; exact heap_alloc_new _ _)⟩).mono ?_; rintro e w3 ⟨rfl, hb3⟩; (try have hB' := Lib.hid (one_call (show One _ _ 9 (.string ⟨#[]⟩) from by first | with_reducible exact one_new _ _ _ | with_reducible exact hB'.out | with_reducible exact one_al hB'.out _ | with_reducible exact one_al (one_new _ _ _) _ | with_reducible exact one_drew (one_new _ _ _)) hb3)); have hS' := Lib.hid ((show BS kk w _ (w.heap.size + 1) tT from by first | with_reducible exact hS'.out | with_reducible exact BS.al hS'.out _ | with_reducible exact BS.dr hS'.out | with_reducible exact BS.al (BS.al hS'.out _) _ | with_reducible exact BS.dr (BS.al hS'.out _)).call hb3); have ct := hS'.out.ht.cell; have nw := World.new_ne w3 _ ct; have lz : w.heap.size + 2 ≤ w3.heap.size := (by have := hS'.out.ht.lt; omega); have nv : ¬ w3.heap.size = w.heap.size := (by omega); (try (try simp only [sz_alloc, sz_drew] at hB'); have cB := hB'.out.cell; have fB := hB'.out.free); clear hb3)))
  all_goals clear hR'
  all_goals go_wp2_with (go_at_call 156; refine (zs_c 32 (by decide) _).mono ?_; rintro e w5 ⟨rfl, hb5⟩; have hB5 := Lib.hid (one_call (show One _ _ 9 (.string (sha kk [zs 64, msg, strOfNums (b2 (n : Int)), ⟨#[0]⟩, tT])) from by first | with_reducible exact one_new _ _ _ | exact One.set hB'.out _ | exact One.set (one_new _ _ _) _) hb5); have hS5 := Lib.hid ((show BS kk w _ (w.heap.size + 1) tT from by first | with_reducible exact BS.al hS'.out _ | exact BS.set hS'.out (by omega) (by omega) (by omega) _ | exact BS.set (BS.al hS'.out _) (by omega) (by omega) (by omega) _).call hb5); have ct5 := hS5.out.ht.cell; clear hb5)
  all_goals
    have l0 := hB5.out.lt
    have l1 := hS5.out.ht.lt
    have l2 := hS5.out.hl
    have e0 : fst0 kk msg tag n = sha kk [zs 64, msg, strOfNums (b2 (n : Int)), ⟨#[0]⟩, tT] := by rw [fst0, htt]
    refine bodyPost_ret (results_tmp rfl _ _ _) rfl ⟨w5.heap.size + 1, _, w5.heap.size, _, rfl, ?_⟩
    rw [e0, htt]
    exact ⟨heap_alloc2_new w5 _ _, one_al (one_al hB5.out _) _, one_al (one_new _ _ _) _, one_al (one_al hS5.out.ht _) _, by omega, by omega, by omega, by omega, by omega, by omega, by omega, ((hS5.out.al _).al _).hb⟩
end Go.Proofs.YtgdcafbdkidamaaGreatDoor.K9
end
section
namespace Go.Proofs.YtgdcafbdkidamaaGreatDoor.K9
open Go Go.RowKit Go.Shelf Go.Proofs.YtgdcafbdkidamaaGreatDoorW.PrintWords Go.Proofs.YtgdcafbdkidamaaGreatDoorW.PrintLast Go.Proofs.YtgdcafbdkidamaaGreatDoorW.PrintMore Go.Proofs.YtgdcafbdkidamaaGreatDoor.K0 Go.Proofs.YtgdcafbdkidamaaGreatDoor.K2 Go.Proofs.YtgdcafbdkidamaaGreatDoor.K3 Go.Proofs.YtgdcafbdkidamaaGreatDoor.K4 Go.Proofs.YtgdcafbdkidamaaGreatDoor.K5 Go.Proofs.YtgdcafbdkidamaaGreatDoor.K6 Go.Proofs.YtgdcafbdkidamaaGreatDoor.K8 Go.Proofs.YtgdcafbdkidamaaGreatDoor.Kp Go.Proofs.YtgdcafbdkidamaaGreatDoor.B
set_option linter.unusedVariables false
set_option linter.unusedSimpArgs false
/-- a builder is as it was where its own blocks are -/
theorem bdAt_up {T e : TypeId} {B b : Nat} {p : Value} {bs : List Value} {W W' : World} (h : Lib.BuilderAtF T e B b p bs W) (hk : ∀ k, B ≤ k → k < W.heap.size → W'.heap[k]? = W.heap[k]?) : Lib.BuilderAtF T e B b p bs W' := by
  have hl := h.lt
  obtain ⟨hB, v, hbk, hown, hne⟩ := h
  refine ⟨hB, v, (hk _ hB hl).trans hbk, ⟨hown.1, ?_⟩, hne⟩
  rcases hown.2 with hn | ⟨g, cap, cur, fz, hv, hb, hgg, rest⟩
  · exact .inl hn
  · exact .inr ⟨g, cap, cur, fz, hv, hb, (hk g hb (Array.getElem?_eq_some_iff.1 hgg).1).trans hgg, rest⟩
theorem bd_g2 {W W' : World} {B b a c : Nat} {l : List UInt8} (h : Bd W B b l) (hg : G2 W W' a c) (ha : a < B) (hc : c < B) : Bd W' B b l :=
  have hk : ∀ k, B ≤ k → k < W.heap.size → W'.heap[k]? = W.heap[k]? := fun k h1 h2 => hg.block k h2 (by omega) (by omega)
  Or.imp (fun h => bdAt_up h hk) (fun h => bdAt_up h hk) h
/-- the blocks, and what they are together -/
def tM (kk : List Int) (s0 t : ByteArray) : Nat → ByteArray
  | 0 => zs 32
  | j + 1 => nxt kk s0 t (tM kk s0 t j) ((j : Int) + 1)
def oM (kk : List Int) (s0 t : ByteArray) : Nat → List UInt8
  | 0 => []
  | j + 1 => oM kk s0 t j ++ (tM kk s0 t (j + 1)).data.toList
theorem tM_size (kk : List Int) (s0 t : ByteArray) : ∀ j, (tM kk s0 t j).size = 32
  | 0 => by show (zs 32).size = 32; decide +kernel
  | j + 1 => by rw [tM, nxt, sha_size]
theorem oM_len (kk : List Int) (s0 t : ByteArray) : ∀ j, (oM kk s0 t j).length = 32 * j
  | 0 => rfl
  | j + 1 => by
    rw [oM, List.length_append, oM_len kk s0 t j]
    show 32 * j + (tM kk s0 t (j + 1)).size = _
    rw [tM_size]; omega
/-- what the loop keeps -/
structure EI (kk : List Int) (w wr : World) (bi b0 bl bt B : Nat) (s0 t : ByteArray) (j : Nat) : Prop where
  hi : One wr bi 5 (.int .u8 j)
  h0 : One wr b0 9 (.string s0)
  hl : One wr bl 9 (.string (tM kk s0 t j))
  ht : One wr bt 9 (.string t)
  hD : Bd wr B B (oM kk s0 t j)
  hb : Below w.heap.size w wr
  hB : B ≤ wr.heap.size
theorem one_below {w w' : World} {b B : Nat} {T : TypeId} {v : Value} (h : One w b T v) (hb : Below B w w') (hl : b < B) : One w' b T v := (hb.block b hl).trans h

set_option maxRecDepth 100000 in
set_option maxHeartbeats 8000000 in
theorem em_c (kk : List Int) (hkk : kk.length = 64) (msg tag : ByteArray) (n : Nat) (h1 : 1 ≤ tag.size) (h2 : tag.size ≤ 255) (h3 : 1 ≤ n) (h4 : n ≤ 8160) (h5 : msg.size ≤ 65535) (w : World) (hR : Rw kk w) :
    Calls Tryz.prog 163 #[.string msg, .string tag, .int .i64 n] w fun e w' => ∃ m : Nat, e = .returned (.tuple #[.string ⟨((oM kk (fst0 kk msg tag n) (tagT tag) m).take n).toArray⟩, .bool true]) ∧ n ≤ 32 * m ∧ 32 * m < n + 32 ∧ Below w.heap.size w w' := by
  have hR' := Lib.hid hR
  have hrw : 3 < w.heap.size := by obtain ⟨t, fr, e⟩ := hR; exact (Array.getElem?_eq_some_iff.1 e).1
  have hbk := Lib.hid (blocks_c kk hkk msg tag n h4 h5 h2 w hR)
  have z0 : (fst0 kk msg tag n).size = 32 := sha_size _ _
  have zt : (tagT tag).size ≤ 1000 := by rw [tagT_size]; omega
  have q1 : ¬ (tag.size : Int) < 1 := by omega
  have q2 : ¬ 255 < (tag.size : Int) := by omega
  have q3 : ¬ (n : Int) < 1 := by omega
  have q4 : ¬ 8160 < (n : Int) := by omega
  have q5 : ¬ 65535 < (msg.size : Int) := by omega
  clear hR
  generalize fst0 kk msg tag n = s0 at *
  generalize tagT tag = t at *
  go_enter Tryz.func163, Tryz.ntmps163
  go_wp2_with (go_at_call 172; (with_reducible refine hbk.out.mono ?_); rintro e w1 ⟨bi, b0, bl, bt, rfl, hC⟩; have hC' := Lib.hid hC; clear hC)
  have li := hC'.out.hi.lt
  have l0 := hC'.out.h0.lt
  have ll := hC'.out.hl.lt
  have lt := hC'.out.ht.lt
  have ki := hC'.out.li
  have kl := hC'.out.ll
  have hsz := hC'.out.hb.size
  have hE0 := Lib.hid (show EI kk w (w1.alloc (.cells #[.pointer none, .slice none 0 0] 160 (0, 0))) bi b0 bl bt w1.heap.size s0 t 0 from
    ⟨one_al hC'.out.hi _, one_al hC'.out.h0 _, one_al hC'.out.hl _, one_al hC'.out.ht _, bd_new w1, hC'.out.hb.alloc hsz _, by simp⟩)
  go_loopw [] (fun wr => ∃ j : Nat, 32 * j < n + 32 ∧ EI kk w wr bi b0 bl bt w1.heap.size s0 t j) (fun wr => (400 - intOf ((wr.cell? ⟨bi, 0, none⟩).getD (.int .u8 0))).toNat)
  case atStart => exact ⟨0, by omega, hE0.out⟩
  case round =>
    clear hE0 hbk
    obtain ⟨j, hj, hE⟩ := hrel
    have hE' := Lib.hid hE
    have hl := len_c w1.heap.size w1.heap.size (oM kk s0 t j) wr hE.hD
    rw [oM_len] at hl
    have hl' := Lib.hid hl
    clear hE hl
    by_cases hlt : 32 * j < n
    · have hlt2 : ((32 * j : Nat) : Int) < (n : Int) := by omega
      have hj2 : (j : Int) < 255 := by omega
      have hnx := Lib.hid (next_c kk hkk wr bi b0 bl bt j s0 (tM kk s0 t j) t (Rw_kept hR'.out (gb_of hE'.out.hb) (by simp)) hE'.out.hi hE'.out.h0 hE'.out.hl hE'.out.ht hC'.out.n1 hC'.out.n2 hC'.out.n3 hC'.out.n4 hC'.out.n5 z0 (tM_size _ _ _ _) zt (by omega) (by omega))
      go_wp2_with (first
        | (go_at_call 131; (with_reducible refine hl'.out.mono ?_); rintro e w2 ⟨rfl, hw2⟩; obtain rfl := hw2.symm)
        | (go_at_call 181; (with_reducible refine hnx.out.mono ?_); rintro e w3 ⟨rfl, hi3, hl3, hg3⟩; have hi3' := Lib.hid hi3; have hl3' := Lib.hid hl3; have hg3' := Lib.hid hg3; clear hi3 hl3 hg3))
      have hm : ((j : Int) + 1) % 256 = (j : Int) + 1 := by omega
      rw [hm] at *
      have htn : nxt kk s0 t (tM kk s0 t j) ((j : Int) + 1) = tM kk s0 t (j + 1) := rfl
      have hD3 := Lib.hid (bd_g2 hE'.out.hD hg3'.out li ll)
      have h03 := Lib.hid (hE'.out.h0.g2 hg3'.out (Ne.symm hC'.out.n1) (Ne.symm hC'.out.n4))
      have ht3 := Lib.hid (hE'.out.ht.g2 hg3'.out (Ne.symm hC'.out.n3) (Ne.symm hC'.out.n5))
      have hws3 := Nat.le_trans hE'.out.hB hg3'.out.size
      have hb5 := Lib.hid (hE'.out.hb.trans (show Below w.heap.size wr w3 from ⟨hg3'.out.os, hg3'.out.tape, hg3'.out.output, hg3'.out.size, fun k hk => hg3'.out.block k (Nat.lt_of_lt_of_le hk hE'.out.hb.size) (by omega) (by omega)⟩))
      rw [htn] at *
      have hsz2 := tM_size kk s0 t (j + 1)
      have hds : oM kk s0 t (j + 1) = oM kk s0 t j ++ (tM kk s0 t (j + 1)).data.toList := rfl
      have hol := oM_len kk s0 t j
      generalize tM kk s0 t (j + 1) = t2 at *
      have hds' := Lib.hid hds
      have hwc := Lib.hid (wstr_c w1.heap.size w1.heap.size (oM kk s0 t j) t2 w3 hD3.out (by rw [hol, hsz2]; omega) hws3)
      have hl3s := Lib.hid hl3'.out
      clear hds htn hm hol hsz2 hnx hl'
      go_wp2_with (go_at_call 132; (with_reducible refine hwc.out.mono ?_); rintro e w4 ⟨rfl, hD4, hb6, ho6⟩; have hD4' := Lib.hid hD4; have hb6' := Lib.hid hb6; clear hD4 hb6 ho6)
      have hi4 : One w4 bi 5 (.int .u8 ((j + 1 : Nat) : Int)) := by
        have := one_below hi3'.out hb6'.out li
        rwa [show ((j : Int) + 1) % 256 = ((j + 1 : Nat) : Int) by omega] at this
      have hl4 : One w4 bl 9 (.string (tM kk s0 t (j + 1))) := by
        have := one_below hl3'.out hb6'.out ll
        rw [show ((j : Int) + 1) % 256 = (j : Int) + 1 by omega] at this
        exact this
      refine ⟨⟨j + 1, by omega, ⟨hi4, one_below h03.out hb6'.out l0, hl4, one_below ht3.out hb6'.out lt, ?_, hb5.out.trans (hb6'.out.mono hsz), Nat.le_trans hws3 hb6'.out.size⟩⟩, ?_⟩
      · rw [hds'.out]; exact hD4'.out
      · rw [hi4.cell, hE'.out.hi.cell]; simp [intOf]; omega
    · have hlt2 : ¬ ((32 * j : Nat) : Int) < (n : Int) := by omega
      have hstr := str_c w1.heap.size w1.heap.size (oM kk s0 t j) wr hE'.out.hD hE'.out.hB
      have hls : (⟨(oM kk s0 t j).toArray⟩ : ByteArray).size = 32 * j := by show (oM kk s0 t j).toArray.size = _; rw [List.size_toArray, oM_len]
      have hex : (⟨(oM kk s0 t j).toArray⟩ : ByteArray).extract 0 n = ⟨((oM kk s0 t j).take n).toArray⟩ := by rw [ByteArray.extract_mk]; simp
      generalize hz : (⟨(oM kk s0 t j).toArray⟩ : ByteArray) = z at *
      have hz1 : (n : Int) ≤ (z.size : Int) := by rw [hls]; omega
      have hz' := Lib.hid hz
      have hex' := Lib.hid hex
      have hstr' := Lib.hid hstr
      clear hz hls hex hstr
      go_wp2_with (first | (go_at_call 131; (with_reducible refine hl'.out.mono ?_); rintro e w2 ⟨rfl, hw2⟩; obtain rfl := hw2.symm) | (go_at_call 127; (with_reducible refine hstr'.out.mono ?_); rintro e w3 ⟨rfl, hD4, hb6, ho6⟩; have hb6' := Lib.hid hb6; clear hD4 hb6 ho6))
      go_ret2
      have he := hex'.out
      refine ⟨j, ?_, by omega, hj, hE'.out.hb.trans (hb6'.out.mono hsz)⟩
      rw [← he]; rfl
set_option maxRecDepth 100000 in
set_option maxHeartbeats 4000000 in
theorem em_no (msg tag : ByteArray) (n : Int) (hn : tag.size < 1 ∨ 255 < tag.size ∨ n < 1 ∨ 8160 < n ∨ 65535 < msg.size) (w : World) :
    Calls Tryz.prog 163 #[.string msg, .string tag, .int .i64 n] w fun e w' => e = .returned (.tuple #[.string ⟨#[]⟩, .bool false]) ∧ w' = w := by
  by_cases g1 : (tag.size : Int) < 1
  · go_enter Tryz.func163, Tryz.ntmps163
    go_wp2_with fail
    go_ret2
    exact ⟨rfl, rfl⟩
  by_cases g2 : 255 < (tag.size : Int)
  · go_enter Tryz.func163, Tryz.ntmps163
    go_wp2_with fail
    go_ret2
    exact ⟨rfl, rfl⟩
  by_cases g3 : n < 1
  · go_enter Tryz.func163, Tryz.ntmps163
    go_wp2_with fail
    go_ret2
    exact ⟨rfl, rfl⟩
  by_cases g4 : 8160 < n
  · go_enter Tryz.func163, Tryz.ntmps163
    go_wp2_with fail
    go_ret2
    exact ⟨rfl, rfl⟩
  have g5 : 65535 < (msg.size : Int) := by omega
  go_enter Tryz.func163, Tryz.ntmps163
  go_wp2_with fail
  go_ret2
  exact ⟨rfl, rfl⟩
end Go.Proofs.YtgdcafbdkidamaaGreatDoor.K9
end
section
namespace Go.Proofs.YtgdcafbdkidamaaGreatDoor.KE2
open Go Go.RowKit Go.Proofs.YtgdcafbdkidamaaGreatDoorW.PrintWords Go.Proofs.YtgdcafbdkidamaaGreatDoorW.PrintLast Go.Proofs.YtgdcafbdkidamaaGreatDoorW.PrintMore Go.Proofs.YtgdcafbdkidamaaGreatDoor.G2
/-- an expanded message -/
def em1 (msg tag : ByteArray) (n : Nat) : ByteArray := ⟨((K9.oM Ks.kk (K9.fst0 Ks.kk msg tag n) (K9.tagT tag) ((n + 31) / 32)).take n).toArray⟩
def impl_ExpandMessage.f (a b : ByteArray) (n : Int) : Option (ByteArray × Bool) :=
  if b.size < 1 ∨ 255 < b.size ∨ n < 1 ∨ 8160 < n ∨ 65535 < a.size then some (⟨#[]⟩, false) else some (em1 a b n.toNat, true)
theorem impl_ExpandMessage.calls (a b : ByteArray) (n : Int) (r1 : ByteArray) (r2 : Bool) (w : World) (hG : G w) (h : impl_ExpandMessage.f a b n = some (r1, r2)) :
    Calls Tryz.prog 163 #[.string a, .string b, .int .i64 n] w fun e w' => e = .returned (.tuple #[.string r1, .bool r2]) ∧ Below w.heap.size w w' := by
  unfold impl_ExpandMessage.f at h
  split at h
  · obtain ⟨rfl, rfl⟩ := Prod.mk.inj (Option.some.inj h)
    exact (K9.em_no a b n (by assumption) w).mono fun e w' ⟨he, hw⟩ => ⟨he, by rw [hw]; exact Below.refl _ _⟩
  · obtain ⟨rfl, rfl⟩ := Prod.mk.inj (Option.some.inj h)
    obtain ⟨m, rfl⟩ := Int.eq_ofNat_of_zero_le (a := n) (by omega)
    refine (K9.em_c Ks.kk Ks.kk_len a b m (by omega) (by omega) (by omega) (by omega) (by omega) w hG).mono fun e w' ⟨q, he, h1, h2, h3⟩ => ⟨?_, h3⟩
    rw [he, em1, Int.toNat_natCast, show q = (m + 31) / 32 by omega]
end Go.Proofs.YtgdcafbdkidamaaGreatDoor.KE2
end
section
namespace Go.Proofs.YtgdcafbdkidamaaGreatDoor.E
open Go.Proofs.YtgdcafbdkidamaaGreatDoor.Sq Go.RowKit Go.Proofs.YtgdcafbdkidamaaGreatDoor.B Go.Proofs.YtgdcafbdkidamaaGreatDoor.H0 Go.Proofs.YtgdcafbdkidamaaGreatDoor.G2 Go.Proofs.YtgdcafbdkidamaaGreatDoor.F0 Go.Proofs.YtgdcafbdkidamaaGreatDoor.KG2 Go.Proofs.YtgdcafbdkidamaaGreatDoor.KE2 Go.Proofs.YtgdcafbdkidamaaGreatDoorW.PrintWords Go.Proofs.YtgdcafbdkidamaaGreatDoorW.PrintLast Go.Proofs.YtgdcafbdkidamaaGreatDoorW.PrintMore
attribute [local go_sem high] field_num_fieldP   -- for this text's walks alone
attribute [local go_sem] max2_int min2_int max_two min_two max_three min_three max_four min_four   -- for this text's walks alone
set_option linter.unusedVariables false
set_option linter.unusedSimpArgs false
mutual
def impl_HashToField.j0 : Nat → ByteArray → ByteArray → Int → Int → Bool → Option (List Int × Bool)
  | 0, _, _, _, _, _ => none
  | k + 1, x0, x1, x2, x3, x22 => if x22 = true then (some (([] : List Int), false)) else ((impl_ExpandMessage.f x0 x1 (wrap64 (24 * x3))).bind fun bt101 => (if bt101.2 = true then (impl_HashToField.l0 k x2 bt101.1 ([] : List Int)) else (some (([] : List Int), false))))
def impl_HashToField.l0 : Nat → Int → ByteArray → List Int → Option (List Int × Bool)
  | 0, _, _, _ => none
  | k + 1, x2, x10, x12 => if x10.toList = ([] : List UInt8) then (some (x12, true)) else (if 0 ≤ 24 then (if 24 ≤ (x10.size : Int) then ((impl_Reduce.f k (x10.extract 0 24) x2).bind fun t103 => (if x12.length < 17592186044416 then (impl_HashToField.l0 k x2 (x10.extract 24 x10.size) (x12 ++ [t103])) else (none))) else (none)) else (none))
end
def impl_HashToField.f (k : Nat) (a0 : ByteArray) (a1 : ByteArray) (a2 : Int) (a3 : Int) : Option (List Int × Bool) := if a3 < 1 then (impl_HashToField.j0 k a0 a1 a2 a3 true) else (if a3 > 340 then (impl_HashToField.j0 k a0 a1 a2 a3 true) else (impl_HashToField.j0 k a0 a1 a2 a3 (a2 == 0)))
set_option maxHeartbeats 8000000 in
set_option maxRecDepth 100000 in
theorem impl_HashToField.calls (k : Nat) (a0 : ByteArray) (a1 : ByteArray) (a2 : Int) (a3 : Int) (r1 : List Int) (r2 : Bool) (w : World) (hG : G w) (h : impl_HashToField.f k a0 a1 a2 a3 = some (r1, r2)) :
    Calls Tryz.prog 151 #[.string a0, .string a1, .int .u64 a2, .int .i64 a3] w fun e w' => ∃ v0_ : Value, e = .returned (.tuple #[v0_, .bool r2]) ∧ Kd.R (Kd.int .u64) 22 w' w.heap.size (fun _ => True) v0_ r1 ∧ Below w.heap.size w w' := by
  have HB := Aside0.mk (Below.refl w.heap.size w)
  have H : (if a3 < 1 then (impl_HashToField.j0 k a0 a1 a2 a3 true) else (if a3 > 340 then (impl_HashToField.j0 k a0 a1 a2 a3 true) else (impl_HashToField.j0 k a0 a1 a2 a3 (a2 == 0)))) = some (r1, r2) := h
  clear h
  have HG := Aside0.mk hG
  clear hG
  have HC5 := Aside0.mk H
  clear H
  go_enter Tryz.func151, Tryz.ntmps151
  go_upto_region 1 with (fail)
  go_cut [22] (fun v22 wc => ∃ (kq : Nat) (x22_4 : Bool), v22 = .bool x22_4 ∧ Aside0 (impl_HashToField.j0 kq a0 a1 a2 a3 x22_4 = some (r1, r2)) ∧ Aside0 (kq ≤ k) ∧ Aside0 (Below w.heap.size w wc))
  case first =>
    have H := HC5.out
    clear HC5
    by_cases c6 : a3 < 1
    · rw [if_pos c6] at H
      have c6b0 := decide_eq_true c6
      clear c6
      (first | rw [c6b0] | (simp only [i64_w, i32_w]; rw [c6b0]) | skip)
      have H' := Aside0.mk H
      clear H
      go_wp2
      go_meet
      case rel => exact ⟨_, (true), rs_, H', ⟨by first | omega | exact Nat.le_refl _⟩, ⟨by repeat (first | (with_reducible first | exact HB.out | apply below_alloc | apply pw_below_drewN | apply below_drew1) | exact HB.out)⟩⟩
    rw [if_neg c6] at H
    have c6b0 := decide_eq_false c6
    clear c6
    (first | rw [c6b0] | (simp only [i64_w, i32_w]; rw [c6b0]) | skip)
    by_cases c7 : a3 > 340
    · rw [if_pos c7] at H
      have c7b0 := decide_eq_true c7
      clear c7
      have H' := Aside0.mk H
      clear H
      go_wp2
      go_meet
      case rel => exact ⟨_, (true), rs_, H', ⟨by first | omega | exact Nat.le_refl _⟩, ⟨by repeat (first | (with_reducible first | exact HB.out | apply below_alloc | apply pw_below_drewN | apply below_drew1) | exact HB.out)⟩⟩
    rw [if_neg c7] at H
    have c7b0 := decide_eq_false c7
    clear c7
    have H' := Aside0.mk H
    clear H
    go_wp2
    go_meet
    case rel => exact ⟨_, ((a2 == 0)), rs_, H', ⟨by first | omega | exact Nat.le_refl _⟩, ⟨by repeat (first | (with_reducible first | exact HB.out | apply below_alloc | apply pw_below_drewN | apply below_drew1) | exact HB.out)⟩⟩
  case rest =>
    clear HC5
    try clear c1
    try clear p2
    try clear c6
    try clear c6b0
    try clear c7
    try clear c7b0
    obtain ⟨kq, x22_4, rfl, HA, HJ4, HB⟩ := hcut
    cases kq with
    | zero => exact absurd HA.out (by simp [impl_HashToField.j0])
    | succ kj4 =>
      have H := HA.out
      clear HA
      simp only [impl_HashToField.j0] at H
      by_cases c8 : x22_4 = true
      · subst c8
        have H1 : (some (([] : List Int), false)) = some (r1, r2) := by rw [if_pos rfl] at H; exact H
        clear H
        have H := H1
        clear H1
        simp only [Option.some.injEq, Prod.mk.injEq] at H
        obtain ⟨rfl, rfl⟩ := H
        go_wp2
        go_ret2
        exact ⟨_, by first | rfl | (simp [errW_none, errW_some] <;> rfl) | (simp [*, errW_none, errW_some] <;> rfl), by first | exact Kd.R_nil _ _ _ _ _ | exact Kd.N_nil _ _ _ _ _ | exact Kd.V_nil _ _ _ _ _ | exact Kd.Q_nil _ _ _ _ _ | exact Kd.S_nil _ _ _ _ _, by repeat (first | (with_reducible first | exact HB.out | apply below_alloc | apply pw_below_drewN | apply below_drew1) | exact HB.out)⟩
      replace c8 := Bool.eq_false_iff.mpr c8
      subst c8
      have H1 : ((impl_ExpandMessage.f a0 a1 (wrap64 (24 * a3))).bind fun bt101 => (if bt101.2 = true then (impl_HashToField.l0 kj4 a2 bt101.1 ([] : List Int)) else (some (([] : List Int), false)))) = some (r1, r2) := by rw [if_neg (show ¬ (false = true) by decide)] at H; exact H
      clear H
      have H := H1
      clear H1
      replace H := Option.bind_eq_some_iff.mp H
      obtain ⟨⟨t101, t102⟩, A90, H⟩ := H
      try dsimp only at H
      have A9 := Aside0.mk A90
      clear A90
      by_cases c10 : t102 = true
      rotate_left
      · replace c10 := Bool.eq_false_iff.mpr c10
        subst c10
        have H1 : (some (([] : List Int), false)) = some (r1, r2) := by rw [if_neg (show ¬ (false = true) by decide)] at H; exact H
        clear H
        have H := H1
        clear H1
        simp only [Option.some.injEq, Prod.mk.injEq] at H
        obtain ⟨rfl, rfl⟩ := H
        go_wp2_with (first | ((with_reducible refine gate_callee (f := 163) rfl ?_); refine goesL_ (some 28) rfl rfl Tryz.func163 (by kernel_rfl) rfl #[.string a0, .string a1, .int .i64 (wrap64 (24 * a3))] rfl ga_ ?_; (with_reducible refine (impl_ExpandMessage.calls a0 a1 (wrap64 (24 * a3)) t101 false _ (G_below hb_ HG.out) A9.out).mono ?_); rintro e w19 ⟨rfl, hb⟩; refine ⟨_, rfl, ?_⟩; have n0_ := Aside0.mk (below_step hb_ hb); clear HB; have HB := n0_; clear n0_; (try clear hb); (try clear hb2); (try clear hk); (try clear hi)))
        go_ret2
        exact ⟨_, by first | rfl | (simp [errW_none, errW_some] <;> rfl) | (simp [*, errW_none, errW_some] <;> rfl), by first | exact Kd.R_nil _ _ _ _ _ | exact Kd.N_nil _ _ _ _ _ | exact Kd.V_nil _ _ _ _ _ | exact Kd.Q_nil _ _ _ _ _ | exact Kd.S_nil _ _ _ _ _, by repeat (first | (with_reducible first | exact HB.out | apply below_alloc | apply pw_below_drewN | apply below_drew1) | exact HB.out)⟩

      subst c10
      have H1 : (impl_HashToField.l0 kj4 a2 t101 ([] : List Int)) = some (r1, r2) := by rw [if_pos rfl] at H; exact H
      clear H
      have H := H1
      clear H1
      have H' := Aside0.mk H
      clear H
      go_wp2_with (first | ((with_reducible refine gate_callee (f := 163) rfl ?_); refine goesL_ (some 28) rfl rfl Tryz.func163 (by kernel_rfl) rfl #[.string a0, .string a1, .int .i64 (wrap64 (24 * a3))] rfl ga_ ?_; (with_reducible refine (impl_ExpandMessage.calls a0 a1 (wrap64 (24 * a3)) t101 true _ (G_below hb_ HG.out) A9.out).mono ?_); rintro e w11 ⟨rfl, hb⟩; refine ⟨_, rfl, ?_⟩; have n0_ := Aside0.mk (below_step hb_ hb); clear HB; have HB := n0_; clear n0_; (try clear hb); (try clear hb2); (try clear hk); (try clear hi)))
      go_loopg [10, 12] kj4 (fun kq v10 v12 w' => ∃ (x10_2 : ByteArray) (x12_2 : List Int), v10 = .string x10_2 ∧ Aside0 (impl_HashToField.l0 kq a2 x10_2 x12_2 = some (r1, r2)) ∧ Aside0 (kq ≤ kj4) ∧ Aside0 (Kd.R (Kd.int .u64) 22 w' w.heap.size (fun _ => True) v12 x12_2) ∧ Aside0 (Below w.heap.size w w'))
      case atStart => exact ⟨(t101), (([] : List Int)), rs_, H', ⟨Nat.le_refl _⟩, ⟨by first | exact Kd.R_nil _ _ _ _ _ | exact Kd.N_nil _ _ _ _ _ | exact Kd.V_nil _ _ _ _ _ | exact Kd.Q_nil _ _ _ _ _ | exact Kd.S_nil _ _ _ _ _⟩, ⟨by repeat (first | (with_reducible first | exact HB.out | apply below_alloc | apply pw_below_drewN | apply below_drew1) | exact HB.out)⟩⟩
      case round =>
        clear H'
        try clear c1
        try clear p2
        try clear c6
        try clear c6b0
        try clear p6
        try clear c7
        try clear c7b0
        try clear c8
        try clear c10
        try clear p2
        obtain ⟨x10_2, x12_2, rfl, HA, HK2, HO_12, HB⟩ := hrel
        cases gk with
        | zero => exact absurd HA.out (by simp [impl_HashToField.l0])
        | succ k2 =>
          have H := HA.out
          clear HA
          simp only [impl_HashToField.l0] at H
          by_cases c12 : x10_2.toList = ([] : List UInt8)
          · rw [if_pos c12] at H
            have c12b0 : (x10_2.toList == ([] : List UInt8)) = true := beq_iff_eq.mpr c12
            have c12b1 : (x10_2.toList != ([] : List UInt8)) = false := bne_eq_false_iff_eq.mpr c12
            clear c12
            simp only [Option.some.injEq, Prod.mk.injEq] at H
            obtain ⟨rfl, rfl⟩ := H
            go_wp2
            go_ret2
            exact ⟨_, by first | rfl | (simp [errW_none, errW_some] <;> rfl) | (simp [*, errW_none, errW_some] <;> rfl), by (with_reducible repeat (first | apply Kd.R_alloc | apply Kd.R_drewN | apply Kd.R_drew)); exact HO_12.out, by repeat (first | (with_reducible first | exact HB.out | apply below_alloc | apply pw_below_drewN | apply below_drew1) | exact HB.out)⟩
          rw [if_neg c12] at H
          have c12b0 : (x10_2.toList == ([] : List UInt8)) = false := beq_eq_false_iff_ne.mpr c12
          have c12b1 : (x10_2.toList != ([] : List UInt8)) = true := bne_iff_ne.mpr c12
          by_cases c13 : 0 ≤ 24
          rotate_left
          · rw [if_neg c13] at H
            exact absurd H (by simp)
          rw [if_pos c13] at H
          have c13b0 := eq_true c13
          have c13b1 := decide_eq_true c13
          clear c13
          by_cases c14 : 24 ≤ (x10_2.size : Int)
          rotate_left
          · rw [if_neg c14] at H
            exact absurd H (by simp)
          rw [if_pos c14] at H
          have c14b0 := eq_true c14
          have c14b1 := decide_eq_true c14
          clear c14
          replace H := Option.bind_eq_some_iff.mp H
          obtain ⟨t103, A150, H⟩ := H
          try dsimp only at H
          have A15 := Aside0.mk A150
          clear A150
          by_cases c16 : x12_2.length < 17592186044416
          rotate_left
          · rw [if_neg c16] at H
            exact absurd H (by simp)
          rw [if_pos c16] at H
          have LMc16 := Aside0.mk c16
          clear c16
          obtain ⟨y104, hy104⟩ : ∃ y_ : List Int, y_ = (x12_2 ++ [t103]) := ⟨_, rfl⟩
          replace H : (impl_HashToField.l0 k2 a2 (x10_2.extract 24 x10_2.size) y104) = some (r1, r2) := by first | (rw [hy104]; with_reducible exact H) | (have H2_ := (Option.bind_some _ _).symm.trans H; rw [hy104]; with_reducible exact H2_) | (have H2_ := (Option.bind_some _ _).symm.trans H; with_reducible exact H2_) | with_reducible exact H | (rw [hy104]; exact H) | exact H
          have Ny104 := Aside0.mk hy104
          clear hy104
          have c17b0 := eq_true (of_decide_eq_true as_ : 24 ≤ (x10_2.size : Int))
          have H' := Aside0.mk H
          clear H
          go_wp2_with (first | ((with_reducible refine gate_callee (f := 164) rfl ?_); refine goesL_ (some 41) rfl rfl Tryz.func164 (by kernel_rfl) rfl #[.string (x10_2.extract 0 24), .int .u64 a2] rfl ga_ ?_; (with_reducible refine (impl_Reduce.calls k2 (x10_2.extract 0 24) a2 t103 _ A15.out).mono ?_); rintro e w' ⟨rfl, ⟨nd, rfl⟩⟩; refine ⟨_, rfl, ?_⟩) | ((with_reducible refine gate_builtin (b := .append) (xs := #[.tmp 37, .tmp 42]) rfl ?_); at_builtin; refine Kd.R_append (Kd.int .u64) (w0 := w) w.heap.size rfl (.tmp 37) (.tmp 42) 77 22 (.int .u64 0) 8 rfl Tryz.underlying77 info22 rfl (by decide) (by omega) u12 x12_2 t103 [.int .u64 t103] (fun _ => True) (fun _ => False) rfl rfl ?aP (fun _ hk => hk.elim) ?aF ?aO ?aB ?aS ?aL ?_; (case aP => exact rfl); (case aB => exact hb_); (case aF => exact (fun _ _ => trivial)); (case aO => exact (kr_ HO_12.out)); (case aS => exact (below_size hb_)); (case aL => have := LMc16.out; omega); intro v105 w18 ho hb hg hat; rw [← Ny104.out] at ho; have n0_ := Aside0.mk (hb); have n1_ := Aside0.mk (ho); clear HB; clear HO_12; have HB := n0_; have HO106 := n1_; clear n0_ n1_; clear ho hb hg hat))
          go_roundg k2
          case measure => have := HJ4.out; have := HK2.out; omega
          case rel => exact ⟨(x10_2.extract 24 x10_2.size), (y104), rs_, H', ⟨by have := HJ4.out; have := HK2.out; omega⟩, ⟨by (with_reducible repeat (first | apply Kd.R_alloc | apply Kd.R_drewN | apply Kd.R_drew)); exact HO106.out⟩, ⟨by repeat (first | (with_reducible first | exact HB.out | apply below_alloc | apply pw_below_drewN | apply below_drew1) | exact HB.out)⟩⟩
def impl_HashToScalar.f (k : Nat) (a0 : ByteArray) (a1 : ByteArray) : Option (Int × Bool) := (impl_HashToField.f k a0 a1 2305843010818082053 1).bind fun bt107 => (if bt107.2 = true then (if 0 < (bt107.1.length : Int) then (some (rd bt107.1 0, true)) else (none)) else (some (0, false)))
set_option maxHeartbeats 8000000 in
set_option maxRecDepth 100000 in
theorem impl_HashToScalar.calls (k : Nat) (a0 : ByteArray) (a1 : ByteArray) (r1 : Int) (r2 : Bool) (w : World) (hG : G w) (h : impl_HashToScalar.f k a0 a1 = some (r1, r2)) :
    Calls Tryz.prog 129 #[.string a0, .string a1] w fun e w' => e = .returned (.tuple #[.int .u64 r1, .bool r2]) ∧ Below w.heap.size w w' := by
  have HB := Aside0.mk (Below.refl w.heap.size w)
  have H : ((impl_HashToField.f k a0 a1 2305843010818082053 1).bind fun bt107 => (if bt107.2 = true then (if 0 < (bt107.1.length : Int) then (some (rd bt107.1 0, true)) else (none)) else (some (0, false)))) = some (r1, r2) := h
  clear h
  have HG := Aside0.mk hG
  clear hG
  replace H := Option.bind_eq_some_iff.mp H
  obtain ⟨⟨t107, t108⟩, A30, H⟩ := H
  try dsimp only at H
  have A3 := Aside0.mk A30
  clear A30
  by_cases c4 : t108 = true
  rotate_left
  · replace c4 := Bool.eq_false_iff.mpr c4
    subst c4
    have H1 : (some (0, false)) = some (r1, r2) := by rw [if_neg (show ¬ (false = true) by decide)] at H; exact H
    clear H
    have H := H1
    clear H1
    simp only [Option.some.injEq, Prod.mk.injEq] at H
    obtain ⟨rfl, rfl⟩ := H
    go_enter Tryz.func129, Tryz.ntmps129
    go_wp2_with (first | ((with_reducible refine gate_callee (f := 151) rfl ?_); refine goesL_ (some 11) rfl rfl Tryz.func151 (by kernel_rfl) rfl #[.string a0, .string a1, .int .u64 2305843010818082053, .int .i64 1] rfl ga_ ?_; (with_reducible refine (impl_HashToField.calls k a0 a1 2305843010818082053 1 t107 false _ (G_below hb_ HG.out) A3.out).mono ?_); rintro e w8 ⟨v109, rfl, ho0, hb⟩; refine ⟨_, rfl, ?_⟩; have n0_ := Aside0.mk (Kd.R_lower ho0 (below_size hb_)); have n1_ := Aside0.mk (below_step hb_ hb); clear HB; have HO110 := n0_; have HB := n1_; clear n0_ n1_; (try clear hb); (try clear hb2); (try clear hk); (try clear hi); (try clear ho0)))
    go_ret2
    exact ⟨by first | rfl | (simp [errW_none, errW_some] <;> rfl) | (simp [*, errW_none, errW_some] <;> rfl), by repeat (first | (with_reducible first | exact HB.out | apply below_alloc | apply pw_below_drewN | apply below_drew1) | exact HB.out)⟩

  subst c4
  have H1 : (if 0 < (t107.length : Int) then (some (rd t107 0, true)) else (none)) = some (r1, r2) := by rw [if_pos rfl] at H; exact H
  clear H
  have H := H1
  clear H1
  by_cases c5 : 0 < (t107.length : Int)
  rotate_left
  · rw [if_neg c5] at H
    exact absurd H (by simp)
  rw [if_pos c5] at H
  have c5b0 := decide_eq_true c5
  have c5b1 : decide (0 < t107.length) = true := decide_eq_true (by omega)
  clear c5
  simp only [Option.some.injEq, Prod.mk.injEq] at H
  obtain ⟨rfl, rfl⟩ := H
  go_enter Tryz.func129, Tryz.ntmps129
  go_wp2_with (first | ((with_reducible refine gate_callee (f := 151) rfl ?_); refine goesL_ (some 11) rfl rfl Tryz.func151 (by kernel_rfl) rfl #[.string a0, .string a1, .int .u64 2305843010818082053, .int .i64 1] rfl ga_ ?_; (with_reducible refine (impl_HashToField.calls k a0 a1 2305843010818082053 1 t107 true _ (G_below hb_ HG.out) A3.out).mono ?_); rintro e w6 ⟨v109, rfl, ho0, hb⟩; refine ⟨_, rfl, ?_⟩; have n0_ := Aside0.mk (Kd.R_lower ho0 (below_size hb_)); have n1_ := Aside0.mk (below_step hb_ hb); clear HB; have HO110 := n0_; have HB := n1_; clear n0_ n1_; (try clear hb); (try clear hb2); (try clear hk); (try clear hi); (try clear ho0); obtain ⟨Ao7, co7, eo7⟩ := Kd.R_slice HO110.out; subst eo7; have p111 : 0 ≤ (0 : Int) := (by omega); have q111 : 0 < (t107.length : Int) := of_decide_eq_true as_; obtain ⟨ad111, e111, hx111_0⟩ := Kd.at_int (Kd.R_reads' HO110.out).2.2 0 p111 q111; cases e111; have qi111 : (0 < t107.length) = True := eq_true (by omega); (try rw [show ((0 : Int)).toNat = 0 from rfl] at hx111_0); (try rw [Addr.add_zero'] at hx111_0); replace p111 := eq_true p111; replace q111 := eq_true q111))
  go_ret2
  exact ⟨by first | rfl | (simp [errW_none, errW_some] <;> rfl) | (simp [*, errW_none, errW_some] <;> rfl), by repeat (first | (with_reducible first | exact HB.out | apply below_alloc | apply pw_below_drewN | apply below_drew1) | exact HB.out)⟩
end Go.Proofs.YtgdcafbdkidamaaGreatDoor.E
end
