/- What the proof of FnExactDeriveKey leans on, part 16: cut out of the texts of this claim's making by a program (wip/tools/pack.py). -/
import Derived.Test.YtoejhekppfgmpaaDoorKDeriveKey5
import Derived.Test.YtoejhekppfgmpaaDoorKDeriveKey7
import Derived.Test.YtoejhekppfgmpaaDoorKDeriveKey9
import Derived.Test.YtoejhekppfgmpaaDoorKDeriveKey10
import Derived.Test.YtoejhekppfgmpaaDoorKDeriveKey14
import Derived.Test.YtoejhekppfgmpaaDoorKDeriveKey15
import Derived.Deep.RegionHeld3
import Derived.KernelRfl
import Derived.Laws.Tables
import Derived.Lib.Hide
import Derived.LoopTactic
import Derived.StillTailTactics
import Derived.WalkSpells
section
namespace Go.Proofs.YtoejhekppfgmpaaDoor.K6
open Go Go.RowKit Go.Shelf Go.Proofs.YtoejhekppfgmpaaDoorW.PrintWords Go.Proofs.YtoejhekppfgmpaaDoorW.PrintLast Go.Proofs.YtoejhekppfgmpaaDoorW.PrintMore Go.Proofs.YtoejhekppfgmpaaDoor.K0 Go.Proofs.YtoejhekppfgmpaaDoor.K2 Go.Proofs.YtoejhekppfgmpaaDoor.K3 Go.Proofs.YtoejhekppfgmpaaDoor.K4 Go.Proofs.YtoejhekppfgmpaaDoor.K5 Go.Proofs.YtoejhekppfgmpaaDoor.Kp
set_option linter.unusedVariables false
set_option linter.unusedSimpArgs false
/-- a box of 64 bytes -/
def Y8 (w : World) (g : Nat) (l : List Int) : Prop := l.length = 64 ∧ w.heap[g]? = some (.cells (c8 l).toArray 196 (0, 0))
theorem Y8.lt {w : World} {g : Nat} {l : List Int} (h : Y8 w g l) : g < w.heap.size := (Array.getElem?_eq_some_iff.1 h.2).1
theorem Y8.cell {w : World} {g : Nat} {l : List Int} (h : Y8 w g l) {i : Nat} (hi : i < 64) : w.cell? ⟨g, i, none⟩ = some (.int .u8 (rd l i)) := by
  rw [cell_of_row w g i _ _ _ h.2, List.getElem?_toArray, c8_get (by rw [h.1]; exact hi)]
theorem Y8.free {w : World} {g : Nat} {l : List Int} (h : Y8 w g l) (i : Nat) : w.frozen? ⟨g, i, none⟩ = false := frozen_of_row w g i _ _ h.2
theorem c8_set (l : List Int) (i : Nat) (x : Int) : (c8 l).set i (.int .u8 x) = c8 (l.set i x) := by unfold c8; rw [List.map_set]
theorem Y8.set {w : World} {g : Nat} {l : List Int} (h : Y8 w g l) (i : Nat) (x : Int) : Y8 (w.setCell ⟨g, i, none⟩ (.int .u8 x)) g (l.set i x) := by
  refine ⟨by rw [List.length_set]; exact h.1, ?_⟩
  have := heap_setCell_same w g i _ 196 (.int .u8 x) h.2
  rw [this, ← c8_set]; simp
theorem Y8.kept {w w' : World} {g : Nat} {l : List Int} (h : Y8 w g l) {row : Option Nat} (hg : w.grownBy w' row) (hne : some g ≠ row) : Y8 w' g l := ⟨h.1, (hg.block g h.lt hne).trans h.2⟩
theorem Y8.far {w : World} {g : Nat} {l : List Int} (h : Y8 w g l) {p : Addr} (hp : g ≠ p.block) (v : Value) : Y8 (w.setCell p v) g l := ⟨h.1, (Below.heap_setCell _ _ _ _ hp).trans h.2⟩
/-- the bytes of it as a text -/
theorem Y8.str {w : World} {g : Nat} {l : List Int} (h : Y8 w g l) : (convert 22 9 (.slice (some ⟨g, 0, none⟩) 64 64)).run Tryd.prog w = .ok (.string (strOfNums l)) w :=
  own_string (P := Tryd.prog) (base := 0) (n := 64) Tryd.underlying22 Tryd.underlying5 Tryd.underlying9 (xs := l)
    ⟨by rw [nums, List.length_map, h.1], .inr ⟨g, 64, _, rfl, Nat.zero_le _, h.2, Nat.le_refl _, by unfold maxLen; decide, by rw [List.size_toArray, c8_len, h.1], by
      rw [Nat.mul_one, List.take_of_length_le (by show (c8 l).length ≤ 64; rw [c8_len, h.1]; exact Nat.le_refl _)]; rfl⟩⟩

/-- a text laid over zeros -/
def keyL (s : ByteArray) : List Int := sb s ++ List.replicate (64 - s.size) 0
/-- each byte by one -/
def xorL (l : List Int) (c : Int) : List Int := l.map fun x => Go.bits .xor .u8 x c
/-- a keyed hash: two running hashes and the box of their pointers -/
def KP (w : World) (k gi gg : Nat) : Prop := w.heap[k]? = some (.cells #[.pointer (some ⟨gi, 0, none⟩), .pointer (some ⟨gg, 0, none⟩)] 195 (0, 0))
theorem KP.lt {w : World} {k gi gg : Nat} (h : KP w k gi gg) : k < w.heap.size := (Array.getElem?_eq_some_iff.1 h).1
theorem KP.c0 {w : World} {k gi gg : Nat} (h : KP w k gi gg) : w.cell? ⟨k, 0, none⟩ = some (.pointer (some ⟨gi, 0, none⟩)) := (cell_of_row w k 0 _ _ _ h).trans rfl
theorem KP.c1 {w : World} {k gi gg : Nat} (h : KP w k gi gg) : w.cell? ⟨k, 1, none⟩ = some (.pointer (some ⟨gg, 0, none⟩)) := (cell_of_row w k 1 _ _ _ h).trans rfl
theorem KP.kept {w w' : World} {k gi gg : Nat} (h : KP w k gi gg) {row : Option Nat} (hg : w.grownBy w' row) (hne : some k ≠ row) : KP w' k gi gg := (hg.block k h.lt hne).trans h
theorem KP.far {w : World} {k gi gg : Nat} (h : KP w k gi gg) {p : Addr} (hp : k ≠ p.block) (v : Value) : KP (w.setCell p v) k gi gg := (Below.heap_setCell _ _ _ _ hp).trans h
/-- what the loop keeps: the boxes, the hashes -/
structure KI (w wr : World) (k gi gg a b : Nat) (la lb : List Int) : Prop where
  ya : Y8 wr a la
  yb : Y8 wr b lb
  hi : HS wr gi (iv8, []) (0 : Nat)
  hg : HS wr gg (iv8, []) (0 : Nat)
  hk : KP wr k gi gg
  hb : Below w.heap.size w wr
/-- a keyed hash that runs: the key's bytes, what the inner one holds -/
structure KH (kk : List Int) (w0 w : World) (k gi gg : Nat) (L : List Int) (p : List Int × List Int) (n : Int) : Prop where
  kp : KP w k gi gg
  hi : HS w gi p n
  hg : HS w gg (Sh.feedL (C kk) (iv8, []) (xorL L 92)) (64 : Nat)
  n1 : gi ≠ gg
  n2 : k ≠ gi
  n3 : k ≠ gg
  l0 : w0.heap.size ≤ k
  l1 : w0.heap.size ≤ gi
  l2 : w0.heap.size ≤ gg
  hb : Below w0.heap.size w0 w
/-- the key as it is laid: a long one's hash -/
def keyOf (kk : List Int) (key : ByteArray) : ByteArray := if 64 < key.size then sha kk [key] else key
theorem sha_size (kk : List Int) (xs : List ByteArray) : (sha kk xs).size = 32 := by
  rw [← sb_len]
  unfold sha sb strOfNums
  rw [List.length_map]
  show (List.map _ _).length = 32
  rw [List.length_map, fin, outs_len]
end Go.Proofs.YtoejhekppfgmpaaDoor.K6
end
section
namespace Go.Proofs.YtoejhekppfgmpaaDoor.K6
open Go Go.RowKit Go.Shelf Go.Proofs.YtoejhekppfgmpaaDoorW.PrintWords Go.Proofs.YtoejhekppfgmpaaDoorW.PrintLast Go.Proofs.YtoejhekppfgmpaaDoorW.PrintMore Go.Proofs.YtoejhekppfgmpaaDoor.K0 Go.Proofs.YtoejhekppfgmpaaDoor.K2 Go.Proofs.YtoejhekppfgmpaaDoor.K3 Go.Proofs.YtoejhekppfgmpaaDoor.K4 Go.Proofs.YtoejhekppfgmpaaDoor.K5 Go.Proofs.YtoejhekppfgmpaaDoor.Kp
set_option linter.unusedVariables false
set_option linter.unusedSimpArgs false
theorem KH.drew {kk : List Int} {w0 w : World} {k gi gg : Nat} {L : List Int} {p : List Int × List Int} {n : Int} (h : KH kk w0 w k gi gg L p n) : KH kk w0 w.drew k gi gg L p n := ⟨h.kp, h.hi, h.hg, h.n1, h.n2, h.n3, h.l0, h.l1, h.l2, h.hb.drew⟩
theorem KH.rw {kk : List Int} {w0 w : World} {k gi gg : Nat} {L : List Int} {p : List Int × List Int} {n : Int} (h : KH kk w0 w k gi gg L p n) (hR : Rw kk w0) : Rw kk w := Rw_kept hR (gb_of h.hb) (by simp)

/-- what a keyed hash sums to -/
def mac (kk : List Int) (L : List Int) (p : List Int × List Int) (n : Nat) : List Int :=
  fin kk (Sh.feedL (C kk) (Sh.feedL (C kk) (iv8, []) (xorL L 92)) (fin kk p n)) 96

/-- a keyed hash of texts -/
def hm (kk : List Int) (key : ByteArray) (xs : List ByteArray) : ByteArray :=
  strOfNums (mac kk (keyL (keyOf kk key)) (Sh.feedL (C kk) (Sh.feedL (C kk) (iv8, []) (xorL (keyL (keyOf kk key)) 54)) (sbs xs)) (64 + tot xs))

end Go.Proofs.YtoejhekppfgmpaaDoor.K6
end
section
namespace Go.Proofs.YtoejhekppfgmpaaDoor.K8
open Go Go.RowKit Go.Shelf Go.Proofs.YtoejhekppfgmpaaDoorW.PrintWords Go.Proofs.YtoejhekppfgmpaaDoorW.PrintLast Go.Proofs.YtoejhekppfgmpaaDoorW.PrintMore Go.Proofs.YtoejhekppfgmpaaDoor.K0 Go.Proofs.YtoejhekppfgmpaaDoor.K2 Go.Proofs.YtoejhekppfgmpaaDoor.K3 Go.Proofs.YtoejhekppfgmpaaDoor.K4 Go.Proofs.YtoejhekppfgmpaaDoor.K5 Go.Proofs.YtoejhekppfgmpaaDoor.K6 Go.Proofs.YtoejhekppfgmpaaDoor.Kp
set_option linter.unusedVariables false
set_option linter.unusedSimpArgs false
/-- one byte as a text -/
theorem str1 (w : World) (x : Int) : (convert 22 9 (.slice (some ⟨w.heap.size, 0, none⟩) 1 1)).run Tryd.prog (w.alloc (.cells #[.int .u8 x] 5 (0, 0))) = .ok (.string (strOfNums [x])) (w.alloc (.cells #[.int .u8 x] 5 (0, 0))) :=
  own_string (P := Tryd.prog) (base := 0) (n := 1) Tryd.underlying22 Tryd.underlying5 Tryd.underlying9 (xs := [x])
    ⟨rfl, .inr ⟨w.heap.size, 1, _, rfl, Nat.zero_le _, heap_alloc_new w _, Nat.le_refl _, by unfold maxLen; decide, rfl, rfl⟩⟩
end Go.Proofs.YtoejhekppfgmpaaDoor.K8
end
section
namespace Go.Proofs.YtoejhekppfgmpaaDoor.KH2
open Go Go.RowKit Go.Proofs.YtoejhekppfgmpaaDoorW.PrintWords Go.Proofs.YtoejhekppfgmpaaDoorW.PrintLast Go.Proofs.YtoejhekppfgmpaaDoorW.PrintMore Go.Proofs.YtoejhekppfgmpaaDoor.G2
/-- a keyed hash -/
def hm1 (key s : ByteArray) : ByteArray := K6.hm Ks.kk key [s]
end Go.Proofs.YtoejhekppfgmpaaDoor.KH2
end
section
namespace Go.Proofs.YtoejhekppfgmpaaDoor.Hp
open Go Go.RowKit Go.Proofs.YtoejhekppfgmpaaDoorW.PrintWords Go.Proofs.YtoejhekppfgmpaaDoorW.PrintLast Go.Proofs.YtoejhekppfgmpaaDoorW.PrintMore Go.Proofs.YtoejhekppfgmpaaDoor.K0 Go.Proofs.YtoejhekppfgmpaaDoor.K3 Go.Proofs.YtoejhekppfgmpaaDoor.K4 Go.Proofs.YtoejhekppfgmpaaDoor.K5 Go.Proofs.YtoejhekppfgmpaaDoor.K6 Go.Proofs.YtoejhekppfgmpaaDoor.Ks Go.Proofs.YtoejhekppfgmpaaDoor.KG2 Go.Proofs.YtoejhekppfgmpaaDoor.KH2 Go.Proofs.YtoejhekppfgmpaaDoor.B Go.Proofs.YtoejhekppfgmpaaDoor.C
set_option linter.unusedVariables false
set_option linter.unusedSimpArgs false
theorem str_eq {a b : ByteArray} (h : sb a = sb b) : a = b := by
  have h2 : a.data.toList = b.data.toList := by
    refine List.map_inj_right (f := fun b : UInt8 => (b.toNat : Int)) ?_ |>.1 h
    intro x y e
    exact UInt8.toNat_inj.1 (by omega)
  cases a; cases b
  simp only [ByteArray.mk.injEq]
  exact Array.toList_inj.1 h2
theorem w64 {n : Int} (h0 : -9223372036854775808 ≤ n) (h : n < 9223372036854775808) : wrap64 n = n := by unfold wrap64; omega
/-- a long run of zeros -/
theorem sb_zero (x : ByteArray) (n : Nat) (h : sb x = List.replicate n 0) : x = zs n := str_eq (h.trans (sb_zs n).symm)
theorem long_zero (n k : Nat) (h : n ≤ 64) (hk : 200 ≤ k) : spec_l1Long.f k n (⟨#[0]⟩ : ByteArray) = some (zs n) := by
  have h0 : ∀ j : Nat, j ≤ 64 → (spec_l1Long.f 200 j (⟨#[0]⟩ : ByteArray)).map sb = some (List.replicate j 0) := by
    intro j hj
    have : (List.range 65).all (fun j : Nat => decide ((spec_l1Long.f 200 j (⟨#[0]⟩ : ByteArray)).map sb = some (List.replicate j 0))) = true := by kernel_rfl
    exact of_decide_eq_true (List.all_eq_true.1 this j (List.mem_range.2 (by omega)))
  have h1 := h0 n h
  obtain ⟨x, hx, hs⟩ := Option.map_eq_some_iff.1 h1
  have hz := sb_zero x n hs
  subst hz
  exact at_least (f := fun k => spec_l1Long.f k n (⟨#[0]⟩ : ByteArray)) (fun k => spec_l1Long.mono _ _ _) hx hk
theorem bt_rd (s : ByteArray) (i : Nat) (h : i < s.size) : bt s i = rd (sb s) i := by
  have hl : i < (sb s).length := by rw [sb_len]; exact h
  unfold bt rd
  rw [Int.toNat_natCast, dif_pos h, List.getD_eq_getElem?_getD, List.getElem?_eq_getElem hl]
  simp [sb]; rfl
theorem app_size (a b : ByteArray) : (a ++ b).size = a.size + b.size := by rw [← sb_len, sb_app, List.length_append, sb_len, sb_len]
theorem str_size {xs : List Int} : (strOfNums xs).size = xs.length := by unfold strOfNums; show (List.toArray _).size = _; simp
end Go.Proofs.YtoejhekppfgmpaaDoor.Hp
end
