/- What the proof of FnGroup leans on, part 19: cut out of the texts of this claim's making by a program (wip/tools/pack.py). -/
import Derived.Test.YtoejhekppfgmpaaDoorKGroup2
import Derived.Test.YtoejhekppfgmpaaDoorKGroup11
import Derived.Test.YtoejhekppfgmpaaDoorKGroup12
import Derived.Test.YtoejhekppfgmpaaDoorKGroup18
import Derived.Lib.Hide
import Derived.Lib.OthersKept
import Derived.LoopTactic
import Derived.Shelf.Strings.BuilderK
import Derived.Shelf.Strings.Repeat
section
namespace Go.Proofs.YtoejhekppfgmpaaDoor.K4
open Go Go.RowKit Go.Shelf Go.Proofs.YtoejhekppfgmpaaDoorW.PrintWords Go.Proofs.YtoejhekppfgmpaaDoorW.PrintLast Go.Proofs.YtoejhekppfgmpaaDoorW.PrintMore Go.Proofs.YtoejhekppfgmpaaDoor.K0 Go.Proofs.YtoejhekppfgmpaaDoor.K2 Go.Proofs.YtoejhekppfgmpaaDoor.K3 Go.Proofs.YtoejhekppfgmpaaDoor.B
set_option linter.unusedVariables false
set_option linter.unusedSimpArgs false
/-- a builder of the call's own that holds these bytes -/
def Bd (w : World) (B b : Nat) (l : List UInt8) : Prop := Lib.IsBuilderF 154 5 B b (Lib.byteCells l) w
theorem bdAt_below {T e : TypeId} {B b : Nat} {p : Value} {bs : List Value} {W W' : World} (h : Lib.BuilderAtF T e B b p bs W) (hb : Below W.heap.size W W') : Lib.BuilderAtF T e B b p bs W' := by
  have hl := h.lt
  obtain ⟨hB, v, hbk, hown, hne⟩ := h
  exact ⟨hB, v, (hb.block _ hl).trans hbk, hown.kept (row := none) (gb_of hb) (by by_cases e : v.ownBlock = none; exact .inl e; exact .inr e), hne⟩
theorem Bd.below {W W' : World} {B b : Nat} {l : List UInt8} (h : Bd W B b l) (hb : Below W.heap.size W W') : Bd W' B b l := Or.imp (fun h => bdAt_below h hb) (fun h => bdAt_below h hb) h
/-- bytes, the highest first -/
def b4 (x : Int) : List Int := [x / 16777216 % 256, x / 65536 % 256, x / 256 % 256, x % 256]
def b8 (x : Int) : List Int := [x / 72057594037927936 % 256, x / 281474976710656 % 256, x / 1099511627776 % 256, x / 4294967296 % 256, x / 16777216 % 256, x / 65536 % 256, x / 256 % 256, x % 256]
/-- the words' bytes -/
def outs (st : List Int) : Nat → List Int
  | 0 => []
  | n + 1 => outs st n ++ b4 (rd st n)
/-- what a hash sums to -/
def fin (kk : List Int) (p : List Int × List Int) (n : Nat) : List Int :=
  outs (Sh.feedL (C kk) (Sh.feedL (C kk) p (Sh.pad n)) (b8 ((n : Int) * 8))).1 8
/-- zeros, as a text -/
def zs (c : Nat) : ByteArray := ⟨(Lib.repeatL (⟨#[0]⟩ : ByteArray).data.toList c).toArray⟩
end Go.Proofs.YtoejhekppfgmpaaDoor.K4
end
section
namespace Go.Proofs.YtoejhekppfgmpaaDoor.K5
open Go Go.RowKit Go.Shelf Go.Proofs.YtoejhekppfgmpaaDoorW.PrintWords Go.Proofs.YtoejhekppfgmpaaDoorW.PrintLast Go.Proofs.YtoejhekppfgmpaaDoorW.PrintMore Go.Proofs.YtoejhekppfgmpaaDoor.K0 Go.Proofs.YtoejhekppfgmpaaDoor.K2 Go.Proofs.YtoejhekppfgmpaaDoor.K3 Go.Proofs.YtoejhekppfgmpaaDoor.K4 Go.Proofs.YtoejhekppfgmpaaDoor.B
set_option linter.unusedVariables false
set_option linter.unusedSimpArgs false
def iv8 : List Int := [1779033703, 3144134277, 1013904242, 2773480762, 1359893119, 2600822924, 528734635, 1541459225]
/-- texts in a block -/
def Ps (w : World) (b : Nat) (xs : List ByteArray) : Prop := ∃ t fr, w.heap[b]? = some (.cells (xs.map Value.string).toArray t fr)
theorem Ps.lt {w : World} {b : Nat} {xs : List ByteArray} (h : Ps w b xs) : b < w.heap.size := by obtain ⟨t, fr, e⟩ := h; exact (Array.getElem?_eq_some_iff.1 e).1
theorem Ps.cell {w : World} {b : Nat} {xs : List ByteArray} (h : Ps w b xs) {i : Nat} (hi : i < xs.length) : w.cell? ⟨b, i, none⟩ = some (.string xs[i]) := by
  obtain ⟨t, fr, e⟩ := h
  rw [cell_of_row w b i _ _ _ e]; simp [hi]
theorem Ps.kept {w w' : World} {b : Nat} {xs : List ByteArray} (h : Ps w b xs) {row : Option Nat} (hg : w.grownBy w' row) (hne : some b ≠ row) : Ps w' b xs := by
  have hl := h.lt
  obtain ⟨t, fr, e⟩ := h
  exact ⟨t, fr, (hg.block _ hl hne).trans e⟩
theorem below_alloc (w : World) (o : Obj) : Below w.heap.size w (w.alloc o) := (Below.refl _ _).alloc (Nat.le_refl _) _
end Go.Proofs.YtoejhekppfgmpaaDoor.K5
end
