/- What the proof of FnGroup leans on, part 16: cut out of the texts of this claim's making by a program (wip/tools/pack.py). -/
import Derived.Test.YtoejhekppfgmpaaDoorKGroup4
import Derived.Test.YtoejhekppfgmpaaDoorKGroup13
import Derived.BigQuiet
import Derived.Deep.QuietTactic
import Derived.KernelRfl
import Derived.Lib.Hide
import Derived.LoopTactic
import Derived.StillTailTactics
import Derived.Test.YtoejhekppfgmpaaDoorProg
import Derived.WalkKit
section
namespace Go.Proofs.YtoejhekppfgmpaaDoor.K2
open Go Go.RowKit Go.Proofs.YtoejhekppfgmpaaDoorW.PrintWords Go.Proofs.YtoejhekppfgmpaaDoorW.PrintLast Go.Proofs.YtoejhekppfgmpaaDoorW.PrintMore Go.Proofs.YtoejhekppfgmpaaDoor.K0
set_option linter.unusedVariables false
set_option linter.unusedSimpArgs false
set_option maxRecDepth 100000
theorem gb_of {B : Nat} {w W : World} (h : Below B w W) (hB : B = w.heap.size := by rfl) : w.grownBy W none := by
  subst hB; exact ⟨h.os, h.tape, h.output, h.size, fun k hk _ => h.block k hk⟩
/-- a box of eight words -/
def S8 (w : World) (B : Nat) (s : Sx.W8) : Prop := w.heap[B]? = some (.cells #[.int .u32 s.a, .int .u32 s.b, .int .u32 s.c, .int .u32 s.d, .int .u32 s.e, .int .u32 s.f, .int .u32 s.g, .int .u32 s.h] 202 (0, 0))
section
variable {w : World} {B : Nat} {s : Sx.W8}
theorem S8.lt (h : S8 w B s) : B < w.heap.size := (Array.getElem?_eq_some_iff.1 h).1
theorem S8.c0 (h : S8 w B s) : w.cell? ⟨B, 0, none⟩ = some (.int .u32 s.a) := (cell_of_row w B 0 _ _ _ h).trans rfl
theorem S8.c1 (h : S8 w B s) : w.cell? ⟨B, 1, none⟩ = some (.int .u32 s.b) := (cell_of_row w B 1 _ _ _ h).trans rfl
theorem S8.c2 (h : S8 w B s) : w.cell? ⟨B, 2, none⟩ = some (.int .u32 s.c) := (cell_of_row w B 2 _ _ _ h).trans rfl
theorem S8.c3 (h : S8 w B s) : w.cell? ⟨B, 3, none⟩ = some (.int .u32 s.d) := (cell_of_row w B 3 _ _ _ h).trans rfl
theorem S8.c4 (h : S8 w B s) : w.cell? ⟨B, 4, none⟩ = some (.int .u32 s.e) := (cell_of_row w B 4 _ _ _ h).trans rfl
theorem S8.c5 (h : S8 w B s) : w.cell? ⟨B, 5, none⟩ = some (.int .u32 s.f) := (cell_of_row w B 5 _ _ _ h).trans rfl
theorem S8.c6 (h : S8 w B s) : w.cell? ⟨B, 6, none⟩ = some (.int .u32 s.g) := (cell_of_row w B 6 _ _ _ h).trans rfl
theorem S8.c7 (h : S8 w B s) : w.cell? ⟨B, 7, none⟩ = some (.int .u32 s.h) := (cell_of_row w B 7 _ _ _ h).trans rfl
end
end Go.Proofs.YtoejhekppfgmpaaDoor.K2
end
