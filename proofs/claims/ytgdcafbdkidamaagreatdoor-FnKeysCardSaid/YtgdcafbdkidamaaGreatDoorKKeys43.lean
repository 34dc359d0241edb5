/- What the proof of FnKeys leans on, part 43: cut out of the texts of this claim's making by a program (wip/tools/pack.py). -/
import Derived.Test.YtgdcafbdkidamaaGreatDoorKKeys10
import Derived.Deep.Strs
import Derived.LaidMore
import Derived.Lib.SmallJoins
import Derived.ProofKit
import Derived.Stop.Joined
import Derived.Test.YtgdcafbdkidamaaGreatDoorRows
section
namespace Go.Proofs.YtgdcafbdkidamaaGreatDoor.L1
open Go Go.RowKit Go.Proofs.YtgdcafbdkidamaaGreatDoor.G1 Go.ChangeShapes Go.WideShapes
theorem gZero : Tryz.prog.globalNamed "loop.example/s02095/impl.zero" = some 0 := by kernel_rfl
theorem tZero : (Tryz.prog.globals[0]?).map (·.type) = some 27 := by kernel_rfl
theorem cZero : Tryz.prog.cellsOf 27 = 3 := by kernel_rfl
theorem cU64 : Tryz.prog.cellsOf 22 = 1 := by kernel_rfl
theorem cBool : Tryz.prog.cellsOf 4 = 1 := by kernel_rfl
theorem three_of {α : Type} {l : List α} (h : l.length = 3) : ∃ a b c, l = [a, b, c] := by
  match l, h with
  | [a, b, c], _ => exact ⟨a, b, c, rfl⟩
theorem heap_of_var {P : Program} {w : World} {n : String} {g : Nat} {cs : Array Value} (hg : P.globalNamed n = some g) (h : w.var? P n = some cs) : ∃ t fr, w.heap[g]? = some (.cells cs t fr) := by
  simp only [World.var?, hg, Option.bind_some] at h
  split at h
  · rename_i c t fr e
    obtain rfl := Option.some.inj h
    exact ⟨t, fr, e⟩
  · cases h
set_option maxRecDepth 100000 in
theorem zero_of {W : World} {t : TypeId} {cs : Array Value} {fuel : Nat} {p : List MemPlace} (ht : (Tryz.prog.globals[0]?).map (·.type) = some t) (hv : W.var? Tryz.prog "loop.example/s02095/impl.zero" = some cs)
    (hd : DataW.trod (fun _ => ()) Tryz.prog W 0 (fun _ => true) false fuel t cs.toList = some (Rows.laid_loop_example_s02095_impl_zero, p)) : G W := by
  obtain rfl := Option.some.inj (tZero.symm.trans ht)
  obtain ⟨y0, y1, y2, n, hx, hl, h0, h1, h2⟩ := Go.Deep.trod_struct3 Tryz.underlying27 hd
  rw [cZero] at hl
  obtain ⟨l⟩ := cs
  obtain ⟨c0, c1, c2, rfl⟩ := three_of hl
  have _z := ()
  · simp only [cU64, cBool] at h0 h1 h2
    simp only [Rows.laid_loop_example_s02095_impl_zero, Prod.mk.injEq, DataW.agg.injEq, List.cons.injEq, and_true] at hx
    obtain ⟨⟨e0, e1, e2⟩, _⟩ := hx
    obtain ⟨a0, f0, g0, _⟩ := DataW.trod_int Tryz.underlying22 h0
    obtain ⟨a1, f1, g1, _⟩ := DataW.trod_int Tryz.underlying22 h1
    obtain ⟨a2, f2, g2⟩ := DataW.trod_bool Tryz.underlying4 h2
    subst g0 g1 g2
    simp at e0 e1 e2 f0 f1 f2
    subst e0 e1 e2 f0 f1 f2
    exact heap_of_var gZero hv
theorem G_of_laid {W : World} (h : laidMetH Tryz.prog [("loop.example/s02095/impl.zero", Rows.laid_loop_example_s02095_impl_zero)] W) : G W := by
  rw [MakeChecks.laidMetH_plain _ _ _ (by kernel_rfl)] at h
  obtain ⟨ps, ⟨g0, t0, cs0, f0, p0, q0, hg0, ht0, hv0, hd0, _, _⟩, _, _⟩ := h
  obtain rfl := Option.some.inj (gZero.symm.trans hg0)
  exact zero_of ht0 hv0 hd0
end Go.Proofs.YtgdcafbdkidamaaGreatDoor.L1
end
