/- What the proof of FnExactHashToGroup leans on, part 35: cut out of the texts of this claim's making by a program (wip/tools/pack.py). -/
import Derived.Test.YtoejhekppfgmpaaDoorKHashToGroup23
import Derived.Test.YtoejhekppfgmpaaDoorKHashToGroup34
import Derived.Deep.Strs
import Derived.LaidMore
import Derived.Lib.LaidTab
import Derived.Lib.SmallJoins
import Derived.ProofKit
import Derived.Stop.Joined
import Derived.Test.YtoejhekppfgmpaaDoorRows
section
namespace Go.Proofs.YtoejhekppfgmpaaDoor.L2
open Go Go.RowKit Go.Proofs.YtoejhekppfgmpaaDoor.G2 Go.ChangeShapes Go.WideShapes
theorem gR : Tryd.prog.globalNamed "loop.example/s02095/impl.roundWords" = some 3 := by kernel_rfl
theorem tR : (Tryd.prog.globals[3]?).map (·.type) = some 211 := by kernel_rfl
theorem cA : Tryd.prog.cellsOf 211 = 64 := by kernel_rfl
theorem cE : Tryd.prog.cellsOf 176 = 1 := by kernel_rfl
theorem heap_of_var {P : Program} {w : World} {n : String} {g : Nat} {cs : Array Value} (hg : P.globalNamed n = some g) (h : w.var? P n = some cs) : ∃ t fr, w.heap[g]? = some (.cells cs t fr) := by
  simp only [World.var?, hg, Option.bind_some] at h
  split at h
  · rename_i c t fr e
    obtain rfl := Option.some.inj h
    exact ⟨t, fr, e⟩
  · cases h
set_option maxRecDepth 100000 in
theorem tab : (Rows.laid_loop_example_s02095_impl_roundWords : DataW Unit) = Lib.tabData .u32 Ks.kk := by kernel_rfl
theorem words_of {W : World} {t : TypeId} {cs : Array Value} {fuel : Nat} {p : List MemPlace} (ht : (Tryd.prog.globals[3]?).map (·.type) = some t) (hv : W.var? Tryd.prog "loop.example/s02095/impl.roundWords" = some cs)
    (hd : DataW.trod (fun _ => ()) Tryd.prog W 0 (fun _ => true) false fuel t cs.toList = some (Rows.laid_loop_example_s02095_impl_roundWords, p)) : G W := by
  obtain rfl := Option.some.inj (tR.symm.trans ht)
  rw [tab] at hd
  have hc := Lib.cells_of_tab Tryd.underlying211 Tryd.underlying176 cE cA hd
  obtain ⟨t, fr, e⟩ := heap_of_var gR hv
  refine ⟨t, fr, ?_⟩
  rw [e]
  obtain ⟨l⟩ := cs
  simp only at hc
  subst hc
  rfl
theorem G_of_laid {W : World} (h : laidMetH Tryd.prog [("loop.example/s02095/impl.roundWords", Rows.laid_loop_example_s02095_impl_roundWords)] W) : G W := by
  rw [MakeChecks.laidMetH_plain _ _ _ (by kernel_rfl)] at h
  obtain ⟨ps, ⟨g0, t0, cs0, f0, p0, q0, hg0, ht0, hv0, hd0, _, _⟩, _, _⟩ := h
  obtain rfl := Option.some.inj (gR.symm.trans hg0)
  exact words_of ht0 hv0 hd0
end Go.Proofs.YtoejhekppfgmpaaDoor.L2
end
section
namespace Go.Proofs.YtoejhekppfgmpaaDoor.L3
open Go Go.RowKit Go.ChangeShapes Go.WideShapes
theorem G_of_laid {W : World} (h : laidMetH Tryd.prog [("loop.example/s02095/impl.roundWords", Rows.laid_loop_example_s02095_impl_roundWords), ("loop.example/s02095/impl.zero", Rows.laid_loop_example_s02095_impl_zero)] W) : G3.G W := by
  rw [MakeChecks.laidMetH_plain _ _ _ (by kernel_rfl)] at h
  obtain ⟨ps, ⟨g0, t0, cs0, f0, p0, q0, hg0, ht0, hv0, hd0, ⟨g1, t1, cs1, f1, p1, q1, hg1, ht1, hv1, hd1, _⟩, _⟩, _⟩ := h
  obtain rfl := Option.some.inj (L2.gR.symm.trans hg0)
  obtain rfl := Option.some.inj (L1.gZero.symm.trans hg1)
  exact ⟨L1.zero_of ht1 hv1 hd1, L2.words_of ht0 hv0 hd0⟩
end Go.Proofs.YtoejhekppfgmpaaDoor.L3
end
