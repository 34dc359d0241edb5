/- What the proof of FnKeys leans on, part 44: cut out of the texts of this claim's making by a program (wip/tools/pack.py). -/
import Derived.Test.YtgdcafbdkidamaaGreatDoorKKeys19
import Derived.Test.YtgdcafbdkidamaaGreatDoorKKeys43
import Derived.Deep.Strs
import Derived.LaidMore
import Derived.Lib.LaidTab
import Derived.Lib.SmallJoins
import Derived.ProofKit
import Derived.Stop.Joined
import Derived.Test.YtgdcafbdkidamaaGreatDoorRows
section
namespace Go.Proofs.YtgdcafbdkidamaaGreatDoor.L2
open Go Go.RowKit Go.Proofs.YtgdcafbdkidamaaGreatDoor.G2 Go.ChangeShapes Go.WideShapes
theorem gR : Tryz.prog.globalNamed "loop.example/s02095/impl.roundWords" = some 3 := by kernel_rfl
theorem tR : (Tryz.prog.globals[3]?).map (·.type) = some 206 := by kernel_rfl
theorem cA : Tryz.prog.cellsOf 206 = 64 := by kernel_rfl
theorem cE : Tryz.prog.cellsOf 171 = 1 := by kernel_rfl
theorem heap_of_var {P : Program} {w : World} {n : String} {g : Nat} {cs : Array Value} (hg : P.globalNamed n = some g) (h : w.var? P n = some cs) : ∃ t fr, w.heap[g]? = some (.cells cs t fr) := by
  simp only [World.var?, hg, Option.bind_some] at h
  split at h
  · rename_i c t fr e
    obtain rfl := Option.some.inj h
    exact ⟨t, fr, e⟩
  · cases h
set_option maxRecDepth 100000 in
theorem tab : (Rows.laid_loop_example_s02095_impl_roundWords : DataW Unit) = Lib.tabData .u32 Ks.kk := by kernel_rfl
theorem words_of {W : World} {t : TypeId} {cs : Array Value} {fuel : Nat} {p : List MemPlace} (ht : (Tryz.prog.globals[3]?).map (·.type) = some t) (hv : W.var? Tryz.prog "loop.example/s02095/impl.roundWords" = some cs)
    (hd : DataW.trod (fun _ => ()) Tryz.prog W 0 (fun _ => true) false fuel t cs.toList = some (Rows.laid_loop_example_s02095_impl_roundWords, p)) : G W := by
  obtain rfl := Option.some.inj (tR.symm.trans ht)
  rw [tab] at hd
  have hc := Lib.cells_of_tab Tryz.underlying206 Tryz.underlying171 cE cA hd
  obtain ⟨t, fr, e⟩ := heap_of_var gR hv
  refine ⟨t, fr, ?_⟩
  rw [e]
  obtain ⟨l⟩ := cs
  simp only at hc
  subst hc
  rfl
theorem G_of_laid {W : World} (h : laidMetH Tryz.prog [("loop.example/s02095/impl.roundWords", Rows.laid_loop_example_s02095_impl_roundWords)] W) : G W := by
  rw [MakeChecks.laidMetH_plain _ _ _ (by kernel_rfl)] at h
  obtain ⟨ps, ⟨g0, t0, cs0, f0, p0, q0, hg0, ht0, hv0, hd0, _, _⟩, _, _⟩ := h
  obtain rfl := Option.some.inj (gR.symm.trans hg0)
  exact words_of ht0 hv0 hd0
end Go.Proofs.YtgdcafbdkidamaaGreatDoor.L2
end
section
namespace Go.Proofs.YtgdcafbdkidamaaGreatDoor.L5
open Go Go.RowKit Go.ChangeShapes Go.WideShapes
theorem G_of_laid {W : World} (h : laidMetH Tryz.prog [("math/bits.deBruijn32tab", Rows.laid_math_bits_deBruijn32tab), ("math/bits.deBruijn64tab", Rows.laid_math_bits_deBruijn64tab), ("internal/strconv.uint64pow10", Rows.laid_internal_strconv_uint64pow10), ("loop.example/s02095/impl.roundWords", Rows.laid_loop_example_s02095_impl_roundWords), ("loop.example/s02095/impl.zero", Rows.laid_loop_example_s02095_impl_zero)] W) : G3.G W := by
  rw [MakeChecks.laidMetH_plain _ _ _ (by kernel_rfl)] at h
  obtain ⟨ps, ⟨g0, t0, cs0, f0, p0, q0, hg0, ht0, hv0, hd0, ⟨g1, t1, cs1, f1, p1, q1, hg1, ht1, hv1, hd1, ⟨g2, t2, cs2, f2, p2, q2, hg2, ht2, hv2, hd2, ⟨g3, t3, cs3, f3, p3, q3, hg3, ht3, hv3, hd3, ⟨g4, t4, cs4, f4, p4, q4, hg4, ht4, hv4, hd4, _⟩, _⟩, _⟩, _⟩, _⟩, _⟩ := h
  obtain rfl := Option.some.inj (L2.gR.symm.trans hg3)
  obtain rfl := Option.some.inj (L1.gZero.symm.trans hg4)
  exact ⟨L1.zero_of ht4 hv4 hd4, L2.words_of ht3 hv3 hd3⟩
end Go.Proofs.YtgdcafbdkidamaaGreatDoor.L5
end
