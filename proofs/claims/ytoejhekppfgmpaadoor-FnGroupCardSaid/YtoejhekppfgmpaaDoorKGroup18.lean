/- What the proof of FnGroup leans on, part 18: cut out of the texts of this claim's making by a program (wip/tools/pack.py). -/
import Derived.Test.YtoejhekppfgmpaaDoorKGroup16
import Derived.Test.YtoejhekppfgmpaaDoorKGroup17
import Derived.Lib.BufferWrite
import Derived.Lib.Hide
import Derived.Lib.IndexBytes
import Derived.LoopTactic
import Derived.StillTailTactics
import Derived.WalkSpells
section
namespace Go.Proofs.YtoejhekppfgmpaaDoor.K3
open Go Go.RowKit Go.Proofs.YtoejhekppfgmpaaDoorW.PrintWords Go.Proofs.YtoejhekppfgmpaaDoorW.PrintLast Go.Proofs.YtoejhekppfgmpaaDoorW.PrintMore Go.Proofs.YtoejhekppfgmpaaDoor.K0 Go.Proofs.YtoejhekppfgmpaaDoor.K2
set_option linter.unusedVariables false
set_option linter.unusedSimpArgs false
/-- the step of a block -/
def C (kk : List Int) (st blk : List Int) : List Int := Sx.block kk st blk 0
/-- a running hash in a block: its words, what waits in the block -/
def HS (w : World) (g : Nat) (p : List Int × List Int) (size : Int) : Prop := ∃ blk, HB w g p.1 blk p.2.length size ∧ blk.take p.2.length = p.2 ∧ p.2.length < 64
theorem HS.kept {w w' : World} {g : Nat} {p : List Int × List Int} {size : Int} (H : HS w g p size) {row : Option Nat} (hg : w.grownBy w' row) (hne : some g ≠ row) : HS w' g p size := by
  obtain ⟨b, h1, h2, h3⟩ := H; exact ⟨b, h1.kept hg hne, h2, h3⟩
theorem HS.lt {w : World} {g : Nat} {p : List Int × List Int} {size : Int} (H : HS w g p size) : g < w.heap.size := by obtain ⟨b, h1, _⟩ := H; exact h1.lt
theorem Rw_kept {kk : List Int} {w w' : World} (hR : Rw kk w) {row : Option Nat} (hg : w.grownBy w' row) (hne : some 3 ≠ row) : Rw kk w' := by
  obtain ⟨t, fr, e⟩ := hR
  exact ⟨t, fr, (hg.block _ (Array.getElem?_eq_some_iff.1 e).1 hne).trans e⟩
end Go.Proofs.YtoejhekppfgmpaaDoor.K3
end
