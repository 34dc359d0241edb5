/- What the proof of FnKeys leans on, part 22: cut out of the texts of this claim's making by a program (wip/tools/pack.py). -/
import Derived.Scope
import Derived.WalkMore
section
namespace Go.Proofs.YtgdcafbdkidamaaGreatDoor.G0
open Go
variable {P : Program} {c : Code} {Q Q' : Exit → Act → World → Prop} {a : Act} {w : World}
/-- what is enough behind the scope's own code -/
def Fine (P : Program) (c : Code) (Q Q' : Exit → Act → World → Prop) : Prop :=
  ∀ (m : Machine) (b : Frame) (k : List Item) (cs : List Frame) (e : Exit) (a : Act) (w : World), Q' e a w → Arrives P m b (.inScope c :: k) cs e a w →
    ∃ e' a' w', Q e' a' w' ∧ Arrives P m b k cs e' a' w'

theorem Fine.stop : Fine P c Q (Exit.noGoto Q) := by
  intro m b k cs e a w hq harr
  cases e with
  | normal => exact ⟨.normal, a, w, hq, Steps.trans harr (.one step_inScope)⟩
  | exit id => exact ⟨.exit id, a, w, hq, fun k' hk => harr k' (by simp [exitTo, hk])⟩
  | goto l => exact hq.elim
  | ret => exact ⟨_, a, w, hq, harr⟩
  | panic ch => exact ⟨_, a, w, hq, harr⟩
  | outgrown => exact ⟨_, a, w, hq, harr⟩

end Go.Proofs.YtgdcafbdkidamaaGreatDoor.G0
end
