/- What the proof of FnExactHashToGroup leans on, part 28: cut out of the texts of this claim's making by a program (wip/tools/pack.py). -/
import Derived.Scope
import Derived.WalkMore
section
namespace Go.Proofs.YtoejhekppfgmpaaDoor.G0
open Go
/-- As Q; a jump is answered by what follows its label, under Q'. -/
def fwd (P : Program) (c : Code) (Q' Q : Exit → Act → World → Prop) : Exit → Act → World → Prop
  | .goto l, a, w => ∃ rest, findLabel c l = some rest ∧ rest.wp P Q' a w
  | e, a, w => Q e a w

variable {P : Program} {c : Code} {Q Q' : Exit → Act → World → Prop} {a : Act} {w : World}
/-- what is enough behind the scope's own code -/
def Fine (P : Program) (c : Code) (Q Q' : Exit → Act → World → Prop) : Prop :=
  ∀ (m : Machine) (b : Frame) (k : List Item) (cs : List Frame) (e : Exit) (a : Act) (w : World), Q' e a w → Arrives P m b (.inScope c :: k) cs e a w →
    ∃ e' a' w', Q e' a' w' ∧ Arrives P m b k cs e' a' w'

theorem Fine.stop : Fine P c Q (Exit.noGoto Q) := by
  intro m b k cs e a w hq harr
  cases e with
  | normal => exact ⟨.normal, a, w, hq, Steps.trans harr (.one step_inScope)⟩
  | exit id => exact ⟨.exit id, a, w, hq, fun k' hk => harr k' (by simp [exitTo, hk])⟩
  | goto l => exact hq.elim
  | ret => exact ⟨_, a, w, hq, harr⟩
  | panic ch => exact ⟨_, a, w, hq, harr⟩
  | outgrown => exact ⟨_, a, w, hq, harr⟩

theorem Fine.fwd (h : Fine P c Q Q') : Fine P c Q (fwd P c Q' Q) := by
  intro m b k cs e a w hq harr
  cases e with
  | normal => exact ⟨.normal, a, w, hq, Steps.trans harr (.one step_inScope)⟩
  | exit id => exact ⟨.exit id, a, w, hq, fun k' hk => harr k' (by simp [exitTo, hk])⟩
  | goto l =>
    obtain ⟨rest, hf, hw⟩ := hq
    have hg : gotoIn l (.inScope c :: k) = some (.code rest :: .inScope c :: k) := by simp [gotoIn, hf]
    obtain ⟨e1, a1, w1, hq1, harr1⟩ := hw b (.inScope c :: k) cs
    exact h m b k cs e1 a1 w1 hq1 (.of_steps (harr _ hg) harr1)
  | ret => exact ⟨_, a, w, hq, harr⟩
  | panic ch => exact ⟨_, a, w, hq, harr⟩
  | outgrown => exact ⟨_, a, w, hq, harr⟩

theorem scope_fine (h : Fine P c Q Q') (hw : c.wp P Q' a w) : (Code.scope c).wp P Q a w := by
  intro b k cs
  obtain ⟨e, a1, w1, hq, harr⟩ := hw b (.inScope c :: k) cs
  obtain ⟨e2, a2, w2, hq2, harr2⟩ := h _ b k cs e a1 w1 hq harr
  exact ⟨e2, a2, w2, hq2, .of_steps (.one step_scope) harr2⟩

theorem scope3 (hw : c.wp P (fwd P c (fwd P c (fwd P c (Exit.noGoto Q) Q) Q) Q) a w) : (Code.scope c).wp P Q a w :=
  scope_fine (Fine.fwd (Fine.fwd (Fine.fwd Fine.stop))) hw

end Go.Proofs.YtoejhekppfgmpaaDoor.G0
end
