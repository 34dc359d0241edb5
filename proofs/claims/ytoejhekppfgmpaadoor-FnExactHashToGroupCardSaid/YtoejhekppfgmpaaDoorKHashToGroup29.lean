/- What the proof of FnExactHashToGroup leans on, part 29: cut out of the texts of this claim's making by a program (wip/tools/pack.py). -/
import Derived.Test.YtoejhekppfgmpaaDoorKHashToGroup5
import Derived.Test.YtoejhekppfgmpaaDoorKHashToGroup28
import Derived.KernelRfl
section
namespace Go.Proofs.YtoejhekppfgmpaaDoor.Ve
open Go Go.RowKit Go.Proofs.YtoejhekppfgmpaaDoorW.PrintWords Go.Proofs.YtoejhekppfgmpaaDoorW.PrintLast
set_option linter.unusedVariables false
def fwdV (X : Cx) (c : Code) (Q' Q : Exit → Tmps → Heap → Nat → Prop) : Exit → Tmps → Heap → Nat → Prop
  | .goto l, T, H, n => ∃ rest, findLabel c l = some rest ∧ WC X rest Q' T H n
  | e, T, H, n => Q e T H n
def nogo (Q : Exit → Tmps → Heap → Nat → Prop) : Exit → Tmps → Heap → Nat → Prop
  | .goto _, _, _, _ => False
  | e, T, H, n => Q e T H n
theorem fwd_post {X : Cx} (hg : X.Good) {c : Code} {Q1 Q : Exit → Tmps → Heap → Nat → Prop} {R : Exit → Act → World → Prop} (hR : ∀ e a w, Post X Q1 e a w → R e a w) {e : Exit} {a : Act} {w : World} (h : Post X (fwdV X c Q1 Q) e a w) : G0.fwd X.P c R (Post X Q) e a w := by
  obtain ⟨T, H, n, G, hq, rfl, k, wT, wH, hh⟩ := h
  cases e with
  | goto l =>
    obtain ⟨rest, hf, hw⟩ := hq
    exact ⟨rest, hf, wp_mono (hw hg k wT wH G w hh) hR⟩
  | normal => exact ⟨T, H, n, G, hq, rfl, k, wT, wH, hh⟩
  | exit _ => exact ⟨T, H, n, G, hq, rfl, k, wT, wH, hh⟩
  | ret => exact ⟨T, H, n, G, hq, rfl, k, wT, wH, hh⟩
  | panic _ => exact ⟨T, H, n, G, hq, rfl, k, wT, wH, hh⟩
  | outgrown => exact ⟨T, H, n, G, hq, rfl, k, wT, wH, hh⟩
theorem nogo_post {X : Cx} {Q : Exit → Tmps → Heap → Nat → Prop} {e : Exit} {a : Act} {w : World} (h : Post X (nogo Q) e a w) : Exit.noGoto (Post X Q) e a w := by
  obtain ⟨T, H, n, G, hq, rfl, k, wT, wH, hh⟩ := h
  cases e with
  | goto l => exact hq.elim
  | normal => exact ⟨T, H, n, G, hq, rfl, k, wT, wH, hh⟩
  | exit _ => exact ⟨T, H, n, G, hq, rfl, k, wT, wH, hh⟩
  | ret => exact ⟨T, H, n, G, hq, rfl, k, wT, wH, hh⟩
  | panic _ => exact ⟨T, H, n, G, hq, rfl, k, wT, wH, hh⟩
  | outgrown => exact ⟨T, H, n, G, hq, rfl, k, wT, wH, hh⟩
theorem wsc {X : Cx} {c : Code} {Q : Exit → Tmps → Heap → Nat → Prop} {T : Tmps} {H : Heap} {n : Nat} (h : WC X c (fwdV X c (fwdV X c (fwdV X c (nogo Q) Q) Q) Q) T H n) : WC X (.scope c) Q T H n := by
  intro hg hk hT hH G w hh
  exact G0.scope3 (wp_mono (h hg hk hT hH G w hh) (fun e a w q => fwd_post hg (fun e a w q => fwd_post hg (fun e a w q => fwd_post hg (fun e a w q => nogo_post q) q) q) q))
theorem wgo {X : Cx} {Q : Exit → Tmps → Heap → Nat → Prop} {T : Tmps} {H : Heap} {n l : Nat} (h : Q (.goto l) T H n) : WC X (.goto l) Q T H n := fun _ hk hT hH G w hh => wp_goto ⟨T, H, n, G, h, rfl, hk, hT, hH, hh⟩
theorem wlb {X : Cx} {Q : Exit → Tmps → Heap → Nat → Prop} {T : Tmps} {H : Heap} {n l : Nat} (h : Q .normal T H n) : WC X (.label l) Q T H n := fun _ hk hT hH G w hh => wp_label ⟨T, H, n, G, h, rfl, hk, hT, hH, hh⟩
theorem rr3 {X : Cx} {c : Code} {Q' Q : Exit → Tmps → Heap → Nat → Prop} {T : Tmps} {H : Heap} {n : Nat} (h : Q .ret T H n) : fwdV X c Q' Q .ret T H n := h
theorem rr4 {X : Cx} {c : Code} {Q' Q : Exit → Tmps → Heap → Nat → Prop} {T : Tmps} {H : Heap} {n : Nat} (h : Q .normal T H n) : fwdV X c Q' Q .normal T H n := h
theorem rr5 {K : Tmps → Heap → Nat → Prop} {Q : Exit → Tmps → Heap → Nat → Prop} {T : Tmps} {H : Heap} {n l : Nat} (h : Q (.goto l) T H n) : thn K Q (.goto l) T H n := h
theorem rg {X : Cx} {c rest : Code} {Q' Q : Exit → Tmps → Heap → Nat → Prop} {T : Tmps} {H : Heap} {n l : Nat} (h : WC X rest Q' T H n) (hf : findLabel c l = some rest := by rfl) : fwdV X c Q' Q (.goto l) T H n := ⟨rest, hf, h⟩
end Go.Proofs.YtoejhekppfgmpaaDoor.Ve
end
