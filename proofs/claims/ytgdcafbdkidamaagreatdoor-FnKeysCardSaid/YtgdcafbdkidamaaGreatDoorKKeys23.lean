/- What the proof of FnKeys leans on, part 23: cut out of the texts of this claim's making by a program (wip/tools/pack.py). -/
import Derived.Test.YtgdcafbdkidamaaGreatDoorKKeys4
import Derived.Test.YtgdcafbdkidamaaGreatDoorKKeys22
import Derived.KernelRfl
section
namespace Go.Proofs.YtgdcafbdkidamaaGreatDoor.Ve
open Go Go.RowKit Go.Proofs.YtgdcafbdkidamaaGreatDoorW.PrintWords Go.Proofs.YtgdcafbdkidamaaGreatDoorW.PrintLast
set_option linter.unusedVariables false
/-- slots told one by one; the others hold whatever they hold -/
def ovr : List (Nat × AV) → (Nat → Value) → Tmps
  | [], V, t => .v (V t)
  | e :: r, V, t => bif Nat.beq e.1 t then e.2 else ovr r V t
def pickT (T : Tmps) : List Nat → Option (List (Nat × AV))
  | [] => some []
  | k :: r => match fA (T k), pickT T r with
    | .v x, some l => some ((k, .v x) :: l)
    | .p j o, some l => some ((k, .p j o) :: l)
    | .sl j o m c, some l => some ((k, .sl j o m c) :: l)
    | _, none => none
theorem pickT_eq {T : Tmps} : ∀ {ks : List Nat} {l : List (Nat × AV)}, pickT T ks = some l → ∀ e ∈ l, e.2 = T e.1
  | [], l, h, e, he => by obtain rfl := Option.some.inj h; cases he
  | k :: r, l, h, e, he => by
    unfold pickT at h
    rw [fA_eq] at h
    cases hr : pickT T r with
    | none => rw [hr] at h; cases hT : T k <;> rw [hT] at h <;> cases h
    | some q =>
      have ih := pickT_eq hr
      have hl : l = (k, T k) :: q := by
        rw [hr] at h
        cases hT : T k <;> rw [hT] at h <;> exact (Option.some.inj h).symm
      rw [hl] at he
      rcases List.mem_cons.1 he with rfl | he
      · rfl
      · exact ih e he
theorem ovr_den {T : Tmps} {G : Nat → Nat} : ∀ {l : List (Nat × AV)} (t : Nat), (∀ e ∈ l, e.2 = T e.1) → (ovr l (fun t => (T t).den G) t).den G = (T t).den G
  | [], t, h => rfl
  | e :: r, t, h => by
    unfold ovr
    cases hb : Nat.beq e.1 t with
    | true =>
      have := Nat.eq_of_beq_eq_true hb
      rw [← this]
      show e.2.den G = _
      rw [h e List.mem_cons_self]
    | false => exact ovr_den t (fun x hx => h x (List.mem_cons_of_mem _ hx))
def allLt (n : Nat) (l : List (Nat × AV)) : Bool := l.all (fun e => e.2.lt n)
theorem ovr_lt {n : Nat} {V : Nat → Value} : ∀ {l : List (Nat × AV)} (t : Nat), allLt n l = true → (ovr l V t).lt n = true
  | [], t, h => rfl
  | e :: r, t, h => by
    simp only [allLt, List.all_cons, Bool.and_eq_true] at h
    unfold ovr
    cases hb : Nat.beq e.1 t with
    | true => exact h.1
    | false => exact ovr_lt t h.2
def wfB (n : Nat) (bl : List (Option Box)) : Bool := bl.all fun b => match b with
  | none => true
  | some b => (List.range b.m).all fun o => (b.cells o).lt n
theorem inv_core {X : Cx} {T : Tmps} {H : Heap} {n' : Nat} {ks : List Nat} {l : List (Nat × AV)} {bl : List (Option Box)} (hT : pickT T ks = some l) (hL : allLt n' l = true) (hH : fH H n' 0 = some bl) (hw : wfB n' bl = true) {G : Nat → Nat} {w : World} (hh : HoldsH X G H w) :
    ∃ V, act X.nt G T = act X.nt G (ovr l V) ∧ WfT (ovr l V) n' ∧ WfH (hl bl) n' ∧ HoldsH X G (hl bl) w := by
  obtain ⟨b1, b2⟩ := fH_eq hH
  have back : ∀ j c, hl bl j = some c → ∃ b, H j = some b ∧ b.Same c := by
    intro j c hc
    by_cases hj : j < n'
    · rcases b2 j hj with ⟨_, q⟩ | ⟨b, c', hb, hc', s⟩
      · rw [q] at hc; cases hc
      · rw [Nat.zero_add] at hb
        rw [hc'] at hc
        obtain rfl := Option.some.inj hc
        exact ⟨b, hb, s⟩
    · unfold hl at hc
      rw [List.getElem?_eq_none (by omega)] at hc
      cases hc
  refine ⟨fun t => (T t).den G, act_ext (fun t _ => (ovr_den t (pickT_eq hT)).symm), fun t => ovr_lt t hL, ⟨fun j hj => ?_, fun j c hc o ho => ?_⟩, hh.keep, fun j c hc => ?_, fun j c hc h0 => ?_, fun j c hc h2 => ?_, fun i j x y hx hy hG => ?_, hh.fix⟩
  · unfold hl; rw [List.getElem?_eq_none (by omega)]; rfl
  · have hm : some c ∈ bl := by
      unfold hl at hc
      cases hq : bl[j]? with
      | none => rw [hq] at hc; cases hc
      | some q => rw [hq] at hc; rw [← show q = some c from hc]; exact List.mem_of_getElem? hq
    have := List.all_eq_true.1 hw _ hm
    exact List.all_eq_true.1 this o (List.mem_range.2 ho)
  · obtain ⟨b, hb, s⟩ := back j c hc
    rw [s.obj G]; exact hh.obj j b hb
  · obtain ⟨b, hb, s⟩ := back j c hc
    rw [s.fr]; exact hh.own j b hb (s.kd ▸ h0)
  · obtain ⟨b, hb, s⟩ := back j c hc
    rw [s.fr]; exact hh.wr j b hb (s.kd ▸ h2)
  · obtain ⟨b, hb, _⟩ := back i x hx
    obtain ⟨c, hc, _⟩ := back j y hy
    exact hh.inj i j b c hb hc hG
/-- The loop's rounds from the told slots (ks) and the first n' boxes on. -/
theorem wl_inv {X : Cx} {c : Code} {Q : Exit → Tmps → Heap → Nat → Prop} {m : Nat} {T : Tmps} {H : Heap} {n : Nat} (ks : List Nat) (n' : Nat) {l : List (Nat × AV)} {bl : List (Option Box)} (h : ∀ V, WL X c Q m (ovr l V) (hl bl) n')
    (hT : pickT T ks = some l := by rfl) (hH : fH H n' 0 = some bl := by rfl) (hL : allLt n' l = true := by rfl) (hw : wfB n' bl = true := by rfl) (hk : Nat.ble X.k0 n' = true := by rfl) : WL X c Q m T H n := by
  intro hg _ _ _ G w hh
  obtain ⟨V, e, h1, h2, h3⟩ := inv_core hT hL hH hw hh
  rw [e]
  exact h V hg (Nat.le_of_ble_eq_true hk) h1 h2 G w h3
end Go.Proofs.YtgdcafbdkidamaaGreatDoor.Ve
end
