/- What the proof of FnKeys leans on, part 21: cut out of the texts of this claim's making by a program (wip/tools/pack.py). -/
import Derived.Test.YtgdcafbdkidamaaGreatDoorKKeys1
import Derived.Test.YtgdcafbdkidamaaGreatDoorKKeys5
import Derived.Test.YtgdcafbdkidamaaGreatDoorKKeys10
import Derived.KernelRfl
section
namespace Go.Proofs.YtgdcafbdkidamaaGreatDoor.Ve
open Go Go.RowKit Go.Proofs.YtgdcafbdkidamaaGreatDoorW.PrintWords Go.Proofs.YtgdcafbdkidamaaGreatDoorW.PrintLast
set_option linter.unusedVariables false
abbrev tBs : TypeId := 46
abbrev tU8 : TypeId := 5
theorem cvn (xs : List Int) (n : Nat) (hn : xs.length = n) (hl : n ≤ 1000) (g : Nat) (w : World) {t : TypeId} (h : w.heap[g]? = some (.cells (xs.map (Value.int .u8)).toArray t (0, 0))) : (convert tBs 9 (.slice (some ⟨g, 0, none⟩) n n)).run Tryz.prog w = .ok (.string (strOfNums xs)) w :=
  own_string (P := Tryz.prog) (base := 0) (n := n) (e' := t) Tryz.underlying46 Tryz.underlying5 Tryz.underlying9 (xs := xs)
    ⟨by simp [nums, hn], .inr ⟨g, n, _, rfl, Nat.zero_le _, h, by simp, by unfold maxLen; omega, by simp [hn], by subst hn; exact List.take_of_length_le (by simp)⟩⟩
theorem u8_mod (x : Int) : IntKind.u8.wrap x = x % 256 := by simp [IntKind.wrap, IntKind.bits, IntKind.signed]
end Go.Proofs.YtgdcafbdkidamaaGreatDoor.Ve
end
