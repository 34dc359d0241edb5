/- What the proof of FnKeys leans on, part 30: cut out of the texts of this claim's making by a program (wip/tools/pack.py). -/
import Derived.Test.YtgdcafbdkidamaaGreatDoorKKeys2
import Derived.Test.YtgdcafbdkidamaaGreatDoorKKeys3
import Derived.Test.YtgdcafbdkidamaaGreatDoorKKeys10
import Derived.Below
import Derived.Lib.Hide
import Derived.WalkKit
section
namespace Go.Proofs.YtgdcafbdkidamaaGreatDoor.S5
open Go Go.RowKit Go.Proofs.YtgdcafbdkidamaaGreatDoorW.PrintWords Go.Proofs.YtgdcafbdkidamaaGreatDoorW.PrintLast Go.Proofs.YtgdcafbdkidamaaGreatDoorW.PrintMore
set_option linter.unusedVariables false
set_option linter.unusedSimpArgs false
/-- two bytes of a size, the higher first -/
def sz2 (n : Nat) : List Int := [(n : Int) / 256 % 256, (n : Int) % 256]
def szd (s : ByteArray) : ByteArray := strOfNums (sz2 s.size) ++ s
theorem szd_size (s : ByteArray) : (szd s).size = s.size + 2 := by
  unfold szd
  rw [ByteArray.size_append]
  show 2 + s.size = _
  omega
theorem str2 (w : World) (x y : Int) : (convert 46 9 (.slice (some ⟨w.heap.size, 0, none⟩) 2 2)).run Tryz.prog (w.alloc (.cells #[.int .u8 x, .int .u8 y] 5 (0, 0))) = .ok (.string (strOfNums [x, y])) (w.alloc (.cells #[.int .u8 x, .int .u8 y] 5 (0, 0))) :=
  own_string (P := Tryz.prog) (base := 0) (n := 2) Tryz.underlying46 Tryz.underlying5 Tryz.underlying9 (xs := [x, y])
    ⟨rfl, .inr ⟨w.heap.size, 2, _, rfl, Nat.zero_le _, heap_alloc_new w _, Nat.le_refl _, by unfold maxLen; decide, rfl, rfl⟩⟩
def spec_l5Sized.f (a0 : ByteArray) : Option ByteArray := if a0.size < 274877906944 then some (szd a0) else none
set_option maxRecDepth 100000 in
set_option maxHeartbeats 4000000 in
theorem spec_l5Sized.calls (a0 : ByteArray) (r : ByteArray) (w : World) (h : spec_l5Sized.f a0 = some r) :
    Calls Tryz.prog 78 #[.string a0] w fun e w' => e = .returned (.string r) ∧ Below w.heap.size w w' := by
  unfold spec_l5Sized.f at h
  split at h
  case isFalse => cases h
  obtain rfl := Option.some.inj h
  rename_i hs
  have e1 : wrap64 ((a0.size : Int) / 256) = (a0.size : Int) / 256 := by unfold wrap64; omega
  have e2 : ((a0.size : Int)).tdiv 256 = (a0.size : Int) / 256 := Int.tdiv_eq_ediv_of_nonneg (by omega)
  have hl : ¬ 9223372036854775807 < (strOfNums [(a0.size : Int) / 256 % 256, (a0.size : Int) % 256]).size + a0.size := by
    show ¬ 9223372036854775807 < 2 + a0.size
    omega
  have hs2 := str2 w ((a0.size : Int) / 256 % 256) ((a0.size : Int) % 256)
  unfold szd sz2
  generalize hz : (a0.size : Int) = z at *
  go_enter Tryz.func78, Tryz.ntmps78
  go_wp2
  go_ret
  exact ⟨rfl, (Below.refl _ w).alloc (Nat.le_refl _) _⟩
end Go.Proofs.YtgdcafbdkidamaaGreatDoor.S5
end
