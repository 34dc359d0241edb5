/- What the proof of FnKeys leans on, part 32: cut out of the texts of this claim's making by a program (wip/tools/pack.py). -/
import Derived.Test.YtgdcafbdkidamaaGreatDoorKKeys2
import Derived.Test.YtgdcafbdkidamaaGreatDoorKKeys3
import Derived.Test.YtgdcafbdkidamaaGreatDoorKKeys10
import Derived.Below
import Derived.Lib.Hide
import Derived.Lib.ItoaNum
import Derived.WalkKit
section
namespace Go.Proofs.YtgdcafbdkidamaaGreatDoor.T5
open Go Go.RowKit Go.Proofs.YtgdcafbdkidamaaGreatDoorW.PrintWords Go.Proofs.YtgdcafbdkidamaaGreatDoorW.PrintLast Go.Proofs.YtgdcafbdkidamaaGreatDoorW.PrintMore
set_option linter.unusedVariables false
set_option linter.unusedSimpArgs false
def dig (m : Int) : ByteArray := strOfNums [48 + m]
def tagV (word : ByteArray) (m : Int) : ByteArray := ((word ++ ⟨#[84, 79, 89, 80, 82, 70, 45]⟩) ++ dig m) ++ ⟨#[45, 77, 54, 49]⟩
theorem dec_one (i : Nat) (h : i < 10) : (⟨(Lib.decDigits i).toArray⟩ : ByteArray) = dig i := by
  rw [Lib.decDigits, dif_pos h]
  unfold dig
  show (⟨#[UInt8.ofNat (48 + i)]⟩ : ByteArray) = ⟨#[UInt8.ofNat (48 + (i : Int)).toNat]⟩
  rw [show (48 + (i : Int)).toNat = 48 + i by omega]
set_option maxRecDepth 100000 in
theorem itoa_c (i : Nat) (hi : i < 10) (w : World) : Calls Tryz.prog 138 #[.int .i64 i] w fun e w' => e = .returned (.string (dig i)) ∧ w' = w := by
  have h := Tryz.internal_strconv_Itoa_small i (by omega) w
  rw [dec_one i hi] at h
  go_enter Tryz.func138, Tryz.ntmps138
  go_wp2_with (go_at_call 157; (with_reducible refine h.mono ?_); rintro e w2 ⟨rfl, rfl⟩)
  go_ret
  exact ⟨rfl, rfl⟩
def impl_context_tag.f (m : Int) (word : ByteArray) : Option ByteArray := if 0 ≤ m then if m ≤ 2 then if word.size < 274877906944 then some (tagV word m) else none else none else none
set_option maxRecDepth 100000 in
set_option maxHeartbeats 4000000 in
theorem impl_context_tag.calls (m : Int) (word r : ByteArray) (w : World) (h : impl_context_tag.f m word = some r) :
    Calls Tryz.prog 104 #[.int .i64 m, .string word] w fun e w' => e = .returned (.string r) ∧ Below w.heap.size w w' := by
  unfold impl_context_tag.f at h
  split at h
  case isFalse => cases h
  split at h
  case isFalse => cases h
  split at h
  case isFalse => cases h
  rename_i h0 h2 hs
  obtain rfl := Option.some.inj h
  obtain ⟨i, rfl⟩ := Int.eq_ofNat_of_zero_le h0
  have h1 : ¬ 9223372036854775807 < word.size + 7 := by omega
  have h3 : ¬ 9223372036854775807 < word.size + 7 + (dig (i : Int)).size := by
    show ¬ 9223372036854775807 < word.size + 7 + 1
    omega
  have h4 : ¬ 9223372036854775807 < word.size + 7 + (dig (i : Int)).size + 4 := by
    show ¬ 9223372036854775807 < word.size + 7 + 1 + 4
    omega
  have hc := itoa_c i (by omega) w
  unfold tagV
  generalize hd : dig (i : Int) = d at *
  go_enter Tryz.func104, Tryz.ntmps104
  go_wp2_with (go_at_call 138; (with_reducible refine hc.mono ?_); rintro e w2 ⟨rfl, rfl⟩)
  go_ret
  exact ⟨rfl, Below.refl _ _⟩
def spec_l5Tag.f (word : ByteArray) (m : Int) : Option ByteArray := if 0 ≤ m then if m ≤ 2 then if word.size < 274877906944 then some (tagV word m) else none else none else none
set_option maxRecDepth 100000 in
set_option maxHeartbeats 4000000 in
theorem spec_l5Tag.calls (word : ByteArray) (m : Int) (r : ByteArray) (w : World) (h : spec_l5Tag.f word m = some r) :
    Calls Tryz.prog 89 #[.string word, .int .i64 m] w fun e w' => e = .returned (.string r) ∧ Below w.heap.size w w' := by
  unfold spec_l5Tag.f at h
  split at h
  case isFalse => cases h
  split at h
  case isFalse => cases h
  split at h
  case isFalse => cases h
  rename_i h0 h2 hs
  obtain rfl := Option.some.inj h
  have h1 : ¬ 9223372036854775807 < word.size + 7 := by omega
  have h3 : ¬ 9223372036854775807 < word.size + 7 + (dig m).size := by
    show ¬ 9223372036854775807 < word.size + 7 + 1
    omega
  have h4 : ¬ 9223372036854775807 < word.size + 7 + (dig m).size + 4 := by
    show ¬ 9223372036854775807 < word.size + 7 + 1 + 4
    omega
  have hx : (Instr.sliceAt 9 (.string ⟨#[48, 49, 50]⟩) (some (.int .i64 m)) (some (.int .i64 (m + 1))) none).run Tryz.prog w = .ok (.string (dig m)) w := by
    rcases (by omega : m = 0 ∨ m = 1 ∨ m = 2) with rfl | rfl | rfl <;> kernel_rfl
  have e1 : wrap64 (m + 1) = m + 1 := by unfold wrap64; omega
  unfold tagV
  generalize hd : dig m = d at *
  go_enter Tryz.func89, Tryz.ntmps89
  go_wp2
  go_ret
  exact ⟨rfl, Below.refl _ _⟩
end Go.Proofs.YtgdcafbdkidamaaGreatDoor.T5
end
