/- What the proof of FnKeys leans on, part 37: cut out of the texts of this claim's making by a program (wip/tools/pack.py). -/
import Derived.Test.YtgdcafbdkidamaaGreatDoorKKeys5
import Derived.Test.YtgdcafbdkidamaaGreatDoorKKeys8
import Derived.Test.YtgdcafbdkidamaaGreatDoorKKeys19
import Derived.Test.YtgdcafbdkidamaaGreatDoorKKeys24
import Derived.Test.YtgdcafbdkidamaaGreatDoorKKeys27
import Derived.Test.YtgdcafbdkidamaaGreatDoorKKeys28
import Derived.Test.YtgdcafbdkidamaaGreatDoorKKeys31
import Derived.Test.YtgdcafbdkidamaaGreatDoorKKeys35
import Derived.Test.YtgdcafbdkidamaaGreatDoorKKeys36
import Derived.KernelRfl
section
namespace Go.Proofs.YtgdcafbdkidamaaGreatDoor.Sl
open Go Go.RowKit Go.Proofs.YtgdcafbdkidamaaGreatDoorW.PrintWords Go.Proofs.YtgdcafbdkidamaaGreatDoorW.PrintLast Go.Proofs.YtgdcafbdkidamaaGreatDoorW.PrintMore Go.Proofs.YtgdcafbdkidamaaGreatDoor.Ve Go.Proofs.YtgdcafbdkidamaaGreatDoor.VeT Go.Proofs.YtgdcafbdkidamaaGreatDoor.VeE Go.Proofs.YtgdcafbdkidamaaGreatDoor.G3 Go.Proofs.YtgdcafbdkidamaaGreatDoor.KG2 Go.Proofs.YtgdcafbdkidamaaGreatDoor.KH2 Go.Proofs.YtgdcafbdkidamaaGreatDoor.DK Go.Proofs.YtgdcafbdkidamaaGreatDoor.S5 Go.Proofs.YtgdcafbdkidamaaGreatDoor.K5 Go.Proofs.YtgdcafbdkidamaaGreatDoor.C Go.Proofs.YtgdcafbdkidamaaGreatDoor.Pure Go.Proofs.YtgdcafbdkidamaaGreatDoor.B Go.Proofs.YtgdcafbdkidamaaGreatDoor.D
set_option linter.unusedVariables false
set_option linter.unusedSimpArgs false
theorem app_size (a b : ByteArray) : (a ++ b).size = a.size + b.size := ByteArray.size_append
end Go.Proofs.YtgdcafbdkidamaaGreatDoor.Sl
end
section
namespace Go.Proofs.YtgdcafbdkidamaaGreatDoor.Sl
open Go Go.RowKit Go.Proofs.YtgdcafbdkidamaaGreatDoorW.PrintWords Go.Proofs.YtgdcafbdkidamaaGreatDoorW.PrintLast Go.Proofs.YtgdcafbdkidamaaGreatDoorW.PrintMore Go.Proofs.YtgdcafbdkidamaaGreatDoor.Ve Go.Proofs.YtgdcafbdkidamaaGreatDoor.VeT Go.Proofs.YtgdcafbdkidamaaGreatDoor.VeE Go.Proofs.YtgdcafbdkidamaaGreatDoor.G3 Go.Proofs.YtgdcafbdkidamaaGreatDoor.KG2 Go.Proofs.YtgdcafbdkidamaaGreatDoor.KH2 Go.Proofs.YtgdcafbdkidamaaGreatDoor.DK Go.Proofs.YtgdcafbdkidamaaGreatDoor.S5 Go.Proofs.YtgdcafbdkidamaaGreatDoor.K5 Go.Proofs.YtgdcafbdkidamaaGreatDoor.C Go.Proofs.YtgdcafbdkidamaaGreatDoor.Pure Go.Proofs.YtgdcafbdkidamaaGreatDoor.T6 Go.Proofs.YtgdcafbdkidamaaGreatDoor.B Go.Proofs.YtgdcafbdkidamaaGreatDoor.D
open EC Fp Grp Vi
set_option linter.unusedVariables false
set_option linter.unusedSimpArgs false
theorem base_enc : (1, 509478702933351334, false) = enc base := by decide +kernel
def sealOk (s n : ByteArray) (x y : Int) (i : Bool) (u : ByteArray) : Prop := s.size = 32 ∧ n.size = 16 ∧ 1 ≤ u.size ∧ u.size ≤ 32 ∧ oc x y i = true ∧ i = false
instance (s n : ByteArray) (x y : Int) (i : Bool) (u : ByteArray) : Decidable (sealOk s n x y i u) := by unfold sealOk; infer_instance
theorem hts_range (a b : ByteArray) : 0 ≤ (T7.htsV a b).1 ∧ (T7.htsV a b).1 < 2305843010818082053 := by
  unfold T7.htsV
  split
  · rename_i h
    show 0 ≤ rd (Hf.htf a b _ 1).1 0 ∧ rd (Hf.htf a b _ 1).1 0 < _
    unfold Hf.htf at h ⊢
    split
    · rename_i g; rw [if_pos g] at h; cases h
    · rename_i g
      rw [if_neg g] at h
      split
      · rename_i g2; rw [if_pos g2] at h; cases h
      · rw [show (1 : Int).toNat = 1 from rfl]
        have h0 := rd_hl 2305843010818082053 (by decide) (KE2.em1 a b (24 * 1)) 1 0 (by omega)
        rw [show ((0 : Nat) : Int) = 0 from rfl] at h0
        dsimp only
        generalize Hf.hl 2305843010818082053 (KE2.em1 a b (24 * 1)) 1 = z at *
        exact h0
  · exact ⟨by decide, by decide⟩
theorem kd_range (m : Int) (s i : ByteArray) (j : Nat) : 0 ≤ kd m s i j ∧ kd m s i j < 2305843010818082053 := hts_range _ _
theorem dkF_range (m : Int) (s i : ByteArray) : ∀ d j, 0 ≤ (dkF m s i d j).1 ∧ (dkF m s i d j).1 < 2305843010818082053 ∧ ((dkF m s i d j).2 = 0 → 0 < (dkF m s i d j).1)
  | 0, j => ⟨by show (0 : Int) ≤ 0; decide, by show (0 : Int) < 2305843010818082053; decide, fun h => absurd (show (3 : Int) = 0 from h) (by decide)⟩
  | d + 1, j => by
    have hk := kd_range m s i j
    have ih := dkF_range m s i d (j + 1)
    unfold dkF
    generalize kd m s i j = z at *
    split
    · exact ih
    · rename_i h
      exact ⟨hk.1, hk.2, fun _ => by show 0 < z; omega⟩
theorem dk_range (m : Int) (s i : ByteArray) : 0 ≤ (dk m s i).1 ∧ (dk m s i).1 < 2305843010818082053 ∧ ((dk m s i).2 = 0 → 0 < (dk m s i).1) := by
  unfold dk
  split
  · exact ⟨by decide, by decide, fun h => absurd h (by decide)⟩
  · exact dkF_range m s i 256 0
theorem hm_size (k : ByteArray) (xs : List ByteArray) : (K6.hm Ks.kk k xs).size = 32 := by unfold K6.hm; rw [strOfNums_size]; rfl
end Go.Proofs.YtgdcafbdkidamaaGreatDoor.Sl
end
