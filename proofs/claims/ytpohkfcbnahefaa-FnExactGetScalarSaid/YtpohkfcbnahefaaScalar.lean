/- Scalars: what eight bytes are read as, by the reference and by the program. -/
import Derived.Test.YtpohkfcbnahefaaWord
import Derived.Test.YtpohkfcbnahefaaQx3
namespace Go.Proofs.Ytpohkfcbnahefaa.Pure
open Go.RowKit Go.Proofs.Ytpohkfcbnahefaa.Q Go.Proofs.YtpohkfcbnahefaaW.PrintWords Go.Proofs.YtpohkfcbnahefaaW.PrintLast

/-- what eight bytes are read as -/
def getScalar (s : ByteArray) : Int × Bool := if s.size = 8 then if word s < 2305843010818082053 then (word s, true) else (0, false) else (0, false)

theorem spec_scalar (s : ByteArray) {k : Nat} (hk : 8 < k) : spec_GetScalar.f k s = some (getScalar s) := by
  unfold spec_GetScalar.f getScalar
  by_cases h : s.size = 8
  · rw [if_pos (by omega), if_pos h, spec_word s (by omega) (by omega)]
    simp only [Option.bind_some]
    by_cases hw : word s < 2305843010818082053
    · rw [if_neg (by omega), if_pos hw]
    · rw [if_pos (by omega), if_neg hw]
  · rw [if_neg (by omega), if_neg h]

theorem impl_scalar (s : ByteArray) {k : Nat} (hk : 8 < k) : impl_GetScalar.f k s = some (getScalar s) := by
  unfold impl_GetScalar.f getScalar
  by_cases h : s.size = 8
  · rw [if_pos (by omega), if_pos h, impl_word s (by omega) (by omega)]
    simp only [Option.bind_some]
    by_cases hw : word s < 2305843010818082053
    · rw [if_neg (by omega), if_pos hw]
    · rw [if_pos (by omega), if_neg hw]
  · rw [if_neg (by omega), if_neg h]

end Go.Proofs.Ytpohkfcbnahefaa.Pure
