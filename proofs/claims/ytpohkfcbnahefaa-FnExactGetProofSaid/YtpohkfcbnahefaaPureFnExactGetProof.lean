/- GetProof of the program answers what the reference's answers, at every text. -/
import Derived.Test.YtpohkfcbnahefaaScalar
import Derived.Test.YtpohkfcbnahefaaQx3
import Derived.Test.YtpohkfcbnahefaaQx4
namespace Go.Proofs.Ytpohkfcbnahefaa.Pure
open Go.RowKit Go.Proofs.Ytpohkfcbnahefaa.Q Go.Proofs.YtpohkfcbnahefaaW.PrintWords Go.Proofs.YtpohkfcbnahefaaW.PrintLast

/-- what sixteen bytes are read as -/
def getProof (s : ByteArray) : Int × Int × Bool :=
  if s.size = 16 then
    if (getScalar (s.extract 0 8)).2 = true then if (getScalar (s.extract 8 s.size)).2 = true then ((getScalar (s.extract 0 8)).1, (getScalar (s.extract 8 s.size)).1, true) else (0, 0, false) else (0, 0, false)
  else (0, 0, false)

theorem spec_getProof (s : ByteArray) {k : Nat} (hk : 8 < k) : spec_GetProof.f k s = some (getProof s) := by
  unfold spec_GetProof.f getProof
  by_cases h : s.size = 16
  · rw [if_pos (by omega), if_pos (by omega), if_pos (by omega), if_pos h, spec_scalar _ hk, spec_scalar _ hk]
    simp only [Option.bind_some]
    generalize getScalar (s.extract 0 8) = u
    generalize getScalar (s.extract 8 s.size) = v
    obtain ⟨u1, u2⟩ := u
    obtain ⟨v1, v2⟩ := v
    cases u2 <;> cases v2 <;> rfl
  · rw [if_neg (by omega), if_neg h]

theorem impl_getProof (s : ByteArray) {k : Nat} (hk : 8 < k) : impl_GetProof.f k s = some (getProof s) := by
  unfold impl_GetProof.f getProof
  by_cases h : s.size = 16
  · rw [if_pos (by omega), if_pos (by omega), if_pos (by omega), if_pos h, impl_scalar _ hk, impl_scalar _ hk]
    simp only [Option.bind_some]
    generalize getScalar (s.extract 0 8) = u
    generalize getScalar (s.extract 8 s.size) = v
    obtain ⟨u1, u2⟩ := u
    obtain ⟨v1, v2⟩ := v
    cases u2 <;> cases v2 <;> rfl
  · rw [if_neg (by omega), if_neg h]

theorem FnExactGetProof : laws_FnExactGetProof.Pure := by
  intro s _
  refine ⟨9, ?_⟩
  unfold laws_FnExactGetProof.f laws_eqProof.f
  rw [spec_getProof s (by omega), impl_getProof s (by omega)]
  simp

end Go.Proofs.Ytpohkfcbnahefaa.Pure
