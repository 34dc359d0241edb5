/- GetScalar of the program answers what the reference's answers, at every text. -/
import Derived.Test.YtpohkfcbnahefaaScalar
import Derived.Test.YtpohkfcbnahefaaQx3
namespace Go.Proofs.Ytpohkfcbnahefaa.Pure
open Go.RowKit Go.Proofs.Ytpohkfcbnahefaa.Q Go.Proofs.YtpohkfcbnahefaaW.PrintWords Go.Proofs.YtpohkfcbnahefaaW.PrintLast

theorem FnExactGetScalar : laws_FnExactGetScalar.Pure := by
  intro s _
  refine ⟨9, ?_⟩
  unfold laws_FnExactGetScalar.f
  rw [spec_scalar s (by omega), impl_scalar s (by omega)]
  simp

end Go.Proofs.Ytpohkfcbnahefaa.Pure
