/- The program's base is the reference's. -/
import Derived.Test.YtpohkfcbnahefaaQx4
namespace Go.Proofs.Ytpohkfcbnahefaa.Pure
open Go.RowKit Go.Proofs.Ytpohkfcbnahefaa.Q

theorem FnExactBase : laws_FnExactBase.Pure := by
  unfold laws_FnExactBase.Pure laws_FnExactBase.f spec_Base.f impl_Base.f laws_eqPoint.f
  simp

end Go.Proofs.Ytpohkfcbnahefaa.Pure
