/- The constants of the program are those of the document. -/
import Derived.Test.YtpohkfcbnahefaaQx1
namespace Go.Proofs.Ytpohkfcbnahefaa.Pure
open Go.RowKit Go.Proofs.Ytpohkfcbnahefaa.Q

theorem FnExactConstants : laws_FnExactConstants.Pure := rfl

end Go.Proofs.Ytpohkfcbnahefaa.Pure
