-- laid by a program of this session's (wip/tools: mkprint.py, pr.py), out of Lean's own print of the translation
import Derived.Test.YtekobmjfodhmaaaBx0
import Derived.Test.YtekobmjfodhmaaaBx1
import Derived.Test.YtekobmjfodhmaaaBx2
import Derived.Test.YtekobmjfodhmaaaBx3
import Derived.Test.YtekobmjfodhmaaaBx4
import Derived.Test.YtekobmjfodhmaaaBx5
import Derived.Test.YtekobmjfodhmaaaBx6
import Derived.Test.YtekobmjfodhmaaaBx7
namespace Go.Proofs.Ytekobmjfodhmaaa.B
open Go.RowKit Go.Proofs.Ytekobmjfodhmaaa.H0 Go.Proofs.YtekobmjfodhmaaaW.PrintWords Go.Proofs.YtekobmjfodhmaaaW.PrintLast Go.Proofs.YtekobmjfodhmaaaW.PrintMore
attribute [local go_sem] max2_int min2_int max_two min_two max_three min_three max_four min_four   -- for this text's walks alone
set_option linter.unusedVariables false
set_option linter.unusedSimpArgs false

end Go.Proofs.Ytekobmjfodhmaaa.B
