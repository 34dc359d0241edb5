-- laid by a program of this session's (wip/tools: mkprint.py, pr.py), out of Lean's own print of the translation
import Derived.Test.YtflcfgoichhfgaaBx0
import Derived.Test.YtflcfgoichhfgaaBx1
import Derived.Test.YtflcfgoichhfgaaBx2
import Derived.Test.YtflcfgoichhfgaaBx3
import Derived.Test.YtflcfgoichhfgaaBx4
import Derived.Test.YtflcfgoichhfgaaBx5
import Derived.Test.YtflcfgoichhfgaaBx6
namespace Go.Proofs.Ytflcfgoichhfgaa.B
open Go.RowKit Go.Proofs.Ytflcfgoichhfgaa.H0 Go.Proofs.YtflcfgoichhfgaaW.PrintWords Go.Proofs.YtflcfgoichhfgaaW.PrintLast Go.Proofs.YtflcfgoichhfgaaW.PrintMore
attribute [local go_sem] max2_int min2_int max_two min_two max_three min_three max_four min_four   -- for this text's walks alone
set_option linter.unusedVariables false
set_option linter.unusedSimpArgs false

end Go.Proofs.Ytflcfgoichhfgaa.B
