/- Written by a program of this session (wip/jprint.py, over the printer of the kit): functions that a law comes to, as plain Lean functions, and walks; Lean checks it. -/
import Derived.Test.YtdpdcpbmdmkaeaaDoorPAx0
import Derived.Test.YtdpdcpbmdmkaeaaDoorPAx1
namespace Go.Proofs.YtdpdcpbmdmkaeaaDoor.PA
open Go.RowKit Go.Proofs.YtdpdcpbmdmkaeaaDoorW.PrintWords Go.Proofs.YtdpdcpbmdmkaeaaDoorW.PrintLast Go.Proofs.YtdpdcpbmdmkaeaaDoorW.PrintMore
attribute [local go_sem] max2_int min2_int max_two min_two max_three min_three max_four min_four   -- for this text's walks alone
set_option linter.unusedVariables false
set_option linter.unusedSimpArgs false

end Go.Proofs.YtdpdcpbmdmkaeaaDoor.PA
