/- Written by a program of this session (wip/jprint.py, over the printer of the kit): functions that a law comes to, as plain Lean functions, and walks; Lean checks it. -/
import Derived.Test.YtcagoddljhagiaaPAx0
import Derived.Test.YtcagoddljhagiaaPAx1
import Derived.Test.YtcagoddljhagiaaPAx2
import Derived.Test.YtcagoddljhagiaaPAx3
import Derived.Test.YtcagoddljhagiaaPAx4
import Derived.Test.YtcagoddljhagiaaPAx5
import Derived.Test.YtcagoddljhagiaaPAx6
namespace Go.Proofs.Ytcagoddljhagiaa.PA
open Go.RowKit Go.Proofs.Ytcagoddljhagiaa.Hand Go.Proofs.YtcagoddljhagiaaW.PrintWords Go.Proofs.YtcagoddljhagiaaW.PrintLast Go.Proofs.YtcagoddljhagiaaW.PrintMore
attribute [local go_sem] max2_int min2_int max_two min_two max_three min_three max_four min_four   -- for this text's walks alone
set_option linter.unusedVariables false
set_option linter.unusedSimpArgs false

end Go.Proofs.Ytcagoddljhagiaa.PA
