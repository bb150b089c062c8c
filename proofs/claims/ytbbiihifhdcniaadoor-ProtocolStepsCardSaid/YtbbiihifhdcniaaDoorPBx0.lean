/- Written by a program of this session (wip/jprint.py, over the printer of the kit): functions that a law comes to, as plain Lean functions, and walks; Lean checks it. -/
import Derived.Test.YtbbiihifhdcniaaDoorProg
import Derived.Below
import Derived.Deep.Draws
import Derived.Deep.AppendLies
import Derived.Maps.AppendAt
import Derived.OwnWalk
import Derived.Laws.BytesArg
import Derived.Laws.MakeOwn
import Derived.Laws.OwnMore
import Derived.Deep.OwnRows
import Derived.Tactics
import Derived.Lib.ConvBytes
import Derived.Laws.Slices
import Derived.WalkKit
import Derived.KernelRfl
import Derived.RowKit3
import Derived.Deep.LoopGhost
import Derived.Deep.QuietTactic
import Derived.BigQuiet
import Derived.WideLaws
import Derived.Deep.DeepCutAuto
import Derived.Deep.CutBlock
import Derived.Deep.RegionHeld3
import Derived.Laws.Rows
import Derived.Lib.AppendStr
import Derived.ArgAppend
import Derived.Laws.IdiomCopy
import Derived.OrdersHeld
import Derived.Laws.BitsLemmas
import Derived.RowKit
import Derived.Test.YtbbiihifhdcniaaDoorWWords
import Derived.Test.YtbbiihifhdcniaaDoorWLast
import Derived.Test.YtbbiihifhdcniaaDoorWTab
import Derived.Test.YtbbiihifhdcniaaDoorWFour
import Derived.Test.YtbbiihifhdcniaaDoorWQPut
import Derived.Test.YtbbiihifhdcniaaDoorWApart
import Derived.Test.YtbbiihifhdcniaaDoorWArr
import Derived.Test.YtbbiihifhdcniaaDoorWZeros
import Derived.Test.YtbbiihifhdcniaaDoorWFoot
import Derived.Test.YtbbiihifhdcniaaDoorWKept
import Derived.Test.YtbbiihifhdcniaaDoorWShare
import Derived.Test.YtbbiihifhdcniaaDoorWN
import Derived.Test.YtbbiihifhdcniaaDoorWFootNe
import Derived.Test.YtbbiihifhdcniaaDoorWAt
import Derived.Test.YtbbiihifhdcniaaDoorWEqStruct
import Derived.Test.YtbbiihifhdcniaaDoorWRepsOne
import Derived.Test.YtbbiihifhdcniaaDoorWInv
import Derived.Test.YtbbiihifhdcniaaDoorWInvWords
import Derived.Test.YtbbiihifhdcniaaDoorWGuard
import Derived.Test.YtbbiihifhdcniaaDoorWNEv
import Derived.Test.YtbbiihifhdcniaaDoorWMore
namespace Go.Proofs.YtbbiihifhdcniaaDoor.PB
open Go.RowKit Go.Proofs.YtbbiihifhdcniaaDoorW.PrintWords Go.Proofs.YtbbiihifhdcniaaDoorW.PrintLast Go.Proofs.YtbbiihifhdcniaaDoorW.PrintMore
attribute [local go_sem] max2_int min2_int max_two min_two max_three min_three max_four min_four   -- for this text's walks alone
set_option linter.unusedVariables false
set_option linter.unusedSimpArgs false



def errW : Option Int → Value
  | none => .nilIface
  | some c => .iface 0 (.int .i64 c)
theorem errW_none : errW none = .nilIface := rfl
theorem errW_some (c : Int) : errW (some c) = .iface 0 (.int .i64 c) := rfl

-- the values' own types

end Go.Proofs.YtbbiihifhdcniaaDoor.PB
