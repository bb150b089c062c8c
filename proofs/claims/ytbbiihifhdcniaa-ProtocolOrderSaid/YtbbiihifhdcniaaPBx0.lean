/- Written by a program of this session (wip/jprint.py, over the printer of the kit): functions that a law comes to, as plain Lean functions, and walks; Lean checks it. -/
import Derived.Test.YtbbiihifhdcniaaProg
import Derived.Below
import Derived.Deep.Draws
import Derived.Deep.AppendLies
import Derived.Maps.AppendAt
import Derived.OwnWalk
import Derived.Laws.BytesArg
import Derived.Laws.MakeOwn
import Derived.Laws.OwnMore
import Derived.Deep.OwnRows
import Derived.Tactics
import Derived.Lib.ConvBytes
import Derived.Laws.Slices
import Derived.WalkKit
import Derived.KernelRfl
import Derived.RowKit3
import Derived.Deep.LoopGhost
import Derived.Deep.QuietTactic
import Derived.BigQuiet
import Derived.WideLaws
import Derived.Deep.DeepCutAuto
import Derived.Deep.CutBlock
import Derived.Deep.RegionHeld3
import Derived.Laws.Rows
import Derived.Lib.AppendStr
import Derived.ArgAppend
import Derived.Laws.IdiomCopy
import Derived.OrdersHeld
import Derived.Laws.BitsLemmas
import Derived.RowKit
import Derived.Test.YtbbiihifhdcniaaHandEvents
import Derived.Test.YtbbiihifhdcniaaPAx
import Derived.Test.YtbbiihifhdcniaaWWords
import Derived.Test.YtbbiihifhdcniaaWLast
import Derived.Test.YtbbiihifhdcniaaWTab
import Derived.Test.YtbbiihifhdcniaaWFour
import Derived.Test.YtbbiihifhdcniaaWQPut
import Derived.Test.YtbbiihifhdcniaaWApart
import Derived.Test.YtbbiihifhdcniaaWArr
import Derived.Test.YtbbiihifhdcniaaWZeros
import Derived.Test.YtbbiihifhdcniaaWFoot
import Derived.Test.YtbbiihifhdcniaaWKept
import Derived.Test.YtbbiihifhdcniaaWShare
import Derived.Test.YtbbiihifhdcniaaWN
import Derived.Test.YtbbiihifhdcniaaWFootNe
import Derived.Test.YtbbiihifhdcniaaWAt
import Derived.Test.YtbbiihifhdcniaaWEqStruct
import Derived.Test.YtbbiihifhdcniaaWRepsOne
import Derived.Test.YtbbiihifhdcniaaWInv
import Derived.Test.YtbbiihifhdcniaaWInvWords
import Derived.Test.YtbbiihifhdcniaaWGuard
import Derived.Test.YtbbiihifhdcniaaWNEv
import Derived.Test.YtbbiihifhdcniaaWMore
namespace Go.Proofs.Ytbbiihifhdcniaa.PB
open Go.RowKit Go.Proofs.Ytbbiihifhdcniaa.Hand Go.Proofs.Ytbbiihifhdcniaa.PA Go.Proofs.YtbbiihifhdcniaaW.PrintWords Go.Proofs.YtbbiihifhdcniaaW.PrintLast Go.Proofs.YtbbiihifhdcniaaW.PrintMore
attribute [local go_sem] max2_int min2_int max_two min_two max_three min_three max_four min_four   -- for this text's walks alone
set_option linter.unusedVariables false
set_option linter.unusedSimpArgs false



def errW : Option Int → Value
  | none => .nilIface
  | some c => .iface 0 (.int .i64 c)
theorem errW_none : errW none = .nilIface := rfl
theorem errW_some (c : Int) : errW (some c) = .iface 0 (.int .i64 c) := rfl

-- the values' own types

end Go.Proofs.Ytbbiihifhdcniaa.PB
