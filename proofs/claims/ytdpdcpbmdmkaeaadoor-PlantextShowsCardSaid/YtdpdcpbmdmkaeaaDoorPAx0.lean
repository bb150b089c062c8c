/- Written by a program of this session (wip/jprint.py, over the printer of the kit): functions that a law comes to, as plain Lean functions, and walks; Lean checks it. -/
import Derived.Test.YtdpdcpbmdmkaeaaDoorProg
import Derived.Below
import Derived.Deep.Draws
import Derived.Deep.AppendLies
import Derived.Maps.AppendAt
import Derived.OwnWalk
import Derived.Laws.BytesArg
import Derived.Laws.MakeOwn
import Derived.Laws.OwnMore
import Derived.Deep.OwnRows
import Derived.Tactics
import Derived.Lib.ConvBytes
import Derived.Laws.Slices
import Derived.WalkKit
import Derived.KernelRfl
import Derived.RowKit3
import Derived.Deep.LoopGhost
import Derived.Deep.QuietTactic
import Derived.BigQuiet
import Derived.WideLaws
import Derived.Deep.DeepCutAuto
import Derived.Deep.CutBlock
import Derived.Deep.RegionHeld3
import Derived.Laws.Rows
import Derived.Lib.AppendStr
import Derived.ArgAppend
import Derived.Laws.IdiomCopy
import Derived.OrdersHeld
import Derived.Laws.BitsLemmas
import Derived.RowKit
import Derived.Test.YtdpdcpbmdmkaeaaDoorWWords
import Derived.Test.YtdpdcpbmdmkaeaaDoorWLast
import Derived.Test.YtdpdcpbmdmkaeaaDoorWTab
import Derived.Test.YtdpdcpbmdmkaeaaDoorWFour
import Derived.Test.YtdpdcpbmdmkaeaaDoorWQPut
import Derived.Test.YtdpdcpbmdmkaeaaDoorWApart
import Derived.Test.YtdpdcpbmdmkaeaaDoorWArr
import Derived.Test.YtdpdcpbmdmkaeaaDoorWZeros
import Derived.Test.YtdpdcpbmdmkaeaaDoorWFoot
import Derived.Test.YtdpdcpbmdmkaeaaDoorWKept
import Derived.Test.YtdpdcpbmdmkaeaaDoorWShare
import Derived.Test.YtdpdcpbmdmkaeaaDoorWN
import Derived.Test.YtdpdcpbmdmkaeaaDoorWFootNe
import Derived.Test.YtdpdcpbmdmkaeaaDoorWAt
import Derived.Test.YtdpdcpbmdmkaeaaDoorWEqStruct
import Derived.Test.YtdpdcpbmdmkaeaaDoorWRepsOne
import Derived.Test.YtdpdcpbmdmkaeaaDoorWInv
import Derived.Test.YtdpdcpbmdmkaeaaDoorWInvWords
import Derived.Test.YtdpdcpbmdmkaeaaDoorWGuard
import Derived.Test.YtdpdcpbmdmkaeaaDoorWNEv
import Derived.Test.YtdpdcpbmdmkaeaaDoorWMore
namespace Go.Proofs.YtdpdcpbmdmkaeaaDoor.PA
open Go.RowKit Go.Proofs.YtdpdcpbmdmkaeaaDoorW.PrintWords Go.Proofs.YtdpdcpbmdmkaeaaDoorW.PrintLast Go.Proofs.YtdpdcpbmdmkaeaaDoorW.PrintMore
attribute [local go_sem] max2_int min2_int max_two min_two max_three min_three max_four min_four   -- for this text's walks alone
set_option linter.unusedVariables false
set_option linter.unusedSimpArgs false



def errW : Option Int → Value
  | none => .nilIface
  | some c => .iface 0 (.int .i64 c)
theorem errW_none : errW none = .nilIface := rfl
theorem errW_some (c : Int) : errW (some c) = .iface 0 (.int .i64 c) := rfl

theorem info2 : (Tryd.prog.info? 2).map (fun i => (i.zero, i.size, i.bytes)) = some (some (.int .i64 0), 1, 8) := by kernel_rfl
theorem info5 : (Tryd.prog.info? 5).map (fun i => (i.zero, i.size, i.bytes)) = some (some (.int .u8 0), 1, 1) := by kernel_rfl
theorem info9 : (Tryd.prog.info? 9).map (fun i => (i.zero, i.size, i.bytes)) = some (some (.string ⟨#[]⟩), 1, 16) := by kernel_rfl
-- the values' own types

end Go.Proofs.YtdpdcpbmdmkaeaaDoor.PA
