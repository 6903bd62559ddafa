-- Written by this session's own program wip/myprint.py. Not trusted: Lean checks it.
import Derived.Test.YtbbkbooiefoihaaDoorProg
import Derived.WalkSpells
import Derived.Lib.LazyBuf
import Derived.Lib.Strings
import Derived.Lib.Slices
import Derived.Lib.Walk
import Derived.Lib.Bytealg
import Derived.Lib.AppendZerosOnto
import Derived.Laws.CopyOwn
import Derived.RangeFuncBox
import Derived.RangeFuncLeaves
import Derived.Shelf.Abstract
import Derived.OwnWalkIn
import Derived.TacticsInMore
import Derived.LoopNIn
import Derived.LoopIn
import Derived.Test.YtbbkbooiefoihaaDoorShelf
import Derived.Lib.LaidTab
import Derived.Below
import Derived.Deep.Draws
import Derived.Deep.AppendLies
import Derived.Maps.AppendAt
import Derived.OwnWalk
import Derived.Laws.BytesArg
import Derived.Laws.MakeOwn
import Derived.Laws.OwnMore
import Derived.Deep.OwnRows
import Derived.Tactics
import Derived.Lib.ConvBytes
import Derived.Laws.Slices
import Derived.WalkKit
import Derived.KernelRfl
import Derived.RowKit3
import Derived.Deep.LoopGhost
import Derived.Deep.QuietTactic
import Derived.BigQuiet
import Derived.WideLaws
import Derived.Deep.DeepCutAuto
import Derived.Deep.CutBlock
import Derived.Deep.RegionHeld3
import Derived.Laws.Rows
import Derived.Lib.AppendStr
import Derived.ArgAppend
import Derived.Laws.IdiomCopy
import Derived.OrdersHeld
import Derived.Laws.BitsLemmas
import Derived.RowKit
import Derived.Test.YtbbkbooiefoihaaDoorWWords
import Derived.Test.YtbbkbooiefoihaaDoorWLast
import Derived.Test.YtbbkbooiefoihaaDoorWTab
import Derived.Test.YtbbkbooiefoihaaDoorWFour
import Derived.Test.YtbbkbooiefoihaaDoorWQPut
import Derived.Test.YtbbkbooiefoihaaDoorWApart
import Derived.Test.YtbbkbooiefoihaaDoorWArr
import Derived.Test.YtbbkbooiefoihaaDoorWZeros
import Derived.Test.YtbbkbooiefoihaaDoorWFoot
import Derived.Test.YtbbkbooiefoihaaDoorWKept
import Derived.Test.YtbbkbooiefoihaaDoorWShare
import Derived.Test.YtbbkbooiefoihaaDoorWN
import Derived.Test.YtbbkbooiefoihaaDoorWFootNe
import Derived.Test.YtbbkbooiefoihaaDoorWAt
import Derived.Test.YtbbkbooiefoihaaDoorWEqStruct
import Derived.Test.YtbbkbooiefoihaaDoorWRepsOne
import Derived.Test.YtbbkbooiefoihaaDoorWInv
import Derived.Test.YtbbkbooiefoihaaDoorWInvWords
import Derived.Test.YtbbkbooiefoihaaDoorWGuard
import Derived.Test.YtbbkbooiefoihaaDoorWNEv
import Derived.Test.YtbbkbooiefoihaaDoorWMore
namespace Go.Proofs.YtbbkbooiefoihaaDoor.PFnExactSpiralText
open Go.RowKit Go.Proofs.YtbbkbooiefoihaaDoorW.PrintWords Go.Proofs.YtbbkbooiefoihaaDoorW.PrintLast Go.Proofs.YtbbkbooiefoihaaDoorW.PrintMore
attribute [local go_sem] max2_int min2_int max_two min_two max_three min_three max_four min_four   -- for this text's walks alone
set_option linter.unusedVariables false
set_option linter.unusedSimpArgs false



def errW : Option Int → Value
  | none => .nilIface
  | some c => .iface 0 (.int .i64 c)
theorem errW_none : errW none = .nilIface := rfl
theorem errW_some (c : Int) : errW (some c) = .iface 0 (.int .i64 c) := rfl

theorem info5 : (Tryd.prog.info? 5).map (fun i => (i.zero, i.size, i.bytes)) = some (some (.int .u8 0), 1, 1) := by kernel_rfl
-- the values' own types

end Go.Proofs.YtbbkbooiefoihaaDoor.PFnExactSpiralText
