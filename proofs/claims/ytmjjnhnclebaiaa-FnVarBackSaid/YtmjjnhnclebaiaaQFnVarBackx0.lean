-- WRITTEN BY A PROGRAM OF THIS SESSION (wip/tools/print2.py) out of Lean's own print of the loaded program; Lean checks every row.
import Derived.Test.YtmjjnhnclebaiaaProg
import Derived.Shelf.Abstract
import Derived.Lib.SliceRun
import Derived.Shelf.Strconv.Itoa0
import Derived.Below
import Derived.Deep.Draws
import Derived.Deep.AppendLies
import Derived.Maps.AppendAt
import Derived.OwnWalk
import Derived.Laws.BytesArg
import Derived.Laws.MakeOwn
import Derived.Laws.OwnMore
import Derived.Deep.OwnRows
import Derived.Tactics
import Derived.Lib.ConvBytes
import Derived.Laws.Slices
import Derived.WalkKit
import Derived.KernelRfl
import Derived.RowKit3
import Derived.Deep.LoopGhost
import Derived.Deep.QuietTactic
import Derived.BigQuiet
import Derived.WideLaws
import Derived.Deep.DeepCutAuto
import Derived.Deep.CutBlock
import Derived.Deep.RegionHeld3
import Derived.Laws.Rows
import Derived.Lib.AppendStr
import Derived.ArgAppend
import Derived.Laws.IdiomCopy
import Derived.OrdersHeld
import Derived.Laws.BitsLemmas
import Derived.RowKit
import Derived.Test.YtmjjnhnclebaiaaWWords
import Derived.Test.YtmjjnhnclebaiaaWLast
import Derived.Test.YtmjjnhnclebaiaaWTab
import Derived.Test.YtmjjnhnclebaiaaWFour
import Derived.Test.YtmjjnhnclebaiaaWQPut
import Derived.Test.YtmjjnhnclebaiaaWApart
import Derived.Test.YtmjjnhnclebaiaaWArr
import Derived.Test.YtmjjnhnclebaiaaWZeros
import Derived.Test.YtmjjnhnclebaiaaWFoot
import Derived.Test.YtmjjnhnclebaiaaWKept
import Derived.Test.YtmjjnhnclebaiaaWShare
import Derived.Test.YtmjjnhnclebaiaaWN
import Derived.Test.YtmjjnhnclebaiaaWFootNe
import Derived.Test.YtmjjnhnclebaiaaWAt
import Derived.Test.YtmjjnhnclebaiaaWEqStruct
import Derived.Test.YtmjjnhnclebaiaaWRepsOne
import Derived.Test.YtmjjnhnclebaiaaWInv
import Derived.Test.YtmjjnhnclebaiaaWInvWords
import Derived.Test.YtmjjnhnclebaiaaWGuard
import Derived.Test.YtmjjnhnclebaiaaWNEv
import Derived.Test.YtmjjnhnclebaiaaWMore
namespace Go.Proofs.Ytmjjnhnclebaiaa.QFnVarBack
open Go.RowKit Go.Proofs.YtmjjnhnclebaiaaW.PrintWords Go.Proofs.YtmjjnhnclebaiaaW.PrintLast Go.Proofs.YtmjjnhnclebaiaaW.PrintMore
attribute [local go_sem] max2_int min2_int max_two min_two max_three min_three max_four min_four   -- for this text's walks alone
set_option linter.unusedVariables false
set_option linter.unusedSimpArgs false



def errW : Option Int → Value
  | none => .nilIface
  | some c => .iface 0 (.int .i64 c)
theorem errW_none : errW none = .nilIface := rfl
theorem errW_some (c : Int) : errW (some c) = .iface 0 (.int .i64 c) := rfl

theorem info3 : (Try.prog.info? 3).map (fun i => (i.zero, i.size, i.bytes)) = some (some (.int .i64 0), 1, 8) := by kernel_rfl
theorem info5 : (Try.prog.info? 5).map (fun i => (i.zero, i.size, i.bytes)) = some (some (.int .u8 0), 1, 1) := by kernel_rfl
-- the values' own types

end Go.Proofs.Ytmjjnhnclebaiaa.QFnVarBack
