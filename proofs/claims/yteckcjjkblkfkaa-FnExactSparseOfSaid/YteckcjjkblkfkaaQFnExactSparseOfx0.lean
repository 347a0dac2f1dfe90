-- WRITTEN BY A PROGRAM OF THIS SESSION (wip/tools/print2.py) out of Lean's own print of the loaded program; Lean checks every row.
import Derived.Test.YteckcjjkblkfkaaProg
import Derived.Shelf.Abstract
import Derived.Lib.SliceRun
import Derived.Shelf.Strconv.Itoa0
import Derived.Below
import Derived.Deep.Draws
import Derived.Deep.AppendLies
import Derived.Maps.AppendAt
import Derived.OwnWalk
import Derived.Laws.BytesArg
import Derived.Laws.MakeOwn
import Derived.Laws.OwnMore
import Derived.Deep.OwnRows
import Derived.Tactics
import Derived.Lib.ConvBytes
import Derived.Laws.Slices
import Derived.WalkKit
import Derived.KernelRfl
import Derived.RowKit3
import Derived.Deep.LoopGhost
import Derived.Deep.QuietTactic
import Derived.BigQuiet
import Derived.WideLaws
import Derived.Deep.DeepCutAuto
import Derived.Deep.CutBlock
import Derived.Deep.RegionHeld3
import Derived.Laws.Rows
import Derived.Lib.AppendStr
import Derived.ArgAppend
import Derived.Laws.IdiomCopy
import Derived.OrdersHeld
import Derived.Laws.BitsLemmas
import Derived.RowKit
import Derived.Test.YteckcjjkblkfkaaWWords
import Derived.Test.YteckcjjkblkfkaaWLast
import Derived.Test.YteckcjjkblkfkaaWTab
import Derived.Test.YteckcjjkblkfkaaWFour
import Derived.Test.YteckcjjkblkfkaaWQPut
import Derived.Test.YteckcjjkblkfkaaWApart
import Derived.Test.YteckcjjkblkfkaaWArr
import Derived.Test.YteckcjjkblkfkaaWZeros
import Derived.Test.YteckcjjkblkfkaaWFoot
import Derived.Test.YteckcjjkblkfkaaWKept
import Derived.Test.YteckcjjkblkfkaaWShare
import Derived.Test.YteckcjjkblkfkaaWN
import Derived.Test.YteckcjjkblkfkaaWFootNe
import Derived.Test.YteckcjjkblkfkaaWAt
import Derived.Test.YteckcjjkblkfkaaWEqStruct
import Derived.Test.YteckcjjkblkfkaaWRepsOne
import Derived.Test.YteckcjjkblkfkaaWInv
import Derived.Test.YteckcjjkblkfkaaWInvWords
import Derived.Test.YteckcjjkblkfkaaWGuard
import Derived.Test.YteckcjjkblkfkaaWNEv
import Derived.Test.YteckcjjkblkfkaaWMore
namespace Go.Proofs.Yteckcjjkblkfkaa.QFnExactSparseOf
open Go.RowKit Go.Proofs.YteckcjjkblkfkaaW.PrintWords Go.Proofs.YteckcjjkblkfkaaW.PrintLast Go.Proofs.YteckcjjkblkfkaaW.PrintMore
attribute [local go_sem] max2_int min2_int max_two min_two max_three min_three max_four min_four   -- for this text's walks alone
set_option linter.unusedVariables false
set_option linter.unusedSimpArgs false



def errW : Option Int → Value
  | none => .nilIface
  | some c => .iface 0 (.int .i64 c)
theorem errW_none : errW none = .nilIface := rfl
theorem errW_some (c : Int) : errW (some c) = .iface 0 (.int .i64 c) := rfl

theorem info3 : (Try.prog.info? 3).map (fun i => (i.zero, i.size, i.bytes)) = some (some (.int .i64 0), 1, 8) := by kernel_rfl
theorem info86 : (Try.prog.info? 86).map (fun i => (i.zero, i.size, i.bytes)) = some (some (.int .u64 0), 1, 8) := by kernel_rfl
-- the values' own types

end Go.Proofs.Yteckcjjkblkfkaa.QFnExactSparseOf
