-- WRITTEN BY A PROGRAM OF THIS SESSION (wip/tools/print2.py) out of Lean's own print of the loaded program; Lean checks every row.
import Derived.Test.YtindkfapbgmjgaaProg
import Derived.Shelf.Abstract
import Derived.Lib.SliceRun
import Derived.Below
import Derived.Deep.Draws
import Derived.Deep.AppendLies
import Derived.Maps.AppendAt
import Derived.OwnWalk
import Derived.Laws.BytesArg
import Derived.Laws.MakeOwn
import Derived.Laws.OwnMore
import Derived.Deep.OwnRows
import Derived.Tactics
import Derived.Lib.ConvBytes
import Derived.Laws.Slices
import Derived.WalkKit
import Derived.KernelRfl
import Derived.RowKit3
import Derived.Deep.LoopGhost
import Derived.Deep.QuietTactic
import Derived.BigQuiet
import Derived.WideLaws
import Derived.Deep.DeepCutAuto
import Derived.Deep.CutBlock
import Derived.Deep.RegionHeld3
import Derived.Laws.Rows
import Derived.Lib.AppendStr
import Derived.ArgAppend
import Derived.Laws.IdiomCopy
import Derived.OrdersHeld
import Derived.Laws.BitsLemmas
import Derived.RowKit
import Derived.Test.YtindkfapbgmjgaaWWords
import Derived.Test.YtindkfapbgmjgaaWLast
import Derived.Test.YtindkfapbgmjgaaWTab
import Derived.Test.YtindkfapbgmjgaaWFour
import Derived.Test.YtindkfapbgmjgaaWQPut
import Derived.Test.YtindkfapbgmjgaaWApart
import Derived.Test.YtindkfapbgmjgaaWArr
import Derived.Test.YtindkfapbgmjgaaWZeros
import Derived.Test.YtindkfapbgmjgaaWFoot
import Derived.Test.YtindkfapbgmjgaaWKept
import Derived.Test.YtindkfapbgmjgaaWShare
import Derived.Test.YtindkfapbgmjgaaWN
import Derived.Test.YtindkfapbgmjgaaWFootNe
import Derived.Test.YtindkfapbgmjgaaWAt
import Derived.Test.YtindkfapbgmjgaaWEqStruct
import Derived.Test.YtindkfapbgmjgaaWRepsOne
import Derived.Test.YtindkfapbgmjgaaWInv
import Derived.Test.YtindkfapbgmjgaaWInvWords
import Derived.Test.YtindkfapbgmjgaaWGuard
import Derived.Test.YtindkfapbgmjgaaWNEv
import Derived.Test.YtindkfapbgmjgaaWMore
namespace Go.Proofs.Ytindkfapbgmjgaa.QFnLfOrder
open Go.RowKit Go.Proofs.YtindkfapbgmjgaaW.PrintWords Go.Proofs.YtindkfapbgmjgaaW.PrintLast Go.Proofs.YtindkfapbgmjgaaW.PrintMore
attribute [local go_sem] max2_int min2_int max_two min_two max_three min_three max_four min_four   -- for this text's walks alone
set_option linter.unusedVariables false
set_option linter.unusedSimpArgs false



def errW : Option Int → Value
  | none => .nilIface
  | some c => .iface 0 (.int .i64 c)
theorem errW_none : errW none = .nilIface := rfl
theorem errW_some (c : Int) : errW (some c) = .iface 0 (.int .i64 c) := rfl

theorem info3 : (Try.prog.info? 3).map (fun i => (i.zero, i.size, i.bytes)) = some (some (.int .i64 0), 1, 8) := by kernel_rfl
theorem info5 : (Try.prog.info? 5).map (fun i => (i.zero, i.size, i.bytes)) = some (some (.int .u8 0), 1, 1) := by kernel_rfl
theorem info9 : (Try.prog.info? 9).map (fun i => (i.zero, i.size, i.bytes)) = some (some (.string ⟨#[]⟩), 1, 16) := by kernel_rfl
-- the values' own types

end Go.Proofs.Ytindkfapbgmjgaa.QFnLfOrder
