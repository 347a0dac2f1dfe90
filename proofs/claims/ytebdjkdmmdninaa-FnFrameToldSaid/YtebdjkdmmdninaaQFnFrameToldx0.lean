-- WRITTEN BY A PROGRAM OF THIS SESSION (wip/tools/print2.py) out of Lean's own print of the loaded program; Lean checks every row.
import Derived.Test.YtebdjkdmmdninaaProg
import Derived.Shelf.Abstract
import Derived.Lib.SliceRun
import Derived.Below
import Derived.Deep.Draws
import Derived.Deep.AppendLies
import Derived.Maps.AppendAt
import Derived.OwnWalk
import Derived.Laws.BytesArg
import Derived.Laws.MakeOwn
import Derived.Laws.OwnMore
import Derived.Deep.OwnRows
import Derived.Tactics
import Derived.Lib.ConvBytes
import Derived.Laws.Slices
import Derived.WalkKit
import Derived.KernelRfl
import Derived.RowKit3
import Derived.Deep.LoopGhost
import Derived.Deep.QuietTactic
import Derived.BigQuiet
import Derived.WideLaws
import Derived.Deep.DeepCutAuto
import Derived.Deep.CutBlock
import Derived.Deep.RegionHeld3
import Derived.Laws.Rows
import Derived.Lib.AppendStr
import Derived.ArgAppend
import Derived.Laws.IdiomCopy
import Derived.OrdersHeld
import Derived.Laws.BitsLemmas
import Derived.RowKit
import Derived.Test.YtebdjkdmmdninaaWWords
import Derived.Test.YtebdjkdmmdninaaWLast
import Derived.Test.YtebdjkdmmdninaaWTab
import Derived.Test.YtebdjkdmmdninaaWFour
import Derived.Test.YtebdjkdmmdninaaWQPut
import Derived.Test.YtebdjkdmmdninaaWApart
import Derived.Test.YtebdjkdmmdninaaWArr
import Derived.Test.YtebdjkdmmdninaaWZeros
import Derived.Test.YtebdjkdmmdninaaWFoot
import Derived.Test.YtebdjkdmmdninaaWKept
import Derived.Test.YtebdjkdmmdninaaWShare
import Derived.Test.YtebdjkdmmdninaaWN
import Derived.Test.YtebdjkdmmdninaaWFootNe
import Derived.Test.YtebdjkdmmdninaaWAt
import Derived.Test.YtebdjkdmmdninaaWEqStruct
import Derived.Test.YtebdjkdmmdninaaWRepsOne
import Derived.Test.YtebdjkdmmdninaaWInv
import Derived.Test.YtebdjkdmmdninaaWInvWords
import Derived.Test.YtebdjkdmmdninaaWGuard
import Derived.Test.YtebdjkdmmdninaaWNEv
import Derived.Test.YtebdjkdmmdninaaWMore
namespace Go.Proofs.Ytebdjkdmmdninaa.QFnFrameTold
open Go.RowKit Go.Proofs.YtebdjkdmmdninaaW.PrintWords Go.Proofs.YtebdjkdmmdninaaW.PrintLast Go.Proofs.YtebdjkdmmdninaaW.PrintMore
attribute [local go_sem] max2_int min2_int max_two min_two max_three min_three max_four min_four   -- for this text's walks alone
set_option linter.unusedVariables false
set_option linter.unusedSimpArgs false



def errW : Option Int → Value
  | none => .nilIface
  | some c => .iface 0 (.int .i64 c)
theorem errW_none : errW none = .nilIface := rfl
theorem errW_some (c : Int) : errW (some c) = .iface 0 (.int .i64 c) := rfl

theorem info3 : (Try.prog.info? 3).map (fun i => (i.zero, i.size, i.bytes)) = some (some (.int .i64 0), 1, 8) := by kernel_rfl
theorem info5 : (Try.prog.info? 5).map (fun i => (i.zero, i.size, i.bytes)) = some (some (.int .u8 0), 1, 1) := by kernel_rfl
-- the values' own types

end Go.Proofs.Ytebdjkdmmdninaa.QFnFrameTold
