/-
  No cell of these rows narrows 'for every input' (looked for: loops, veiled, ifaces, maps, wideKeys, modest, calm, conditions, laid).
  DERIVED. THE GIVEN ROWS OF THIS SEAT. 7 by the template 'for every input the law returns true; each argument reads behind the call as it read before'; 0 by the template 'total and deterministic' (their statements: YtindkfapbgmjgaaTotals.lean).
  GIVEN WITH THE SEED: the statements are not yours to turn. If you find one false, say at which input.
  Laid BY PROGRAM, IN A SANDBOX (cutbox-rows.mjs): the forced cells as the released guide's own fill.sh prints them over the translation 3865383cfeef9820… (all of the seat's roots in one cut). By AI agents, Wed Nov 11 2026. No macro, syntax, notation, axiom, sorry.
-/
import Derived.Test.YtindkfapbgmjgaaChecked
import GoSem.Claim
import GoSem.ClaimJoined
import GoSem.ClaimMapViews
import Derived.JoinedTies
import Derived.KernelRfl
namespace Go.Proofs.Ytindkfapbgmjgaa
/- THE CELL 'sum', in the pinned program and in every row, IS THE sha256 OF THE DUMP (.gsa) THAT YtindkfapbgmjgaaProg.lean LOADS. Nothing in Lean hashes anything: it is a label: what it is worth is what the hold of that sum in a sandbox is worth. -/
noncomputable def Try.pinned : Pinned := { name := "ytindkfapbgmjgaa", sum := "3865383cfeef982056afd7483adab70e89b2c7b41b8d7f3a0a199f288ec1b139", checked := Try.checked }
namespace Rows
def none {H : Type} : Left H := { results := [], args := [] }

/-- 'laws.FnExactCounts': WHATEVER THE INPUT: true; the input reads as it did. -/
def fnExactCountsSpec : ChangeSpec := { name := "fnExactCounts", fn := fun _ => fun
  | [d] => { results := [.lit (.bool true)], args := [d] }
  | _ => none }
def fnExactCountsRow : OpenClaim := { program := "ytindkfapbgmjgaa", sum := "3865383cfeef982056afd7483adab70e89b2c7b41b8d7f3a0a199f288ec1b139", func := "loop.example/g00688/laws.FnExactCounts", spec := "fnExactCounts", unfollowed := true, recurses := true, apart := false }
def FnExactCountsSaid : Prop := fnExactCountsRow.holds Try.pinned (OpenSpec.ofChange fnExactCountsSpec)

/-- ITS FALSE NEIGHBOUR: 'it returns false'. Refute it at one input. -/
def fnExactCountsWrong : ChangeSpec := { name := "fnExactCounts", fn := fun _ => fun
  | [d] => { results := [.lit (.bool false)], args := [d] }
  | _ => none }
def FnExactCountsWrongFalsely : Prop := fnExactCountsRow.holds Try.pinned (OpenSpec.ofChange fnExactCountsWrong)

/-- 'laws.FnExactStepsBack': WHATEVER THE INPUT: true; the input reads as it did. -/
def fnExactStepsBackSpec : ChangeSpec := { name := "fnExactStepsBack", fn := fun _ => fun
  | [d1, d2, d3] => { results := [.lit (.bool true)], args := [d1, d2, d3] }
  | _ => none }
def fnExactStepsBackRow : OpenClaim := { program := "ytindkfapbgmjgaa", sum := "3865383cfeef982056afd7483adab70e89b2c7b41b8d7f3a0a199f288ec1b139", func := "loop.example/g00688/laws.FnExactStepsBack", spec := "fnExactStepsBack", unfollowed := true, recurses := true, apart := false }
def FnExactStepsBackSaid : Prop := fnExactStepsBackRow.holds Try.pinned (OpenSpec.ofChange fnExactStepsBackSpec)

/-- ITS FALSE NEIGHBOUR: 'it returns false'. Refute it at one input. -/
def fnExactStepsBackWrong : ChangeSpec := { name := "fnExactStepsBack", fn := fun _ => fun
  | [d1, d2, d3] => { results := [.lit (.bool false)], args := [d1, d2, d3] }
  | _ => none }
def FnExactStepsBackWrongFalsely : Prop := fnExactStepsBackRow.holds Try.pinned (OpenSpec.ofChange fnExactStepsBackWrong)

/-- 'laws.FnExactLfOf': WHATEVER THE INPUT: true; the input reads as it did. -/
def fnExactLfOfSpec : ChangeSpec := { name := "fnExactLfOf", fn := fun _ => fun
  | [d] => { results := [.lit (.bool true)], args := [d] }
  | _ => none }
def fnExactLfOfRow : OpenClaim := { program := "ytindkfapbgmjgaa", sum := "3865383cfeef982056afd7483adab70e89b2c7b41b8d7f3a0a199f288ec1b139", func := "loop.example/g00688/laws.FnExactLfOf", spec := "fnExactLfOf", unfollowed := true, recurses := true, apart := false }
def FnExactLfOfSaid : Prop := fnExactLfOfRow.holds Try.pinned (OpenSpec.ofChange fnExactLfOfSpec)

/-- ITS FALSE NEIGHBOUR: 'it returns false'. Refute it at one input. -/
def fnExactLfOfWrong : ChangeSpec := { name := "fnExactLfOf", fn := fun _ => fun
  | [d] => { results := [.lit (.bool false)], args := [d] }
  | _ => none }
def FnExactLfOfWrongFalsely : Prop := fnExactLfOfRow.holds Try.pinned (OpenSpec.ofChange fnExactLfOfWrong)

/-- 'laws.FnLfOrder': WHATEVER THE INPUT: true; the input reads as it did. -/
def fnLfOrderSpec : ChangeSpec := { name := "fnLfOrder", fn := fun _ => fun
  | [d] => { results := [.lit (.bool true)], args := [d] }
  | _ => none }
def fnLfOrderRow : OpenClaim := { program := "ytindkfapbgmjgaa", sum := "3865383cfeef982056afd7483adab70e89b2c7b41b8d7f3a0a199f288ec1b139", func := "loop.example/g00688/laws.FnLfOrder", spec := "fnLfOrder", unfollowed := true, recurses := true, apart := false }
def FnLfOrderSaid : Prop := fnLfOrderRow.holds Try.pinned (OpenSpec.ofChange fnLfOrderSpec)

/-- ITS FALSE NEIGHBOUR: 'it returns false'. Refute it at one input. -/
def fnLfOrderWrong : ChangeSpec := { name := "fnLfOrder", fn := fun _ => fun
  | [d] => { results := [.lit (.bool false)], args := [d] }
  | _ => none }
def FnLfOrderWrongFalsely : Prop := fnLfOrderRow.holds Try.pinned (OpenSpec.ofChange fnLfOrderWrong)

/-- 'laws.FnExactHuffSize': WHATEVER THE INPUT: true; the input reads as it did. -/
def fnExactHuffSizeSpec : ChangeSpec := { name := "fnExactHuffSize", fn := fun _ => fun
  | [d1, d2] => { results := [.lit (.bool true)], args := [d1, d2] }
  | _ => none }
def fnExactHuffSizeRow : OpenClaim := { program := "ytindkfapbgmjgaa", sum := "3865383cfeef982056afd7483adab70e89b2c7b41b8d7f3a0a199f288ec1b139", func := "loop.example/g00688/laws.FnExactHuffSize", spec := "fnExactHuffSize", unfollowed := true, recurses := true, apart := false }
def FnExactHuffSizeSaid : Prop := fnExactHuffSizeRow.holds Try.pinned (OpenSpec.ofChange fnExactHuffSizeSpec)

/-- ITS FALSE NEIGHBOUR: 'it returns false'. Refute it at one input. -/
def fnExactHuffSizeWrong : ChangeSpec := { name := "fnExactHuffSize", fn := fun _ => fun
  | [d1, d2] => { results := [.lit (.bool false)], args := [d1, d2] }
  | _ => none }
def FnExactHuffSizeWrongFalsely : Prop := fnExactHuffSizeRow.holds Try.pinned (OpenSpec.ofChange fnExactHuffSizeWrong)

/-- 'laws.FnExactHuffCodes': WHATEVER THE INPUT: true; the input reads as it did. -/
def fnExactHuffCodesSpec : ChangeSpec := { name := "fnExactHuffCodes", fn := fun _ => fun
  | [d] => { results := [.lit (.bool true)], args := [d] }
  | _ => none }
def fnExactHuffCodesRow : OpenClaim := { program := "ytindkfapbgmjgaa", sum := "3865383cfeef982056afd7483adab70e89b2c7b41b8d7f3a0a199f288ec1b139", func := "loop.example/g00688/laws.FnExactHuffCodes", spec := "fnExactHuffCodes", unfollowed := true, recurses := true, apart := false }
def FnExactHuffCodesSaid : Prop := fnExactHuffCodesRow.holds Try.pinned (OpenSpec.ofChange fnExactHuffCodesSpec)

/-- ITS FALSE NEIGHBOUR: 'it returns false'. Refute it at one input. -/
def fnExactHuffCodesWrong : ChangeSpec := { name := "fnExactHuffCodes", fn := fun _ => fun
  | [d] => { results := [.lit (.bool false)], args := [d] }
  | _ => none }
def FnExactHuffCodesWrongFalsely : Prop := fnExactHuffCodesRow.holds Try.pinned (OpenSpec.ofChange fnExactHuffCodesWrong)

/-- 'laws.FnExactHuffLens': WHATEVER THE INPUT: true; the input reads as it did. -/
def fnExactHuffLensSpec : ChangeSpec := { name := "fnExactHuffLens", fn := fun _ => fun
  | [d] => { results := [.lit (.bool true)], args := [d] }
  | _ => none }
def fnExactHuffLensRow : OpenClaim := { program := "ytindkfapbgmjgaa", sum := "3865383cfeef982056afd7483adab70e89b2c7b41b8d7f3a0a199f288ec1b139", func := "loop.example/g00688/laws.FnExactHuffLens", spec := "fnExactHuffLens", unfollowed := true, recurses := true, apart := false }
def FnExactHuffLensSaid : Prop := fnExactHuffLensRow.holds Try.pinned (OpenSpec.ofChange fnExactHuffLensSpec)

/-- ITS FALSE NEIGHBOUR: 'it returns false'. Refute it at one input. -/
def fnExactHuffLensWrong : ChangeSpec := { name := "fnExactHuffLens", fn := fun _ => fun
  | [d] => { results := [.lit (.bool false)], args := [d] }
  | _ => none }
def FnExactHuffLensWrongFalsely : Prop := fnExactHuffLensRow.holds Try.pinned (OpenSpec.ofChange fnExactHuffLensWrong)

/- THE SECOND FORM. 'bulk': how many values and letters a reading holds, each counted each time it is reached (what is shared counts as often as it is met; a slice's spare places count too). A statement '..UptoSaid' is the law's where the arguments, and the package variables that the reading takes, are together of bulk at most 1048576: NARROWER than '..Said'. Prove '..Said' where nothing that the law and all that it calls make is longer than what came in: it says more and counts as full. Else prove '..UptoSaid'. A law counts once. -/
mutual
def uptoBulk {H : Type} : DataW H → Nat
  | .lit (.string bytes) => bytes.length + 1
  | .lit _ => 1
  | .nil => 1
  | .ptr d => uptoBulk d + 1
  | .slice elems spare => uptoBulkAll elems + uptoBulkAll spare + 1
  | .agg parts => uptoBulkAll parts + 1
  | .iface _ d => uptoBulk d + 1
  | .map entries => uptoBulkEntries entries + 1
  | .held _ => 1
def uptoBulkAll {H : Type} : List (DataW H) → Nat
  | [] => 0
  | d :: r => uptoBulk d + uptoBulkAll r
def uptoBulkEntries {H : Type} : List (Lit × DataW H) → Nat
  | [] => 0
  | x :: r => uptoBulkEntry x + uptoBulkEntries r
def uptoBulkEntry {H : Type} : Lit × DataW H → Nat
  | (.string bytes, d) => bytes.length + uptoBulk d + 1
  | (_, d) => uptoBulk d + 1
 end
def uptoSmall : (H : Type) → List (DataW H) → Bool := fun _ ds => decide (uptoBulkAll ds ≤ 1048576)
def OpenSpec.upto (s : _root_.Go.ChangeSpec) : _root_.Go.OpenSpec := { _root_.Go.OpenSpec.ofChange s with cond := some uptoSmall }

/-- 'laws.FnExactCounts', WHERE WHAT IT READS IS OF BULK AT MOST 1048576: true; the input reads as it did. -/
def fnExactCountsUptoRow : OpenClaim := { program := "ytindkfapbgmjgaa", sum := "3865383cfeef982056afd7483adab70e89b2c7b41b8d7f3a0a199f288ec1b139", func := "loop.example/g00688/laws.FnExactCounts", spec := "fnExactCounts", unfollowed := true, recurses := true, apart := false, narrowed := true }
def FnExactCountsUptoSaid : Prop := fnExactCountsUptoRow.holds Try.pinned (OpenSpec.upto fnExactCountsSpec)

/-- 'laws.FnExactStepsBack', WHERE WHAT IT READS IS OF BULK AT MOST 1048576: true; the input reads as it did. -/
def fnExactStepsBackUptoRow : OpenClaim := { program := "ytindkfapbgmjgaa", sum := "3865383cfeef982056afd7483adab70e89b2c7b41b8d7f3a0a199f288ec1b139", func := "loop.example/g00688/laws.FnExactStepsBack", spec := "fnExactStepsBack", unfollowed := true, recurses := true, apart := false, narrowed := true }
def FnExactStepsBackUptoSaid : Prop := fnExactStepsBackUptoRow.holds Try.pinned (OpenSpec.upto fnExactStepsBackSpec)

/-- 'laws.FnExactLfOf', WHERE WHAT IT READS IS OF BULK AT MOST 1048576: true; the input reads as it did. -/
def fnExactLfOfUptoRow : OpenClaim := { program := "ytindkfapbgmjgaa", sum := "3865383cfeef982056afd7483adab70e89b2c7b41b8d7f3a0a199f288ec1b139", func := "loop.example/g00688/laws.FnExactLfOf", spec := "fnExactLfOf", unfollowed := true, recurses := true, apart := false, narrowed := true }
def FnExactLfOfUptoSaid : Prop := fnExactLfOfUptoRow.holds Try.pinned (OpenSpec.upto fnExactLfOfSpec)

/-- 'laws.FnLfOrder', WHERE WHAT IT READS IS OF BULK AT MOST 1048576: true; the input reads as it did. -/
def fnLfOrderUptoRow : OpenClaim := { program := "ytindkfapbgmjgaa", sum := "3865383cfeef982056afd7483adab70e89b2c7b41b8d7f3a0a199f288ec1b139", func := "loop.example/g00688/laws.FnLfOrder", spec := "fnLfOrder", unfollowed := true, recurses := true, apart := false, narrowed := true }
def FnLfOrderUptoSaid : Prop := fnLfOrderUptoRow.holds Try.pinned (OpenSpec.upto fnLfOrderSpec)

/-- 'laws.FnExactHuffSize', WHERE WHAT IT READS IS OF BULK AT MOST 1048576: true; the input reads as it did. -/
def fnExactHuffSizeUptoRow : OpenClaim := { program := "ytindkfapbgmjgaa", sum := "3865383cfeef982056afd7483adab70e89b2c7b41b8d7f3a0a199f288ec1b139", func := "loop.example/g00688/laws.FnExactHuffSize", spec := "fnExactHuffSize", unfollowed := true, recurses := true, apart := false, narrowed := true }
def FnExactHuffSizeUptoSaid : Prop := fnExactHuffSizeUptoRow.holds Try.pinned (OpenSpec.upto fnExactHuffSizeSpec)

/-- 'laws.FnExactHuffCodes', WHERE WHAT IT READS IS OF BULK AT MOST 1048576: true; the input reads as it did. -/
def fnExactHuffCodesUptoRow : OpenClaim := { program := "ytindkfapbgmjgaa", sum := "3865383cfeef982056afd7483adab70e89b2c7b41b8d7f3a0a199f288ec1b139", func := "loop.example/g00688/laws.FnExactHuffCodes", spec := "fnExactHuffCodes", unfollowed := true, recurses := true, apart := false, narrowed := true }
def FnExactHuffCodesUptoSaid : Prop := fnExactHuffCodesUptoRow.holds Try.pinned (OpenSpec.upto fnExactHuffCodesSpec)

/-- 'laws.FnExactHuffLens', WHERE WHAT IT READS IS OF BULK AT MOST 1048576: true; the input reads as it did. -/
def fnExactHuffLensUptoRow : OpenClaim := { program := "ytindkfapbgmjgaa", sum := "3865383cfeef982056afd7483adab70e89b2c7b41b8d7f3a0a199f288ec1b139", func := "loop.example/g00688/laws.FnExactHuffLens", spec := "fnExactHuffLens", unfollowed := true, recurses := true, apart := false, narrowed := true }
def FnExactHuffLensUptoSaid : Prop := fnExactHuffLensUptoRow.holds Try.pinned (OpenSpec.upto fnExactHuffLensSpec)

end Rows
end Go.Proofs.Ytindkfapbgmjgaa
