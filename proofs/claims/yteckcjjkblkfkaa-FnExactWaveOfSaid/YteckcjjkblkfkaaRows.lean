/-
  No cell of these rows narrows 'for every input' (looked for: loops, veiled, ifaces, maps, wideKeys, modest, calm, conditions, laid).
  DERIVED. THE GIVEN ROWS OF THIS SEAT. 7 by the template 'for every input the law returns true; each argument reads behind the call as it read before'; 0 by the template 'total and deterministic' (their statements: YteckcjjkblkfkaaTotals.lean).
  GIVEN WITH THE SEED: the statements are not yours to turn. If you find one false, say at which input.
  Laid BY PROGRAM, IN A SANDBOX (cutbox-rows.mjs): the forced cells as the released guide's own fill.sh prints them over the translation 1bfd05de877d6756… (all of the seat's roots in one cut). By AI agents, Wed Nov 11 2026. No macro, syntax, notation, axiom, sorry.
-/
import Derived.Test.YteckcjjkblkfkaaChecked
import GoSem.Claim
import GoSem.ClaimJoined
import GoSem.ClaimMapViews
import Derived.JoinedTies
import Derived.KernelRfl
namespace Go.Proofs.Yteckcjjkblkfkaa
/- THE CELL 'sum', in the pinned program and in every row, IS THE sha256 OF THE DUMP (.gsa) THAT YteckcjjkblkfkaaProg.lean LOADS. Nothing in Lean hashes anything: it is a label: what it is worth is what the hold of that sum in a sandbox is worth. -/
noncomputable def Try.pinned : Pinned := { name := "yteckcjjkblkfkaa", sum := "1bfd05de877d67569270799e6914d5289f28d2d569e3cc15eeee0b307b4d6be3", checked := Try.checked }
namespace Rows
def none {H : Type} : Left H := { results := [], args := [] }

/-- 'laws.FnExactPackOk': WHATEVER THE INPUT: true; the input reads as it did. -/
def fnExactPackOkSpec : ChangeSpec := { name := "fnExactPackOk", fn := fun _ => fun
  | [d] => { results := [.lit (.bool true)], args := [d] }
  | _ => none }
def fnExactPackOkRow : OpenClaim := { program := "yteckcjjkblkfkaa", sum := "1bfd05de877d67569270799e6914d5289f28d2d569e3cc15eeee0b307b4d6be3", func := "loop.example/g00688/laws.FnExactPackOk", spec := "fnExactPackOk", apart := false }
def FnExactPackOkSaid : Prop := fnExactPackOkRow.holds Try.pinned (OpenSpec.ofChange fnExactPackOkSpec)

/-- ITS FALSE NEIGHBOUR: 'it returns false'. Refute it at one input. -/
def fnExactPackOkWrong : ChangeSpec := { name := "fnExactPackOk", fn := fun _ => fun
  | [d] => { results := [.lit (.bool false)], args := [d] }
  | _ => none }
def FnExactPackOkWrongFalsely : Prop := fnExactPackOkRow.holds Try.pinned (OpenSpec.ofChange fnExactPackOkWrong)

/-- 'laws.FnExactPackAt': WHATEVER THE INPUT: true; the input reads as it did. -/
def fnExactPackAtSpec : ChangeSpec := { name := "fnExactPackAt", fn := fun _ => fun
  | [d1, d2] => { results := [.lit (.bool true)], args := [d1, d2] }
  | _ => none }
def fnExactPackAtRow : OpenClaim := { program := "yteckcjjkblkfkaa", sum := "1bfd05de877d67569270799e6914d5289f28d2d569e3cc15eeee0b307b4d6be3", func := "loop.example/g00688/laws.FnExactPackAt", spec := "fnExactPackAt", apart := false }
def FnExactPackAtSaid : Prop := fnExactPackAtRow.holds Try.pinned (OpenSpec.ofChange fnExactPackAtSpec)

/-- ITS FALSE NEIGHBOUR: 'it returns false'. Refute it at one input. -/
def fnExactPackAtWrong : ChangeSpec := { name := "fnExactPackAt", fn := fun _ => fun
  | [d1, d2] => { results := [.lit (.bool false)], args := [d1, d2] }
  | _ => none }
def FnExactPackAtWrongFalsely : Prop := fnExactPackAtRow.holds Try.pinned (OpenSpec.ofChange fnExactPackAtWrong)

/-- 'laws.FnExactPackOf': WHATEVER THE INPUT: true; the input reads as it did. -/
def fnExactPackOfSpec : ChangeSpec := { name := "fnExactPackOf", fn := fun _ => fun
  | [d1, d2] => { results := [.lit (.bool true)], args := [d1, d2] }
  | _ => none }
def fnExactPackOfRow : OpenClaim := { program := "yteckcjjkblkfkaa", sum := "1bfd05de877d67569270799e6914d5289f28d2d569e3cc15eeee0b307b4d6be3", func := "loop.example/g00688/laws.FnExactPackOf", spec := "fnExactPackOf", unfollowed := true, recurses := true, apart := false }
def FnExactPackOfSaid : Prop := fnExactPackOfRow.holds Try.pinned (OpenSpec.ofChange fnExactPackOfSpec)

/-- ITS FALSE NEIGHBOUR: 'it returns false'. Refute it at one input. -/
def fnExactPackOfWrong : ChangeSpec := { name := "fnExactPackOf", fn := fun _ => fun
  | [d1, d2] => { results := [.lit (.bool false)], args := [d1, d2] }
  | _ => none }
def FnExactPackOfWrongFalsely : Prop := fnExactPackOfRow.holds Try.pinned (OpenSpec.ofChange fnExactPackOfWrong)

/-- 'laws.FnExactPackList': WHATEVER THE INPUT: true; the input reads as it did. -/
def fnExactPackListSpec : ChangeSpec := { name := "fnExactPackList", fn := fun _ => fun
  | [d] => { results := [.lit (.bool true)], args := [d] }
  | _ => none }
def fnExactPackListRow : OpenClaim := { program := "yteckcjjkblkfkaa", sum := "1bfd05de877d67569270799e6914d5289f28d2d569e3cc15eeee0b307b4d6be3", func := "loop.example/g00688/laws.FnExactPackList", spec := "fnExactPackList", apart := false }
def FnExactPackListSaid : Prop := fnExactPackListRow.holds Try.pinned (OpenSpec.ofChange fnExactPackListSpec)

/-- ITS FALSE NEIGHBOUR: 'it returns false'. Refute it at one input. -/
def fnExactPackListWrong : ChangeSpec := { name := "fnExactPackList", fn := fun _ => fun
  | [d] => { results := [.lit (.bool false)], args := [d] }
  | _ => none }
def FnExactPackListWrongFalsely : Prop := fnExactPackListRow.holds Try.pinned (OpenSpec.ofChange fnExactPackListWrong)

/-- 'laws.FnPackBack': WHATEVER THE INPUT: true; the input reads as it did. -/
def fnPackBackSpec : ChangeSpec := { name := "fnPackBack", fn := fun _ => fun
  | [d] => { results := [.lit (.bool true)], args := [d] }
  | _ => none }
def fnPackBackRow : OpenClaim := { program := "yteckcjjkblkfkaa", sum := "1bfd05de877d67569270799e6914d5289f28d2d569e3cc15eeee0b307b4d6be3", func := "loop.example/g00688/laws.FnPackBack", spec := "fnPackBack", unfollowed := true, recurses := true, apart := false }
def FnPackBackSaid : Prop := fnPackBackRow.holds Try.pinned (OpenSpec.ofChange fnPackBackSpec)

/-- ITS FALSE NEIGHBOUR: 'it returns false'. Refute it at one input. -/
def fnPackBackWrong : ChangeSpec := { name := "fnPackBack", fn := fun _ => fun
  | [d] => { results := [.lit (.bool false)], args := [d] }
  | _ => none }
def FnPackBackWrongFalsely : Prop := fnPackBackRow.holds Try.pinned (OpenSpec.ofChange fnPackBackWrong)

/-- 'laws.FnExactSparseOf': WHATEVER THE INPUT: true; the input reads as it did. -/
def fnExactSparseOfSpec : ChangeSpec := { name := "fnExactSparseOf", fn := fun _ => fun
  | [d1, d2] => { results := [.lit (.bool true)], args := [d1, d2] }
  | _ => none }
def fnExactSparseOfRow : OpenClaim := { program := "yteckcjjkblkfkaa", sum := "1bfd05de877d67569270799e6914d5289f28d2d569e3cc15eeee0b307b4d6be3", func := "loop.example/g00688/laws.FnExactSparseOf", spec := "fnExactSparseOf", unfollowed := true, recurses := true, apart := false }
def FnExactSparseOfSaid : Prop := fnExactSparseOfRow.holds Try.pinned (OpenSpec.ofChange fnExactSparseOfSpec)

/-- ITS FALSE NEIGHBOUR: 'it returns false'. Refute it at one input. -/
def fnExactSparseOfWrong : ChangeSpec := { name := "fnExactSparseOf", fn := fun _ => fun
  | [d1, d2] => { results := [.lit (.bool false)], args := [d1, d2] }
  | _ => none }
def FnExactSparseOfWrongFalsely : Prop := fnExactSparseOfRow.holds Try.pinned (OpenSpec.ofChange fnExactSparseOfWrong)

/-- 'laws.FnExactWaveOf': WHATEVER THE INPUT: true; the input reads as it did. -/
def fnExactWaveOfSpec : ChangeSpec := { name := "fnExactWaveOf", fn := fun _ => fun
  | [d] => { results := [.lit (.bool true)], args := [d] }
  | _ => none }
def fnExactWaveOfRow : OpenClaim := { program := "yteckcjjkblkfkaa", sum := "1bfd05de877d67569270799e6914d5289f28d2d569e3cc15eeee0b307b4d6be3", func := "loop.example/g00688/laws.FnExactWaveOf", spec := "fnExactWaveOf", unfollowed := true, recurses := true, apart := false }
def FnExactWaveOfSaid : Prop := fnExactWaveOfRow.holds Try.pinned (OpenSpec.ofChange fnExactWaveOfSpec)

/-- ITS FALSE NEIGHBOUR: 'it returns false'. Refute it at one input. -/
def fnExactWaveOfWrong : ChangeSpec := { name := "fnExactWaveOf", fn := fun _ => fun
  | [d] => { results := [.lit (.bool false)], args := [d] }
  | _ => none }
def FnExactWaveOfWrongFalsely : Prop := fnExactWaveOfRow.holds Try.pinned (OpenSpec.ofChange fnExactWaveOfWrong)

/- THE SECOND FORM. 'bulk': how many values and letters a reading holds, each counted each time it is reached (what is shared counts as often as it is met; a slice's spare places count too). A statement '..UptoSaid' is the law's where the arguments, and the package variables that the reading takes, are together of bulk at most 1048576: NARROWER than '..Said'. Prove '..Said' where nothing that the law and all that it calls make is longer than what came in: it says more and counts as full. Else prove '..UptoSaid'. A law counts once. -/
mutual
def uptoBulk {H : Type} : DataW H → Nat
  | .lit (.string bytes) => bytes.length + 1
  | .lit _ => 1
  | .nil => 1
  | .ptr d => uptoBulk d + 1
  | .slice elems spare => uptoBulkAll elems + uptoBulkAll spare + 1
  | .agg parts => uptoBulkAll parts + 1
  | .iface _ d => uptoBulk d + 1
  | .map entries => uptoBulkEntries entries + 1
  | .held _ => 1
def uptoBulkAll {H : Type} : List (DataW H) → Nat
  | [] => 0
  | d :: r => uptoBulk d + uptoBulkAll r
def uptoBulkEntries {H : Type} : List (Lit × DataW H) → Nat
  | [] => 0
  | x :: r => uptoBulkEntry x + uptoBulkEntries r
def uptoBulkEntry {H : Type} : Lit × DataW H → Nat
  | (.string bytes, d) => bytes.length + uptoBulk d + 1
  | (_, d) => uptoBulk d + 1
 end
def uptoSmall : (H : Type) → List (DataW H) → Bool := fun _ ds => decide (uptoBulkAll ds ≤ 1048576)
def OpenSpec.upto (s : _root_.Go.ChangeSpec) : _root_.Go.OpenSpec := { _root_.Go.OpenSpec.ofChange s with cond := some uptoSmall }

/-- 'laws.FnExactPackOk', WHERE WHAT IT READS IS OF BULK AT MOST 1048576: true; the input reads as it did. -/
def fnExactPackOkUptoRow : OpenClaim := { program := "yteckcjjkblkfkaa", sum := "1bfd05de877d67569270799e6914d5289f28d2d569e3cc15eeee0b307b4d6be3", func := "loop.example/g00688/laws.FnExactPackOk", spec := "fnExactPackOk", apart := false, narrowed := true }
def FnExactPackOkUptoSaid : Prop := fnExactPackOkUptoRow.holds Try.pinned (OpenSpec.upto fnExactPackOkSpec)

/-- 'laws.FnExactPackAt', WHERE WHAT IT READS IS OF BULK AT MOST 1048576: true; the input reads as it did. -/
def fnExactPackAtUptoRow : OpenClaim := { program := "yteckcjjkblkfkaa", sum := "1bfd05de877d67569270799e6914d5289f28d2d569e3cc15eeee0b307b4d6be3", func := "loop.example/g00688/laws.FnExactPackAt", spec := "fnExactPackAt", apart := false, narrowed := true }
def FnExactPackAtUptoSaid : Prop := fnExactPackAtUptoRow.holds Try.pinned (OpenSpec.upto fnExactPackAtSpec)

/-- 'laws.FnExactPackOf', WHERE WHAT IT READS IS OF BULK AT MOST 1048576: true; the input reads as it did. -/
def fnExactPackOfUptoRow : OpenClaim := { program := "yteckcjjkblkfkaa", sum := "1bfd05de877d67569270799e6914d5289f28d2d569e3cc15eeee0b307b4d6be3", func := "loop.example/g00688/laws.FnExactPackOf", spec := "fnExactPackOf", unfollowed := true, recurses := true, apart := false, narrowed := true }
def FnExactPackOfUptoSaid : Prop := fnExactPackOfUptoRow.holds Try.pinned (OpenSpec.upto fnExactPackOfSpec)

/-- 'laws.FnExactPackList', WHERE WHAT IT READS IS OF BULK AT MOST 1048576: true; the input reads as it did. -/
def fnExactPackListUptoRow : OpenClaim := { program := "yteckcjjkblkfkaa", sum := "1bfd05de877d67569270799e6914d5289f28d2d569e3cc15eeee0b307b4d6be3", func := "loop.example/g00688/laws.FnExactPackList", spec := "fnExactPackList", apart := false, narrowed := true }
def FnExactPackListUptoSaid : Prop := fnExactPackListUptoRow.holds Try.pinned (OpenSpec.upto fnExactPackListSpec)

/-- 'laws.FnPackBack', WHERE WHAT IT READS IS OF BULK AT MOST 1048576: true; the input reads as it did. -/
def fnPackBackUptoRow : OpenClaim := { program := "yteckcjjkblkfkaa", sum := "1bfd05de877d67569270799e6914d5289f28d2d569e3cc15eeee0b307b4d6be3", func := "loop.example/g00688/laws.FnPackBack", spec := "fnPackBack", unfollowed := true, recurses := true, apart := false, narrowed := true }
def FnPackBackUptoSaid : Prop := fnPackBackUptoRow.holds Try.pinned (OpenSpec.upto fnPackBackSpec)

/-- 'laws.FnExactSparseOf', WHERE WHAT IT READS IS OF BULK AT MOST 1048576: true; the input reads as it did. -/
def fnExactSparseOfUptoRow : OpenClaim := { program := "yteckcjjkblkfkaa", sum := "1bfd05de877d67569270799e6914d5289f28d2d569e3cc15eeee0b307b4d6be3", func := "loop.example/g00688/laws.FnExactSparseOf", spec := "fnExactSparseOf", unfollowed := true, recurses := true, apart := false, narrowed := true }
def FnExactSparseOfUptoSaid : Prop := fnExactSparseOfUptoRow.holds Try.pinned (OpenSpec.upto fnExactSparseOfSpec)

/-- 'laws.FnExactWaveOf', WHERE WHAT IT READS IS OF BULK AT MOST 1048576: true; the input reads as it did. -/
def fnExactWaveOfUptoRow : OpenClaim := { program := "yteckcjjkblkfkaa", sum := "1bfd05de877d67569270799e6914d5289f28d2d569e3cc15eeee0b307b4d6be3", func := "loop.example/g00688/laws.FnExactWaveOf", spec := "fnExactWaveOf", unfollowed := true, recurses := true, apart := false, narrowed := true }
def FnExactWaveOfUptoSaid : Prop := fnExactWaveOfUptoRow.holds Try.pinned (OpenSpec.upto fnExactWaveOfSpec)

end Rows
end Go.Proofs.Yteckcjjkblkfkaa
