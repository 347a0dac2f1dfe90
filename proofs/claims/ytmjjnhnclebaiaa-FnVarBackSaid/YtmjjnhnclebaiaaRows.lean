/-
  No cell of these rows narrows 'for every input' (looked for: loops, veiled, ifaces, maps, wideKeys, modest, calm, conditions, laid).
  DERIVED. THE GIVEN ROWS OF THIS SEAT. 12 by the template 'for every input the law returns true; each argument reads behind the call as it read before'; 0 by the template 'total and deterministic' (their statements: YtmjjnhnclebaiaaTotals.lean).
  GIVEN WITH THE SEED: the statements are not yours to turn. If you find one false, say at which input.
  Laid BY PROGRAM, IN A SANDBOX (cutbox-rows.mjs): the forced cells as the released guide's own fill.sh prints them over the translation eafa1a9037c7f72e… (all of the seat's roots in one cut). By AI agents, Wed Nov 11 2026. No macro, syntax, notation, axiom, sorry.
-/
import Derived.Test.YtmjjnhnclebaiaaChecked
import GoSem.Claim
import GoSem.ClaimJoined
import GoSem.ClaimMapViews
import Derived.JoinedTies
import Derived.KernelRfl
namespace Go.Proofs.Ytmjjnhnclebaiaa
/- THE CELL 'sum', in the pinned program and in every row, IS THE sha256 OF THE DUMP (.gsa) THAT YtmjjnhnclebaiaaProg.lean LOADS. Nothing in Lean hashes anything: it is a label: what it is worth is what the hold of that sum in a sandbox is worth. -/
noncomputable def Try.pinned : Pinned := { name := "ytmjjnhnclebaiaa", sum := "eafa1a9037c7f72e1fc73008ca3497a629ea607bcaa23d9bfc93736fe129b7c4", checked := Try.checked }
namespace Rows
def none {H : Type} : Left H := { results := [], args := [] }

/-- 'laws.FnExactConstants': WHATEVER THE INPUT: true; the input reads as it did. -/
def fnExactConstantsSpec : ChangeSpec := { name := "fnExactConstants", fn := fun _ => fun
  | [] => { results := [.lit (.bool true)], args := [] }
  | _ => none }
def fnExactConstantsRow : OpenClaim := { program := "ytmjjnhnclebaiaa", sum := "eafa1a9037c7f72e1fc73008ca3497a629ea607bcaa23d9bfc93736fe129b7c4", func := "loop.example/g00688/laws.FnExactConstants", spec := "fnExactConstants", apart := false }
def FnExactConstantsSaid : Prop := fnExactConstantsRow.holds Try.pinned (OpenSpec.ofChange fnExactConstantsSpec)

/-- ITS FALSE NEIGHBOUR: 'it returns false'. Refute it at one input. -/
def fnExactConstantsWrong : ChangeSpec := { name := "fnExactConstants", fn := fun _ => fun
  | [] => { results := [.lit (.bool false)], args := [] }
  | _ => none }
def FnExactConstantsWrongFalsely : Prop := fnExactConstantsRow.holds Try.pinned (OpenSpec.ofChange fnExactConstantsWrong)

/-- 'laws.FnExactTextOk': WHATEVER THE INPUT: true; the input reads as it did. -/
def fnExactTextOkSpec : ChangeSpec := { name := "fnExactTextOk", fn := fun _ => fun
  | [d] => { results := [.lit (.bool true)], args := [d] }
  | _ => none }
def fnExactTextOkRow : OpenClaim := { program := "ytmjjnhnclebaiaa", sum := "eafa1a9037c7f72e1fc73008ca3497a629ea607bcaa23d9bfc93736fe129b7c4", func := "loop.example/g00688/laws.FnExactTextOk", spec := "fnExactTextOk", apart := false }
def FnExactTextOkSaid : Prop := fnExactTextOkRow.holds Try.pinned (OpenSpec.ofChange fnExactTextOkSpec)

/-- ITS FALSE NEIGHBOUR: 'it returns false'. Refute it at one input. -/
def fnExactTextOkWrong : ChangeSpec := { name := "fnExactTextOk", fn := fun _ => fun
  | [d] => { results := [.lit (.bool false)], args := [d] }
  | _ => none }
def FnExactTextOkWrongFalsely : Prop := fnExactTextOkRow.holds Try.pinned (OpenSpec.ofChange fnExactTextOkWrong)

/-- 'laws.FnExactSymsOk': WHATEVER THE INPUT: true; the input reads as it did. -/
def fnExactSymsOkSpec : ChangeSpec := { name := "fnExactSymsOk", fn := fun _ => fun
  | [d] => { results := [.lit (.bool true)], args := [d] }
  | _ => none }
def fnExactSymsOkRow : OpenClaim := { program := "ytmjjnhnclebaiaa", sum := "eafa1a9037c7f72e1fc73008ca3497a629ea607bcaa23d9bfc93736fe129b7c4", func := "loop.example/g00688/laws.FnExactSymsOk", spec := "fnExactSymsOk", unfollowed := true, recurses := true, apart := false }
def FnExactSymsOkSaid : Prop := fnExactSymsOkRow.holds Try.pinned (OpenSpec.ofChange fnExactSymsOkSpec)

/-- ITS FALSE NEIGHBOUR: 'it returns false'. Refute it at one input. -/
def fnExactSymsOkWrong : ChangeSpec := { name := "fnExactSymsOk", fn := fun _ => fun
  | [d] => { results := [.lit (.bool false)], args := [d] }
  | _ => none }
def FnExactSymsOkWrongFalsely : Prop := fnExactSymsOkRow.holds Try.pinned (OpenSpec.ofChange fnExactSymsOkWrong)

/-- 'laws.FnExactWidthOf': WHATEVER THE INPUT: true; the input reads as it did. -/
def fnExactWidthOfSpec : ChangeSpec := { name := "fnExactWidthOf", fn := fun _ => fun
  | [d] => { results := [.lit (.bool true)], args := [d] }
  | _ => none }
def fnExactWidthOfRow : OpenClaim := { program := "ytmjjnhnclebaiaa", sum := "eafa1a9037c7f72e1fc73008ca3497a629ea607bcaa23d9bfc93736fe129b7c4", func := "loop.example/g00688/laws.FnExactWidthOf", spec := "fnExactWidthOf", apart := false }
def FnExactWidthOfSaid : Prop := fnExactWidthOfRow.holds Try.pinned (OpenSpec.ofChange fnExactWidthOfSpec)

/-- ITS FALSE NEIGHBOUR: 'it returns false'. Refute it at one input. -/
def fnExactWidthOfWrong : ChangeSpec := { name := "fnExactWidthOf", fn := fun _ => fun
  | [d] => { results := [.lit (.bool false)], args := [d] }
  | _ => none }
def FnExactWidthOfWrongFalsely : Prop := fnExactWidthOfRow.holds Try.pinned (OpenSpec.ofChange fnExactWidthOfWrong)

/-- 'laws.FnExactVarOf': WHATEVER THE INPUT: true; the input reads as it did. -/
def fnExactVarOfSpec : ChangeSpec := { name := "fnExactVarOf", fn := fun _ => fun
  | [d] => { results := [.lit (.bool true)], args := [d] }
  | _ => none }
def fnExactVarOfRow : OpenClaim := { program := "ytmjjnhnclebaiaa", sum := "eafa1a9037c7f72e1fc73008ca3497a629ea607bcaa23d9bfc93736fe129b7c4", func := "loop.example/g00688/laws.FnExactVarOf", spec := "fnExactVarOf", apart := false }
def FnExactVarOfSaid : Prop := fnExactVarOfRow.holds Try.pinned (OpenSpec.ofChange fnExactVarOfSpec)

/-- ITS FALSE NEIGHBOUR: 'it returns false'. Refute it at one input. -/
def fnExactVarOfWrong : ChangeSpec := { name := "fnExactVarOf", fn := fun _ => fun
  | [d] => { results := [.lit (.bool false)], args := [d] }
  | _ => none }
def FnExactVarOfWrongFalsely : Prop := fnExactVarOfRow.holds Try.pinned (OpenSpec.ofChange fnExactVarOfWrong)

/-- 'laws.FnExactVarRead': WHATEVER THE INPUT: true; the input reads as it did. -/
def fnExactVarReadSpec : ChangeSpec := { name := "fnExactVarRead", fn := fun _ => fun
  | [d1, d2] => { results := [.lit (.bool true)], args := [d1, d2] }
  | _ => none }
def fnExactVarReadRow : OpenClaim := { program := "ytmjjnhnclebaiaa", sum := "eafa1a9037c7f72e1fc73008ca3497a629ea607bcaa23d9bfc93736fe129b7c4", func := "loop.example/g00688/laws.FnExactVarRead", spec := "fnExactVarRead", apart := false }
def FnExactVarReadSaid : Prop := fnExactVarReadRow.holds Try.pinned (OpenSpec.ofChange fnExactVarReadSpec)

/-- ITS FALSE NEIGHBOUR: 'it returns false'. Refute it at one input. -/
def fnExactVarReadWrong : ChangeSpec := { name := "fnExactVarRead", fn := fun _ => fun
  | [d1, d2] => { results := [.lit (.bool false)], args := [d1, d2] }
  | _ => none }
def FnExactVarReadWrongFalsely : Prop := fnExactVarReadRow.holds Try.pinned (OpenSpec.ofChange fnExactVarReadWrong)

/-- 'laws.FnVarBack': WHATEVER THE INPUT: true; the input reads as it did. -/
def fnVarBackSpec : ChangeSpec := { name := "fnVarBack", fn := fun _ => fun
  | [d] => { results := [.lit (.bool true)], args := [d] }
  | _ => none }
def fnVarBackRow : OpenClaim := { program := "ytmjjnhnclebaiaa", sum := "eafa1a9037c7f72e1fc73008ca3497a629ea607bcaa23d9bfc93736fe129b7c4", func := "loop.example/g00688/laws.FnVarBack", spec := "fnVarBack", apart := false }
def FnVarBackSaid : Prop := fnVarBackRow.holds Try.pinned (OpenSpec.ofChange fnVarBackSpec)

/-- ITS FALSE NEIGHBOUR: 'it returns false'. Refute it at one input. -/
def fnVarBackWrong : ChangeSpec := { name := "fnVarBack", fn := fun _ => fun
  | [d] => { results := [.lit (.bool false)], args := [d] }
  | _ => none }
def FnVarBackWrongFalsely : Prop := fnVarBackRow.holds Try.pinned (OpenSpec.ofChange fnVarBackWrong)

/-- 'laws.FnExactCrc': WHATEVER THE INPUT: true; the input reads as it did. -/
def fnExactCrcSpec : ChangeSpec := { name := "fnExactCrc", fn := fun _ => fun
  | [d] => { results := [.lit (.bool true)], args := [d] }
  | _ => none }
def fnExactCrcRow : OpenClaim := { program := "ytmjjnhnclebaiaa", sum := "eafa1a9037c7f72e1fc73008ca3497a629ea607bcaa23d9bfc93736fe129b7c4", func := "loop.example/g00688/laws.FnExactCrc", spec := "fnExactCrc", apart := false }
def FnExactCrcSaid : Prop := fnExactCrcRow.holds Try.pinned (OpenSpec.ofChange fnExactCrcSpec)

/-- ITS FALSE NEIGHBOUR: 'it returns false'. Refute it at one input. -/
def fnExactCrcWrong : ChangeSpec := { name := "fnExactCrc", fn := fun _ => fun
  | [d] => { results := [.lit (.bool false)], args := [d] }
  | _ => none }
def FnExactCrcWrongFalsely : Prop := fnExactCrcRow.holds Try.pinned (OpenSpec.ofChange fnExactCrcWrong)

/-- 'laws.FnExactFrameOk': WHATEVER THE INPUT: true; the input reads as it did. -/
def fnExactFrameOkSpec : ChangeSpec := { name := "fnExactFrameOk", fn := fun _ => fun
  | [d] => { results := [.lit (.bool true)], args := [d] }
  | _ => none }
def fnExactFrameOkRow : OpenClaim := { program := "ytmjjnhnclebaiaa", sum := "eafa1a9037c7f72e1fc73008ca3497a629ea607bcaa23d9bfc93736fe129b7c4", func := "loop.example/g00688/laws.FnExactFrameOk", spec := "fnExactFrameOk", apart := false }
def FnExactFrameOkSaid : Prop := fnExactFrameOkRow.holds Try.pinned (OpenSpec.ofChange fnExactFrameOkSpec)

/-- ITS FALSE NEIGHBOUR: 'it returns false'. Refute it at one input. -/
def fnExactFrameOkWrong : ChangeSpec := { name := "fnExactFrameOk", fn := fun _ => fun
  | [d] => { results := [.lit (.bool false)], args := [d] }
  | _ => none }
def FnExactFrameOkWrongFalsely : Prop := fnExactFrameOkRow.holds Try.pinned (OpenSpec.ofChange fnExactFrameOkWrong)

/-- 'laws.FnExactInverse': WHATEVER THE INPUT: true; the input reads as it did. -/
def fnExactInverseSpec : ChangeSpec := { name := "fnExactInverse", fn := fun _ => fun
  | [d] => { results := [.lit (.bool true)], args := [d] }
  | _ => none }
def fnExactInverseRow : OpenClaim := { program := "ytmjjnhnclebaiaa", sum := "eafa1a9037c7f72e1fc73008ca3497a629ea607bcaa23d9bfc93736fe129b7c4", func := "loop.example/g00688/laws.FnExactInverse", spec := "fnExactInverse", apart := false }
def FnExactInverseSaid : Prop := fnExactInverseRow.holds Try.pinned (OpenSpec.ofChange fnExactInverseSpec)

/-- ITS FALSE NEIGHBOUR: 'it returns false'. Refute it at one input. -/
def fnExactInverseWrong : ChangeSpec := { name := "fnExactInverse", fn := fun _ => fun
  | [d] => { results := [.lit (.bool false)], args := [d] }
  | _ => none }
def FnExactInverseWrongFalsely : Prop := fnExactInverseRow.holds Try.pinned (OpenSpec.ofChange fnExactInverseWrong)

/-- 'laws.FnExactHuffOk': WHATEVER THE INPUT: true; the input reads as it did. -/
def fnExactHuffOkSpec : ChangeSpec := { name := "fnExactHuffOk", fn := fun _ => fun
  | [d] => { results := [.lit (.bool true)], args := [d] }
  | _ => none }
def fnExactHuffOkRow : OpenClaim := { program := "ytmjjnhnclebaiaa", sum := "eafa1a9037c7f72e1fc73008ca3497a629ea607bcaa23d9bfc93736fe129b7c4", func := "loop.example/g00688/laws.FnExactHuffOk", spec := "fnExactHuffOk", unfollowed := true, recurses := true, apart := false }
def FnExactHuffOkSaid : Prop := fnExactHuffOkRow.holds Try.pinned (OpenSpec.ofChange fnExactHuffOkSpec)

/-- ITS FALSE NEIGHBOUR: 'it returns false'. Refute it at one input. -/
def fnExactHuffOkWrong : ChangeSpec := { name := "fnExactHuffOk", fn := fun _ => fun
  | [d] => { results := [.lit (.bool false)], args := [d] }
  | _ => none }
def FnExactHuffOkWrongFalsely : Prop := fnExactHuffOkRow.holds Try.pinned (OpenSpec.ofChange fnExactHuffOkWrong)

/-- 'laws.FnExactRuns': WHATEVER THE INPUT: true; the input reads as it did. -/
def fnExactRunsSpec : ChangeSpec := { name := "fnExactRuns", fn := fun _ => fun
  | [d] => { results := [.lit (.bool true)], args := [d] }
  | _ => none }
def fnExactRunsRow : OpenClaim := { program := "ytmjjnhnclebaiaa", sum := "eafa1a9037c7f72e1fc73008ca3497a629ea607bcaa23d9bfc93736fe129b7c4", func := "loop.example/g00688/laws.FnExactRuns", spec := "fnExactRuns", unfollowed := true, recurses := true, apart := false }
def FnExactRunsSaid : Prop := fnExactRunsRow.holds Try.pinned (OpenSpec.ofChange fnExactRunsSpec)

/-- ITS FALSE NEIGHBOUR: 'it returns false'. Refute it at one input. -/
def fnExactRunsWrong : ChangeSpec := { name := "fnExactRuns", fn := fun _ => fun
  | [d] => { results := [.lit (.bool false)], args := [d] }
  | _ => none }
def FnExactRunsWrongFalsely : Prop := fnExactRunsRow.holds Try.pinned (OpenSpec.ofChange fnExactRunsWrong)

/- THE SECOND FORM. 'bulk': how many values and letters a reading holds, each counted each time it is reached (what is shared counts as often as it is met; a slice's spare places count too). A statement '..UptoSaid' is the law's where the arguments, and the package variables that the reading takes, are together of bulk at most 1048576: NARROWER than '..Said'. Prove '..Said' where nothing that the law and all that it calls make is longer than what came in: it says more and counts as full. Else prove '..UptoSaid'. A law counts once. -/
mutual
def uptoBulk {H : Type} : DataW H → Nat
  | .lit (.string bytes) => bytes.length + 1
  | .lit _ => 1
  | .nil => 1
  | .ptr d => uptoBulk d + 1
  | .slice elems spare => uptoBulkAll elems + uptoBulkAll spare + 1
  | .agg parts => uptoBulkAll parts + 1
  | .iface _ d => uptoBulk d + 1
  | .map entries => uptoBulkEntries entries + 1
  | .held _ => 1
def uptoBulkAll {H : Type} : List (DataW H) → Nat
  | [] => 0
  | d :: r => uptoBulk d + uptoBulkAll r
def uptoBulkEntries {H : Type} : List (Lit × DataW H) → Nat
  | [] => 0
  | x :: r => uptoBulkEntry x + uptoBulkEntries r
def uptoBulkEntry {H : Type} : Lit × DataW H → Nat
  | (.string bytes, d) => bytes.length + uptoBulk d + 1
  | (_, d) => uptoBulk d + 1
 end
def uptoSmall : (H : Type) → List (DataW H) → Bool := fun _ ds => decide (uptoBulkAll ds ≤ 1048576)
def OpenSpec.upto (s : _root_.Go.ChangeSpec) : _root_.Go.OpenSpec := { _root_.Go.OpenSpec.ofChange s with cond := some uptoSmall }

/-- 'laws.FnExactConstants', WHERE WHAT IT READS IS OF BULK AT MOST 1048576: true; the input reads as it did. -/
def fnExactConstantsUptoRow : OpenClaim := { program := "ytmjjnhnclebaiaa", sum := "eafa1a9037c7f72e1fc73008ca3497a629ea607bcaa23d9bfc93736fe129b7c4", func := "loop.example/g00688/laws.FnExactConstants", spec := "fnExactConstants", apart := false, narrowed := true }
def FnExactConstantsUptoSaid : Prop := fnExactConstantsUptoRow.holds Try.pinned (OpenSpec.upto fnExactConstantsSpec)

/-- 'laws.FnExactTextOk', WHERE WHAT IT READS IS OF BULK AT MOST 1048576: true; the input reads as it did. -/
def fnExactTextOkUptoRow : OpenClaim := { program := "ytmjjnhnclebaiaa", sum := "eafa1a9037c7f72e1fc73008ca3497a629ea607bcaa23d9bfc93736fe129b7c4", func := "loop.example/g00688/laws.FnExactTextOk", spec := "fnExactTextOk", apart := false, narrowed := true }
def FnExactTextOkUptoSaid : Prop := fnExactTextOkUptoRow.holds Try.pinned (OpenSpec.upto fnExactTextOkSpec)

/-- 'laws.FnExactSymsOk', WHERE WHAT IT READS IS OF BULK AT MOST 1048576: true; the input reads as it did. -/
def fnExactSymsOkUptoRow : OpenClaim := { program := "ytmjjnhnclebaiaa", sum := "eafa1a9037c7f72e1fc73008ca3497a629ea607bcaa23d9bfc93736fe129b7c4", func := "loop.example/g00688/laws.FnExactSymsOk", spec := "fnExactSymsOk", unfollowed := true, recurses := true, apart := false, narrowed := true }
def FnExactSymsOkUptoSaid : Prop := fnExactSymsOkUptoRow.holds Try.pinned (OpenSpec.upto fnExactSymsOkSpec)

/-- 'laws.FnExactWidthOf', WHERE WHAT IT READS IS OF BULK AT MOST 1048576: true; the input reads as it did. -/
def fnExactWidthOfUptoRow : OpenClaim := { program := "ytmjjnhnclebaiaa", sum := "eafa1a9037c7f72e1fc73008ca3497a629ea607bcaa23d9bfc93736fe129b7c4", func := "loop.example/g00688/laws.FnExactWidthOf", spec := "fnExactWidthOf", apart := false, narrowed := true }
def FnExactWidthOfUptoSaid : Prop := fnExactWidthOfUptoRow.holds Try.pinned (OpenSpec.upto fnExactWidthOfSpec)

/-- 'laws.FnExactVarOf', WHERE WHAT IT READS IS OF BULK AT MOST 1048576: true; the input reads as it did. -/
def fnExactVarOfUptoRow : OpenClaim := { program := "ytmjjnhnclebaiaa", sum := "eafa1a9037c7f72e1fc73008ca3497a629ea607bcaa23d9bfc93736fe129b7c4", func := "loop.example/g00688/laws.FnExactVarOf", spec := "fnExactVarOf", apart := false, narrowed := true }
def FnExactVarOfUptoSaid : Prop := fnExactVarOfUptoRow.holds Try.pinned (OpenSpec.upto fnExactVarOfSpec)

/-- 'laws.FnExactVarRead', WHERE WHAT IT READS IS OF BULK AT MOST 1048576: true; the input reads as it did. -/
def fnExactVarReadUptoRow : OpenClaim := { program := "ytmjjnhnclebaiaa", sum := "eafa1a9037c7f72e1fc73008ca3497a629ea607bcaa23d9bfc93736fe129b7c4", func := "loop.example/g00688/laws.FnExactVarRead", spec := "fnExactVarRead", apart := false, narrowed := true }
def FnExactVarReadUptoSaid : Prop := fnExactVarReadUptoRow.holds Try.pinned (OpenSpec.upto fnExactVarReadSpec)

/-- 'laws.FnVarBack', WHERE WHAT IT READS IS OF BULK AT MOST 1048576: true; the input reads as it did. -/
def fnVarBackUptoRow : OpenClaim := { program := "ytmjjnhnclebaiaa", sum := "eafa1a9037c7f72e1fc73008ca3497a629ea607bcaa23d9bfc93736fe129b7c4", func := "loop.example/g00688/laws.FnVarBack", spec := "fnVarBack", apart := false, narrowed := true }
def FnVarBackUptoSaid : Prop := fnVarBackUptoRow.holds Try.pinned (OpenSpec.upto fnVarBackSpec)

/-- 'laws.FnExactCrc', WHERE WHAT IT READS IS OF BULK AT MOST 1048576: true; the input reads as it did. -/
def fnExactCrcUptoRow : OpenClaim := { program := "ytmjjnhnclebaiaa", sum := "eafa1a9037c7f72e1fc73008ca3497a629ea607bcaa23d9bfc93736fe129b7c4", func := "loop.example/g00688/laws.FnExactCrc", spec := "fnExactCrc", apart := false, narrowed := true }
def FnExactCrcUptoSaid : Prop := fnExactCrcUptoRow.holds Try.pinned (OpenSpec.upto fnExactCrcSpec)

/-- 'laws.FnExactFrameOk', WHERE WHAT IT READS IS OF BULK AT MOST 1048576: true; the input reads as it did. -/
def fnExactFrameOkUptoRow : OpenClaim := { program := "ytmjjnhnclebaiaa", sum := "eafa1a9037c7f72e1fc73008ca3497a629ea607bcaa23d9bfc93736fe129b7c4", func := "loop.example/g00688/laws.FnExactFrameOk", spec := "fnExactFrameOk", apart := false, narrowed := true }
def FnExactFrameOkUptoSaid : Prop := fnExactFrameOkUptoRow.holds Try.pinned (OpenSpec.upto fnExactFrameOkSpec)

/-- 'laws.FnExactInverse', WHERE WHAT IT READS IS OF BULK AT MOST 1048576: true; the input reads as it did. -/
def fnExactInverseUptoRow : OpenClaim := { program := "ytmjjnhnclebaiaa", sum := "eafa1a9037c7f72e1fc73008ca3497a629ea607bcaa23d9bfc93736fe129b7c4", func := "loop.example/g00688/laws.FnExactInverse", spec := "fnExactInverse", apart := false, narrowed := true }
def FnExactInverseUptoSaid : Prop := fnExactInverseUptoRow.holds Try.pinned (OpenSpec.upto fnExactInverseSpec)

/-- 'laws.FnExactHuffOk', WHERE WHAT IT READS IS OF BULK AT MOST 1048576: true; the input reads as it did. -/
def fnExactHuffOkUptoRow : OpenClaim := { program := "ytmjjnhnclebaiaa", sum := "eafa1a9037c7f72e1fc73008ca3497a629ea607bcaa23d9bfc93736fe129b7c4", func := "loop.example/g00688/laws.FnExactHuffOk", spec := "fnExactHuffOk", unfollowed := true, recurses := true, apart := false, narrowed := true }
def FnExactHuffOkUptoSaid : Prop := fnExactHuffOkUptoRow.holds Try.pinned (OpenSpec.upto fnExactHuffOkSpec)

/-- 'laws.FnExactRuns', WHERE WHAT IT READS IS OF BULK AT MOST 1048576: true; the input reads as it did. -/
def fnExactRunsUptoRow : OpenClaim := { program := "ytmjjnhnclebaiaa", sum := "eafa1a9037c7f72e1fc73008ca3497a629ea607bcaa23d9bfc93736fe129b7c4", func := "loop.example/g00688/laws.FnExactRuns", spec := "fnExactRuns", unfollowed := true, recurses := true, apart := false, narrowed := true }
def FnExactRunsUptoSaid : Prop := fnExactRunsUptoRow.holds Try.pinned (OpenSpec.upto fnExactRunsSpec)

end Rows
end Go.Proofs.Ytmjjnhnclebaiaa
