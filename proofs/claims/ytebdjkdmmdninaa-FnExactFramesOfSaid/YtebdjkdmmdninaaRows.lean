/-
  No cell of these rows narrows 'for every input' (looked for: loops, veiled, ifaces, maps, wideKeys, modest, calm, conditions, laid).
  DERIVED. THE GIVEN ROWS OF THIS SEAT. 6 by the template 'for every input the law returns true; each argument reads behind the call as it read before'; 0 by the template 'total and deterministic' (their statements: YtebdjkdmmdninaaTotals.lean).
  GIVEN WITH THE SEED: the statements are not yours to turn. If you find one false, say at which input.
  Laid BY PROGRAM, IN A SANDBOX (cutbox-rows.mjs): the forced cells as the released guide's own fill.sh prints them over the translation d2a1b12ff07ad14b… (all of the seat's roots in one cut). By AI agents, Wed Nov 11 2026. No macro, syntax, notation, axiom, sorry.
-/
import Derived.Test.YtebdjkdmmdninaaChecked
import GoSem.Claim
import GoSem.ClaimJoined
import GoSem.ClaimMapViews
import Derived.JoinedTies
import Derived.KernelRfl
namespace Go.Proofs.Ytebdjkdmmdninaa
/- THE CELL 'sum', in the pinned program and in every row, IS THE sha256 OF THE DUMP (.gsa) THAT YtebdjkdmmdninaaProg.lean LOADS. Nothing in Lean hashes anything: it is a label: what it is worth is what the hold of that sum in a sandbox is worth. -/
noncomputable def Try.pinned : Pinned := { name := "ytebdjkdmmdninaa", sum := "d2a1b12ff07ad14bdbef6af47179adac2498ad7a5135c718cd78aac8f172a5b2", checked := Try.checked }
namespace Rows
def none {H : Type} : Left H := { results := [], args := [] }

/-- 'laws.FnExactFrameOf': WHATEVER THE INPUT: true; the input reads as it did. -/
def fnExactFrameOfSpec : ChangeSpec := { name := "fnExactFrameOf", fn := fun _ => fun
  | [d] => { results := [.lit (.bool true)], args := [d] }
  | _ => none }
def fnExactFrameOfRow : OpenClaim := { program := "ytebdjkdmmdninaa", sum := "d2a1b12ff07ad14bdbef6af47179adac2498ad7a5135c718cd78aac8f172a5b2", func := "loop.example/g00688/laws.FnExactFrameOf", spec := "fnExactFrameOf", apart := false }
def FnExactFrameOfSaid : Prop := fnExactFrameOfRow.holds Try.pinned (OpenSpec.ofChange fnExactFrameOfSpec)

/-- ITS FALSE NEIGHBOUR: 'it returns false'. Refute it at one input. -/
def fnExactFrameOfWrong : ChangeSpec := { name := "fnExactFrameOf", fn := fun _ => fun
  | [d] => { results := [.lit (.bool false)], args := [d] }
  | _ => none }
def FnExactFrameOfWrongFalsely : Prop := fnExactFrameOfRow.holds Try.pinned (OpenSpec.ofChange fnExactFrameOfWrong)

/-- 'laws.FnExactFrameRead': WHATEVER THE INPUT: true; the input reads as it did. -/
def fnExactFrameReadSpec : ChangeSpec := { name := "fnExactFrameRead", fn := fun _ => fun
  | [d1, d2] => { results := [.lit (.bool true)], args := [d1, d2] }
  | _ => none }
def fnExactFrameReadRow : OpenClaim := { program := "ytebdjkdmmdninaa", sum := "d2a1b12ff07ad14bdbef6af47179adac2498ad7a5135c718cd78aac8f172a5b2", func := "loop.example/g00688/laws.FnExactFrameRead", spec := "fnExactFrameRead", apart := false }
def FnExactFrameReadSaid : Prop := fnExactFrameReadRow.holds Try.pinned (OpenSpec.ofChange fnExactFrameReadSpec)

/-- ITS FALSE NEIGHBOUR: 'it returns false'. Refute it at one input. -/
def fnExactFrameReadWrong : ChangeSpec := { name := "fnExactFrameRead", fn := fun _ => fun
  | [d1, d2] => { results := [.lit (.bool false)], args := [d1, d2] }
  | _ => none }
def FnExactFrameReadWrongFalsely : Prop := fnExactFrameReadRow.holds Try.pinned (OpenSpec.ofChange fnExactFrameReadWrong)

/-- 'laws.FnExactFramesOf': WHATEVER THE INPUT: true; the input reads as it did. -/
def fnExactFramesOfSpec : ChangeSpec := { name := "fnExactFramesOf", fn := fun _ => fun
  | [d] => { results := [.lit (.bool true)], args := [d] }
  | _ => none }
def fnExactFramesOfRow : OpenClaim := { program := "ytebdjkdmmdninaa", sum := "d2a1b12ff07ad14bdbef6af47179adac2498ad7a5135c718cd78aac8f172a5b2", func := "loop.example/g00688/laws.FnExactFramesOf", spec := "fnExactFramesOf", apart := false }
def FnExactFramesOfSaid : Prop := fnExactFramesOfRow.holds Try.pinned (OpenSpec.ofChange fnExactFramesOfSpec)

/-- ITS FALSE NEIGHBOUR: 'it returns false'. Refute it at one input. -/
def fnExactFramesOfWrong : ChangeSpec := { name := "fnExactFramesOf", fn := fun _ => fun
  | [d] => { results := [.lit (.bool false)], args := [d] }
  | _ => none }
def FnExactFramesOfWrongFalsely : Prop := fnExactFramesOfRow.holds Try.pinned (OpenSpec.ofChange fnExactFramesOfWrong)

/-- 'laws.FnExactFramesRead': WHATEVER THE INPUT: true; the input reads as it did. -/
def fnExactFramesReadSpec : ChangeSpec := { name := "fnExactFramesRead", fn := fun _ => fun
  | [d] => { results := [.lit (.bool true)], args := [d] }
  | _ => none }
def fnExactFramesReadRow : OpenClaim := { program := "ytebdjkdmmdninaa", sum := "d2a1b12ff07ad14bdbef6af47179adac2498ad7a5135c718cd78aac8f172a5b2", func := "loop.example/g00688/laws.FnExactFramesRead", spec := "fnExactFramesRead", apart := false }
def FnExactFramesReadSaid : Prop := fnExactFramesReadRow.holds Try.pinned (OpenSpec.ofChange fnExactFramesReadSpec)

/-- ITS FALSE NEIGHBOUR: 'it returns false'. Refute it at one input. -/
def fnExactFramesReadWrong : ChangeSpec := { name := "fnExactFramesRead", fn := fun _ => fun
  | [d] => { results := [.lit (.bool false)], args := [d] }
  | _ => none }
def FnExactFramesReadWrongFalsely : Prop := fnExactFramesReadRow.holds Try.pinned (OpenSpec.ofChange fnExactFramesReadWrong)

/-- 'laws.FnFrameTold': WHATEVER THE INPUT: true; the input reads as it did. -/
def fnFrameToldSpec : ChangeSpec := { name := "fnFrameTold", fn := fun _ => fun
  | [d] => { results := [.lit (.bool true)], args := [d] }
  | _ => none }
def fnFrameToldRow : OpenClaim := { program := "ytebdjkdmmdninaa", sum := "d2a1b12ff07ad14bdbef6af47179adac2498ad7a5135c718cd78aac8f172a5b2", func := "loop.example/g00688/laws.FnFrameTold", spec := "fnFrameTold", apart := false }
def FnFrameToldSaid : Prop := fnFrameToldRow.holds Try.pinned (OpenSpec.ofChange fnFrameToldSpec)

/-- ITS FALSE NEIGHBOUR: 'it returns false'. Refute it at one input. -/
def fnFrameToldWrong : ChangeSpec := { name := "fnFrameTold", fn := fun _ => fun
  | [d] => { results := [.lit (.bool false)], args := [d] }
  | _ => none }
def FnFrameToldWrongFalsely : Prop := fnFrameToldRow.holds Try.pinned (OpenSpec.ofChange fnFrameToldWrong)

/-- 'laws.FnFramesBack': WHATEVER THE INPUT: true; the input reads as it did. -/
def fnFramesBackSpec : ChangeSpec := { name := "fnFramesBack", fn := fun _ => fun
  | [d] => { results := [.lit (.bool true)], args := [d] }
  | _ => none }
def fnFramesBackRow : OpenClaim := { program := "ytebdjkdmmdninaa", sum := "d2a1b12ff07ad14bdbef6af47179adac2498ad7a5135c718cd78aac8f172a5b2", func := "loop.example/g00688/laws.FnFramesBack", spec := "fnFramesBack", apart := false }
def FnFramesBackSaid : Prop := fnFramesBackRow.holds Try.pinned (OpenSpec.ofChange fnFramesBackSpec)

/-- ITS FALSE NEIGHBOUR: 'it returns false'. Refute it at one input. -/
def fnFramesBackWrong : ChangeSpec := { name := "fnFramesBack", fn := fun _ => fun
  | [d] => { results := [.lit (.bool false)], args := [d] }
  | _ => none }
def FnFramesBackWrongFalsely : Prop := fnFramesBackRow.holds Try.pinned (OpenSpec.ofChange fnFramesBackWrong)

/- THE SECOND FORM. 'bulk': how many values and letters a reading holds, each counted each time it is reached (what is shared counts as often as it is met; a slice's spare places count too). A statement '..UptoSaid' is the law's where the arguments, and the package variables that the reading takes, are together of bulk at most 1048576: NARROWER than '..Said'. Prove '..Said' where nothing that the law and all that it calls make is longer than what came in: it says more and counts as full. Else prove '..UptoSaid'. A law counts once. -/
mutual
def uptoBulk {H : Type} : DataW H → Nat
  | .lit (.string bytes) => bytes.length + 1
  | .lit _ => 1
  | .nil => 1
  | .ptr d => uptoBulk d + 1
  | .slice elems spare => uptoBulkAll elems + uptoBulkAll spare + 1
  | .agg parts => uptoBulkAll parts + 1
  | .iface _ d => uptoBulk d + 1
  | .map entries => uptoBulkEntries entries + 1
  | .held _ => 1
def uptoBulkAll {H : Type} : List (DataW H) → Nat
  | [] => 0
  | d :: r => uptoBulk d + uptoBulkAll r
def uptoBulkEntries {H : Type} : List (Lit × DataW H) → Nat
  | [] => 0
  | x :: r => uptoBulkEntry x + uptoBulkEntries r
def uptoBulkEntry {H : Type} : Lit × DataW H → Nat
  | (.string bytes, d) => bytes.length + uptoBulk d + 1
  | (_, d) => uptoBulk d + 1
 end
def uptoSmall : (H : Type) → List (DataW H) → Bool := fun _ ds => decide (uptoBulkAll ds ≤ 1048576)
def OpenSpec.upto (s : _root_.Go.ChangeSpec) : _root_.Go.OpenSpec := { _root_.Go.OpenSpec.ofChange s with cond := some uptoSmall }

/-- 'laws.FnExactFrameOf', WHERE WHAT IT READS IS OF BULK AT MOST 1048576: true; the input reads as it did. -/
def fnExactFrameOfUptoRow : OpenClaim := { program := "ytebdjkdmmdninaa", sum := "d2a1b12ff07ad14bdbef6af47179adac2498ad7a5135c718cd78aac8f172a5b2", func := "loop.example/g00688/laws.FnExactFrameOf", spec := "fnExactFrameOf", apart := false, narrowed := true }
def FnExactFrameOfUptoSaid : Prop := fnExactFrameOfUptoRow.holds Try.pinned (OpenSpec.upto fnExactFrameOfSpec)

/-- 'laws.FnExactFrameRead', WHERE WHAT IT READS IS OF BULK AT MOST 1048576: true; the input reads as it did. -/
def fnExactFrameReadUptoRow : OpenClaim := { program := "ytebdjkdmmdninaa", sum := "d2a1b12ff07ad14bdbef6af47179adac2498ad7a5135c718cd78aac8f172a5b2", func := "loop.example/g00688/laws.FnExactFrameRead", spec := "fnExactFrameRead", apart := false, narrowed := true }
def FnExactFrameReadUptoSaid : Prop := fnExactFrameReadUptoRow.holds Try.pinned (OpenSpec.upto fnExactFrameReadSpec)

/-- 'laws.FnExactFramesOf', WHERE WHAT IT READS IS OF BULK AT MOST 1048576: true; the input reads as it did. -/
def fnExactFramesOfUptoRow : OpenClaim := { program := "ytebdjkdmmdninaa", sum := "d2a1b12ff07ad14bdbef6af47179adac2498ad7a5135c718cd78aac8f172a5b2", func := "loop.example/g00688/laws.FnExactFramesOf", spec := "fnExactFramesOf", apart := false, narrowed := true }
def FnExactFramesOfUptoSaid : Prop := fnExactFramesOfUptoRow.holds Try.pinned (OpenSpec.upto fnExactFramesOfSpec)

/-- 'laws.FnExactFramesRead', WHERE WHAT IT READS IS OF BULK AT MOST 1048576: true; the input reads as it did. -/
def fnExactFramesReadUptoRow : OpenClaim := { program := "ytebdjkdmmdninaa", sum := "d2a1b12ff07ad14bdbef6af47179adac2498ad7a5135c718cd78aac8f172a5b2", func := "loop.example/g00688/laws.FnExactFramesRead", spec := "fnExactFramesRead", apart := false, narrowed := true }
def FnExactFramesReadUptoSaid : Prop := fnExactFramesReadUptoRow.holds Try.pinned (OpenSpec.upto fnExactFramesReadSpec)

/-- 'laws.FnFrameTold', WHERE WHAT IT READS IS OF BULK AT MOST 1048576: true; the input reads as it did. -/
def fnFrameToldUptoRow : OpenClaim := { program := "ytebdjkdmmdninaa", sum := "d2a1b12ff07ad14bdbef6af47179adac2498ad7a5135c718cd78aac8f172a5b2", func := "loop.example/g00688/laws.FnFrameTold", spec := "fnFrameTold", apart := false, narrowed := true }
def FnFrameToldUptoSaid : Prop := fnFrameToldUptoRow.holds Try.pinned (OpenSpec.upto fnFrameToldSpec)

/-- 'laws.FnFramesBack', WHERE WHAT IT READS IS OF BULK AT MOST 1048576: true; the input reads as it did. -/
def fnFramesBackUptoRow : OpenClaim := { program := "ytebdjkdmmdninaa", sum := "d2a1b12ff07ad14bdbef6af47179adac2498ad7a5135c718cd78aac8f172a5b2", func := "loop.example/g00688/laws.FnFramesBack", spec := "fnFramesBack", apart := false, narrowed := true }
def FnFramesBackUptoSaid : Prop := fnFramesBackUptoRow.holds Try.pinned (OpenSpec.upto fnFramesBackSpec)

end Rows
end Go.Proofs.Ytebdjkdmmdninaa
