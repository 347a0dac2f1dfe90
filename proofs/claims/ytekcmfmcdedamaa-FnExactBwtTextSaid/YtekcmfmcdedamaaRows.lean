/-
  No cell of these rows narrows 'for every input' (looked for: loops, veiled, ifaces, maps, wideKeys, modest, calm, conditions, laid).
  DERIVED. THE GIVEN ROWS OF THIS SEAT. 6 by the template 'for every input the law returns true; each argument reads behind the call as it read before'; 0 by the template 'total and deterministic' (their statements: YtekcmfmcdedamaaTotals.lean).
  GIVEN WITH THE SEED: the statements are not yours to turn. If you find one false, say at which input.
  Laid BY PROGRAM, IN A SANDBOX (cutbox-rows.mjs): the forced cells as the released guide's own fill.sh prints them over the translation 9a2261bd02cab0e2… (all of the seat's roots in one cut). By AI agents, Wed Nov 11 2026. No macro, syntax, notation, axiom, sorry.
-/
import Derived.Test.YtekcmfmcdedamaaChecked
import GoSem.Claim
import GoSem.ClaimJoined
import GoSem.ClaimMapViews
import Derived.JoinedTies
import Derived.KernelRfl
namespace Go.Proofs.Ytekcmfmcdedamaa
/- THE CELL 'sum', in the pinned program and in every row, IS THE sha256 OF THE DUMP (.gsa) THAT YtekcmfmcdedamaaProg.lean LOADS. Nothing in Lean hashes anything: it is a label: what it is worth is what the hold of that sum in a sandbox is worth. -/
noncomputable def Try.pinned : Pinned := { name := "ytekcmfmcdedamaa", sum := "9a2261bd02cab0e20919773a3e1bed194daeb2f217530954860c2d7d138e61c6", checked := Try.checked }
namespace Rows
def none {H : Type} : Left H := { results := [], args := [] }

/-- 'laws.FnExactSuffixCmp': WHATEVER THE INPUT: true; the input reads as it did. -/
def fnExactSuffixCmpSpec : ChangeSpec := { name := "fnExactSuffixCmp", fn := fun _ => fun
  | [d1, d2, d3] => { results := [.lit (.bool true)], args := [d1, d2, d3] }
  | _ => none }
def fnExactSuffixCmpRow : OpenClaim := { program := "ytekcmfmcdedamaa", sum := "9a2261bd02cab0e20919773a3e1bed194daeb2f217530954860c2d7d138e61c6", func := "loop.example/g00688/laws.FnExactSuffixCmp", spec := "fnExactSuffixCmp", inPlace := ["internal/bytealg.Compare"], apart := false }
def FnExactSuffixCmpSaid : Prop := fnExactSuffixCmpRow.holds Try.pinned (OpenSpec.ofChange fnExactSuffixCmpSpec)

/-- ITS FALSE NEIGHBOUR: 'it returns false'. Refute it at one input. -/
def fnExactSuffixCmpWrong : ChangeSpec := { name := "fnExactSuffixCmp", fn := fun _ => fun
  | [d1, d2, d3] => { results := [.lit (.bool false)], args := [d1, d2, d3] }
  | _ => none }
def FnExactSuffixCmpWrongFalsely : Prop := fnExactSuffixCmpRow.holds Try.pinned (OpenSpec.ofChange fnExactSuffixCmpWrong)

/-- 'laws.FnExactOccurs': WHATEVER THE INPUT: true; the input reads as it did. -/
def fnExactOccursSpec : ChangeSpec := { name := "fnExactOccurs", fn := fun _ => fun
  | [d1, d2] => { results := [.lit (.bool true)], args := [d1, d2] }
  | _ => none }
def fnExactOccursRow : OpenClaim := { program := "ytekcmfmcdedamaa", sum := "9a2261bd02cab0e20919773a3e1bed194daeb2f217530954860c2d7d138e61c6", func := "loop.example/g00688/laws.FnExactOccurs", spec := "fnExactOccurs", apart := false }
def FnExactOccursSaid : Prop := fnExactOccursRow.holds Try.pinned (OpenSpec.ofChange fnExactOccursSpec)

/-- ITS FALSE NEIGHBOUR: 'it returns false'. Refute it at one input. -/
def fnExactOccursWrong : ChangeSpec := { name := "fnExactOccurs", fn := fun _ => fun
  | [d1, d2] => { results := [.lit (.bool false)], args := [d1, d2] }
  | _ => none }
def FnExactOccursWrongFalsely : Prop := fnExactOccursRow.holds Try.pinned (OpenSpec.ofChange fnExactOccursWrong)

/-- 'laws.FnExactSuffixRows': WHATEVER THE INPUT: true; the input reads as it did. -/
def fnExactSuffixRowsSpec : ChangeSpec := { name := "fnExactSuffixRows", fn := fun _ => fun
  | [d] => { results := [.lit (.bool true)], args := [d] }
  | _ => none }
def fnExactSuffixRowsRow : OpenClaim := { program := "ytekcmfmcdedamaa", sum := "9a2261bd02cab0e20919773a3e1bed194daeb2f217530954860c2d7d138e61c6", func := "loop.example/g00688/laws.FnExactSuffixRows", spec := "fnExactSuffixRows", inPlace := ["internal/bytealg.Compare"], unfollowed := true, recurses := true, apart := false }
def FnExactSuffixRowsSaid : Prop := fnExactSuffixRowsRow.holds Try.pinned (OpenSpec.ofChange fnExactSuffixRowsSpec)

/-- ITS FALSE NEIGHBOUR: 'it returns false'. Refute it at one input. -/
def fnExactSuffixRowsWrong : ChangeSpec := { name := "fnExactSuffixRows", fn := fun _ => fun
  | [d] => { results := [.lit (.bool false)], args := [d] }
  | _ => none }
def FnExactSuffixRowsWrongFalsely : Prop := fnExactSuffixRowsRow.holds Try.pinned (OpenSpec.ofChange fnExactSuffixRowsWrong)

/-- 'laws.FnExactBwtOf': WHATEVER THE INPUT: true; the input reads as it did. -/
def fnExactBwtOfSpec : ChangeSpec := { name := "fnExactBwtOf", fn := fun _ => fun
  | [d] => { results := [.lit (.bool true)], args := [d] }
  | _ => none }
def fnExactBwtOfRow : OpenClaim := { program := "ytekcmfmcdedamaa", sum := "9a2261bd02cab0e20919773a3e1bed194daeb2f217530954860c2d7d138e61c6", func := "loop.example/g00688/laws.FnExactBwtOf", spec := "fnExactBwtOf", inPlace := ["internal/bytealg.Compare"], unfollowed := true, recurses := true, apart := false }
def FnExactBwtOfSaid : Prop := fnExactBwtOfRow.holds Try.pinned (OpenSpec.ofChange fnExactBwtOfSpec)

/-- ITS FALSE NEIGHBOUR: 'it returns false'. Refute it at one input. -/
def fnExactBwtOfWrong : ChangeSpec := { name := "fnExactBwtOf", fn := fun _ => fun
  | [d] => { results := [.lit (.bool false)], args := [d] }
  | _ => none }
def FnExactBwtOfWrongFalsely : Prop := fnExactBwtOfRow.holds Try.pinned (OpenSpec.ofChange fnExactBwtOfWrong)

/-- 'laws.FnExactLcpRows': WHATEVER THE INPUT: true; the input reads as it did. -/
def fnExactLcpRowsSpec : ChangeSpec := { name := "fnExactLcpRows", fn := fun _ => fun
  | [d] => { results := [.lit (.bool true)], args := [d] }
  | _ => none }
def fnExactLcpRowsRow : OpenClaim := { program := "ytekcmfmcdedamaa", sum := "9a2261bd02cab0e20919773a3e1bed194daeb2f217530954860c2d7d138e61c6", func := "loop.example/g00688/laws.FnExactLcpRows", spec := "fnExactLcpRows", inPlace := ["internal/bytealg.Compare"], unfollowed := true, recurses := true, apart := false }
def FnExactLcpRowsSaid : Prop := fnExactLcpRowsRow.holds Try.pinned (OpenSpec.ofChange fnExactLcpRowsSpec)

/-- ITS FALSE NEIGHBOUR: 'it returns false'. Refute it at one input. -/
def fnExactLcpRowsWrong : ChangeSpec := { name := "fnExactLcpRows", fn := fun _ => fun
  | [d] => { results := [.lit (.bool false)], args := [d] }
  | _ => none }
def FnExactLcpRowsWrongFalsely : Prop := fnExactLcpRowsRow.holds Try.pinned (OpenSpec.ofChange fnExactLcpRowsWrong)

/-- 'laws.FnExactBwtText': WHATEVER THE INPUT: true; the input reads as it did. -/
def fnExactBwtTextSpec : ChangeSpec := { name := "fnExactBwtText", fn := fun _ => fun
  | [d] => { results := [.lit (.bool true)], args := [d] }
  | _ => none }
def fnExactBwtTextRow : OpenClaim := { program := "ytekcmfmcdedamaa", sum := "9a2261bd02cab0e20919773a3e1bed194daeb2f217530954860c2d7d138e61c6", func := "loop.example/g00688/laws.FnExactBwtText", spec := "fnExactBwtText", inPlace := ["internal/bytealg.Compare"], unfollowed := true, recurses := true, apart := false }
def FnExactBwtTextSaid : Prop := fnExactBwtTextRow.holds Try.pinned (OpenSpec.ofChange fnExactBwtTextSpec)

/-- ITS FALSE NEIGHBOUR: 'it returns false'. Refute it at one input. -/
def fnExactBwtTextWrong : ChangeSpec := { name := "fnExactBwtText", fn := fun _ => fun
  | [d] => { results := [.lit (.bool false)], args := [d] }
  | _ => none }
def FnExactBwtTextWrongFalsely : Prop := fnExactBwtTextRow.holds Try.pinned (OpenSpec.ofChange fnExactBwtTextWrong)

/- THE SECOND FORM. 'bulk': how many values and letters a reading holds, each counted each time it is reached (what is shared counts as often as it is met; a slice's spare places count too). A statement '..UptoSaid' is the law's where the arguments, and the package variables that the reading takes, are together of bulk at most 1048576: NARROWER than '..Said'. Prove '..Said' where nothing that the law and all that it calls make is longer than what came in: it says more and counts as full. Else prove '..UptoSaid'. A law counts once. -/
mutual
def uptoBulk {H : Type} : DataW H → Nat
  | .lit (.string bytes) => bytes.length + 1
  | .lit _ => 1
  | .nil => 1
  | .ptr d => uptoBulk d + 1
  | .slice elems spare => uptoBulkAll elems + uptoBulkAll spare + 1
  | .agg parts => uptoBulkAll parts + 1
  | .iface _ d => uptoBulk d + 1
  | .map entries => uptoBulkEntries entries + 1
  | .held _ => 1
def uptoBulkAll {H : Type} : List (DataW H) → Nat
  | [] => 0
  | d :: r => uptoBulk d + uptoBulkAll r
def uptoBulkEntries {H : Type} : List (Lit × DataW H) → Nat
  | [] => 0
  | x :: r => uptoBulkEntry x + uptoBulkEntries r
def uptoBulkEntry {H : Type} : Lit × DataW H → Nat
  | (.string bytes, d) => bytes.length + uptoBulk d + 1
  | (_, d) => uptoBulk d + 1
 end
def uptoSmall : (H : Type) → List (DataW H) → Bool := fun _ ds => decide (uptoBulkAll ds ≤ 1048576)
def OpenSpec.upto (s : _root_.Go.ChangeSpec) : _root_.Go.OpenSpec := { _root_.Go.OpenSpec.ofChange s with cond := some uptoSmall }

/-- 'laws.FnExactSuffixCmp', WHERE WHAT IT READS IS OF BULK AT MOST 1048576: true; the input reads as it did. -/
def fnExactSuffixCmpUptoRow : OpenClaim := { program := "ytekcmfmcdedamaa", sum := "9a2261bd02cab0e20919773a3e1bed194daeb2f217530954860c2d7d138e61c6", func := "loop.example/g00688/laws.FnExactSuffixCmp", spec := "fnExactSuffixCmp", inPlace := ["internal/bytealg.Compare"], apart := false, narrowed := true }
def FnExactSuffixCmpUptoSaid : Prop := fnExactSuffixCmpUptoRow.holds Try.pinned (OpenSpec.upto fnExactSuffixCmpSpec)

/-- 'laws.FnExactOccurs', WHERE WHAT IT READS IS OF BULK AT MOST 1048576: true; the input reads as it did. -/
def fnExactOccursUptoRow : OpenClaim := { program := "ytekcmfmcdedamaa", sum := "9a2261bd02cab0e20919773a3e1bed194daeb2f217530954860c2d7d138e61c6", func := "loop.example/g00688/laws.FnExactOccurs", spec := "fnExactOccurs", apart := false, narrowed := true }
def FnExactOccursUptoSaid : Prop := fnExactOccursUptoRow.holds Try.pinned (OpenSpec.upto fnExactOccursSpec)

/-- 'laws.FnExactSuffixRows', WHERE WHAT IT READS IS OF BULK AT MOST 1048576: true; the input reads as it did. -/
def fnExactSuffixRowsUptoRow : OpenClaim := { program := "ytekcmfmcdedamaa", sum := "9a2261bd02cab0e20919773a3e1bed194daeb2f217530954860c2d7d138e61c6", func := "loop.example/g00688/laws.FnExactSuffixRows", spec := "fnExactSuffixRows", inPlace := ["internal/bytealg.Compare"], unfollowed := true, recurses := true, apart := false, narrowed := true }
def FnExactSuffixRowsUptoSaid : Prop := fnExactSuffixRowsUptoRow.holds Try.pinned (OpenSpec.upto fnExactSuffixRowsSpec)

/-- 'laws.FnExactBwtOf', WHERE WHAT IT READS IS OF BULK AT MOST 1048576: true; the input reads as it did. -/
def fnExactBwtOfUptoRow : OpenClaim := { program := "ytekcmfmcdedamaa", sum := "9a2261bd02cab0e20919773a3e1bed194daeb2f217530954860c2d7d138e61c6", func := "loop.example/g00688/laws.FnExactBwtOf", spec := "fnExactBwtOf", inPlace := ["internal/bytealg.Compare"], unfollowed := true, recurses := true, apart := false, narrowed := true }
def FnExactBwtOfUptoSaid : Prop := fnExactBwtOfUptoRow.holds Try.pinned (OpenSpec.upto fnExactBwtOfSpec)

/-- 'laws.FnExactLcpRows', WHERE WHAT IT READS IS OF BULK AT MOST 1048576: true; the input reads as it did. -/
def fnExactLcpRowsUptoRow : OpenClaim := { program := "ytekcmfmcdedamaa", sum := "9a2261bd02cab0e20919773a3e1bed194daeb2f217530954860c2d7d138e61c6", func := "loop.example/g00688/laws.FnExactLcpRows", spec := "fnExactLcpRows", inPlace := ["internal/bytealg.Compare"], unfollowed := true, recurses := true, apart := false, narrowed := true }
def FnExactLcpRowsUptoSaid : Prop := fnExactLcpRowsUptoRow.holds Try.pinned (OpenSpec.upto fnExactLcpRowsSpec)

/-- 'laws.FnExactBwtText', WHERE WHAT IT READS IS OF BULK AT MOST 1048576: true; the input reads as it did. -/
def fnExactBwtTextUptoRow : OpenClaim := { program := "ytekcmfmcdedamaa", sum := "9a2261bd02cab0e20919773a3e1bed194daeb2f217530954860c2d7d138e61c6", func := "loop.example/g00688/laws.FnExactBwtText", spec := "fnExactBwtText", inPlace := ["internal/bytealg.Compare"], unfollowed := true, recurses := true, apart := false, narrowed := true }
def FnExactBwtTextUptoSaid : Prop := fnExactBwtTextUptoRow.holds Try.pinned (OpenSpec.upto fnExactBwtTextSpec)

end Rows
end Go.Proofs.Ytekcmfmcdedamaa
