/-
  No cell of these rows narrows 'for every input' (looked for: loops, veiled, ifaces, maps, wideKeys, modest, calm, conditions, laid).
  DERIVED. THE GIVEN ROWS OF THIS SEAT. 10 by the template 'for every input the law returns true; each argument reads behind the call as it read before'; 0 by the template 'total and deterministic' (their statements: YtcbhepghmmbdmaaTotals.lean).
  GIVEN WITH THE SEED: the statements are not yours to turn. If you find one false, say at which input.
  Laid BY PROGRAM, IN A SANDBOX (cutbox-rows.mjs): the forced cells as the released guide's own fill.sh prints them over the translation 5abdf6d15292908e… (all of the seat's roots in one cut). By AI agents, Wed Nov 11 2026. No macro, syntax, notation, axiom, sorry.
-/
import Derived.Test.YtcbhepghmmbdmaaChecked
import GoSem.Claim
import GoSem.ClaimJoined
import GoSem.ClaimMapViews
import Derived.JoinedTies
import Derived.KernelRfl
namespace Go.Proofs.Ytcbhepghmmbdmaa
/- THE CELL 'sum', in the pinned program and in every row, IS THE sha256 OF THE DUMP (.gsa) THAT YtcbhepghmmbdmaaProg.lean LOADS. Nothing in Lean hashes anything: it is a label: what it is worth is what the hold of that sum in a sandbox is worth. -/
noncomputable def Try.pinned : Pinned := { name := "ytcbhepghmmbdmaa", sum := "5abdf6d15292908e993f2851676ba1f6a4ff984c8760631f514883bb3abc8766", checked := Try.checked }
namespace Rows
def none {H : Type} : Left H := { results := [], args := [] }

/-- 'laws.FnExactBitsOf': WHATEVER THE INPUT: true; the input reads as it did. -/
def fnExactBitsOfSpec : ChangeSpec := { name := "fnExactBitsOf", fn := fun _ => fun
  | [d] => { results := [.lit (.bool true)], args := [d] }
  | _ => none }
def fnExactBitsOfRow : OpenClaim := { program := "ytcbhepghmmbdmaa", sum := "5abdf6d15292908e993f2851676ba1f6a4ff984c8760631f514883bb3abc8766", func := "loop.example/g00688/laws.FnExactBitsOf", spec := "fnExactBitsOf", unfollowed := true, recurses := true, apart := false }
def FnExactBitsOfSaid : Prop := fnExactBitsOfRow.holds Try.pinned (OpenSpec.ofChange fnExactBitsOfSpec)

/-- ITS FALSE NEIGHBOUR: 'it returns false'. Refute it at one input. -/
def fnExactBitsOfWrong : ChangeSpec := { name := "fnExactBitsOf", fn := fun _ => fun
  | [d] => { results := [.lit (.bool false)], args := [d] }
  | _ => none }
def FnExactBitsOfWrongFalsely : Prop := fnExactBitsOfRow.holds Try.pinned (OpenSpec.ofChange fnExactBitsOfWrong)

/-- 'laws.FnExactBitsOk': WHATEVER THE INPUT: true; the input reads as it did. -/
def fnExactBitsOkSpec : ChangeSpec := { name := "fnExactBitsOk", fn := fun _ => fun
  | [d] => { results := [.lit (.bool true)], args := [d] }
  | _ => none }
def fnExactBitsOkRow : OpenClaim := { program := "ytcbhepghmmbdmaa", sum := "5abdf6d15292908e993f2851676ba1f6a4ff984c8760631f514883bb3abc8766", func := "loop.example/g00688/laws.FnExactBitsOk", spec := "fnExactBitsOk", apart := false }
def FnExactBitsOkSaid : Prop := fnExactBitsOkRow.holds Try.pinned (OpenSpec.ofChange fnExactBitsOkSpec)

/-- ITS FALSE NEIGHBOUR: 'it returns false'. Refute it at one input. -/
def fnExactBitsOkWrong : ChangeSpec := { name := "fnExactBitsOk", fn := fun _ => fun
  | [d] => { results := [.lit (.bool false)], args := [d] }
  | _ => none }
def FnExactBitsOkWrongFalsely : Prop := fnExactBitsOkRow.holds Try.pinned (OpenSpec.ofChange fnExactBitsOkWrong)

/-- 'laws.FnExactBitAt': WHATEVER THE INPUT: true; the input reads as it did. -/
def fnExactBitAtSpec : ChangeSpec := { name := "fnExactBitAt", fn := fun _ => fun
  | [d1, d2] => { results := [.lit (.bool true)], args := [d1, d2] }
  | _ => none }
def fnExactBitAtRow : OpenClaim := { program := "ytcbhepghmmbdmaa", sum := "5abdf6d15292908e993f2851676ba1f6a4ff984c8760631f514883bb3abc8766", func := "loop.example/g00688/laws.FnExactBitAt", spec := "fnExactBitAt", apart := false }
def FnExactBitAtSaid : Prop := fnExactBitAtRow.holds Try.pinned (OpenSpec.ofChange fnExactBitAtSpec)

/-- ITS FALSE NEIGHBOUR: 'it returns false'. Refute it at one input. -/
def fnExactBitAtWrong : ChangeSpec := { name := "fnExactBitAt", fn := fun _ => fun
  | [d1, d2] => { results := [.lit (.bool false)], args := [d1, d2] }
  | _ => none }
def FnExactBitAtWrongFalsely : Prop := fnExactBitAtRow.holds Try.pinned (OpenSpec.ofChange fnExactBitAtWrong)

/-- 'laws.FnExactBitsList': WHATEVER THE INPUT: true; the input reads as it did. -/
def fnExactBitsListSpec : ChangeSpec := { name := "fnExactBitsList", fn := fun _ => fun
  | [d] => { results := [.lit (.bool true)], args := [d] }
  | _ => none }
def fnExactBitsListRow : OpenClaim := { program := "ytcbhepghmmbdmaa", sum := "5abdf6d15292908e993f2851676ba1f6a4ff984c8760631f514883bb3abc8766", func := "loop.example/g00688/laws.FnExactBitsList", spec := "fnExactBitsList", apart := false }
def FnExactBitsListSaid : Prop := fnExactBitsListRow.holds Try.pinned (OpenSpec.ofChange fnExactBitsListSpec)

/-- ITS FALSE NEIGHBOUR: 'it returns false'. Refute it at one input. -/
def fnExactBitsListWrong : ChangeSpec := { name := "fnExactBitsList", fn := fun _ => fun
  | [d] => { results := [.lit (.bool false)], args := [d] }
  | _ => none }
def FnExactBitsListWrongFalsely : Prop := fnExactBitsListRow.holds Try.pinned (OpenSpec.ofChange fnExactBitsListWrong)

/-- 'laws.FnExactBitsFlip': WHATEVER THE INPUT: true; the input reads as it did. -/
def fnExactBitsFlipSpec : ChangeSpec := { name := "fnExactBitsFlip", fn := fun _ => fun
  | [d] => { results := [.lit (.bool true)], args := [d] }
  | _ => none }
def fnExactBitsFlipRow : OpenClaim := { program := "ytcbhepghmmbdmaa", sum := "5abdf6d15292908e993f2851676ba1f6a4ff984c8760631f514883bb3abc8766", func := "loop.example/g00688/laws.FnExactBitsFlip", spec := "fnExactBitsFlip", apart := false }
def FnExactBitsFlipSaid : Prop := fnExactBitsFlipRow.holds Try.pinned (OpenSpec.ofChange fnExactBitsFlipSpec)

/-- ITS FALSE NEIGHBOUR: 'it returns false'. Refute it at one input. -/
def fnExactBitsFlipWrong : ChangeSpec := { name := "fnExactBitsFlip", fn := fun _ => fun
  | [d] => { results := [.lit (.bool false)], args := [d] }
  | _ => none }
def FnExactBitsFlipWrongFalsely : Prop := fnExactBitsFlipRow.holds Try.pinned (OpenSpec.ofChange fnExactBitsFlipWrong)

/-- 'laws.FnExactRank': WHATEVER THE INPUT: true; the input reads as it did. -/
def fnExactRankSpec : ChangeSpec := { name := "fnExactRank", fn := fun _ => fun
  | [d1, d2, d3] => { results := [.lit (.bool true)], args := [d1, d2, d3] }
  | _ => none }
def fnExactRankRow : OpenClaim := { program := "ytcbhepghmmbdmaa", sum := "5abdf6d15292908e993f2851676ba1f6a4ff984c8760631f514883bb3abc8766", func := "loop.example/g00688/laws.FnExactRank", spec := "fnExactRank", apart := false }
def FnExactRankSaid : Prop := fnExactRankRow.holds Try.pinned (OpenSpec.ofChange fnExactRankSpec)

/-- ITS FALSE NEIGHBOUR: 'it returns false'. Refute it at one input. -/
def fnExactRankWrong : ChangeSpec := { name := "fnExactRank", fn := fun _ => fun
  | [d1, d2, d3] => { results := [.lit (.bool false)], args := [d1, d2, d3] }
  | _ => none }
def FnExactRankWrongFalsely : Prop := fnExactRankRow.holds Try.pinned (OpenSpec.ofChange fnExactRankWrong)

/-- 'laws.FnExactSelect': WHATEVER THE INPUT: true; the input reads as it did. -/
def fnExactSelectSpec : ChangeSpec := { name := "fnExactSelect", fn := fun _ => fun
  | [d1, d2, d3] => { results := [.lit (.bool true)], args := [d1, d2, d3] }
  | _ => none }
def fnExactSelectRow : OpenClaim := { program := "ytcbhepghmmbdmaa", sum := "5abdf6d15292908e993f2851676ba1f6a4ff984c8760631f514883bb3abc8766", func := "loop.example/g00688/laws.FnExactSelect", spec := "fnExactSelect", apart := false }
def FnExactSelectSaid : Prop := fnExactSelectRow.holds Try.pinned (OpenSpec.ofChange fnExactSelectSpec)

/-- ITS FALSE NEIGHBOUR: 'it returns false'. Refute it at one input. -/
def fnExactSelectWrong : ChangeSpec := { name := "fnExactSelect", fn := fun _ => fun
  | [d1, d2, d3] => { results := [.lit (.bool false)], args := [d1, d2, d3] }
  | _ => none }
def FnExactSelectWrongFalsely : Prop := fnExactSelectRow.holds Try.pinned (OpenSpec.ofChange fnExactSelectWrong)

/-- 'laws.FnExactBitsJoin': WHATEVER THE INPUT: true; the input reads as it did. -/
def fnExactBitsJoinSpec : ChangeSpec := { name := "fnExactBitsJoin", fn := fun _ => fun
  | [d1, d2] => { results := [.lit (.bool true)], args := [d1, d2] }
  | _ => none }
def fnExactBitsJoinRow : OpenClaim := { program := "ytcbhepghmmbdmaa", sum := "5abdf6d15292908e993f2851676ba1f6a4ff984c8760631f514883bb3abc8766", func := "loop.example/g00688/laws.FnExactBitsJoin", spec := "fnExactBitsJoin", unfollowed := true, recurses := true, apart := false }
def FnExactBitsJoinSaid : Prop := fnExactBitsJoinRow.holds Try.pinned (OpenSpec.ofChange fnExactBitsJoinSpec)

/-- ITS FALSE NEIGHBOUR: 'it returns false'. Refute it at one input. -/
def fnExactBitsJoinWrong : ChangeSpec := { name := "fnExactBitsJoin", fn := fun _ => fun
  | [d1, d2] => { results := [.lit (.bool false)], args := [d1, d2] }
  | _ => none }
def FnExactBitsJoinWrongFalsely : Prop := fnExactBitsJoinRow.holds Try.pinned (OpenSpec.ofChange fnExactBitsJoinWrong)

/-- 'laws.FnRankSelect': WHATEVER THE INPUT: true; the input reads as it did. -/
def fnRankSelectSpec : ChangeSpec := { name := "fnRankSelect", fn := fun _ => fun
  | [d] => { results := [.lit (.bool true)], args := [d] }
  | _ => none }
def fnRankSelectRow : OpenClaim := { program := "ytcbhepghmmbdmaa", sum := "5abdf6d15292908e993f2851676ba1f6a4ff984c8760631f514883bb3abc8766", func := "loop.example/g00688/laws.FnRankSelect", spec := "fnRankSelect", apart := false }
def FnRankSelectSaid : Prop := fnRankSelectRow.holds Try.pinned (OpenSpec.ofChange fnRankSelectSpec)

/-- ITS FALSE NEIGHBOUR: 'it returns false'. Refute it at one input. -/
def fnRankSelectWrong : ChangeSpec := { name := "fnRankSelect", fn := fun _ => fun
  | [d] => { results := [.lit (.bool false)], args := [d] }
  | _ => none }
def FnRankSelectWrongFalsely : Prop := fnRankSelectRow.holds Try.pinned (OpenSpec.ofChange fnRankSelectWrong)

/-- 'laws.FnBitsJoin': WHATEVER THE INPUT: true; the input reads as it did. -/
def fnBitsJoinSpec : ChangeSpec := { name := "fnBitsJoin", fn := fun _ => fun
  | [d] => { results := [.lit (.bool true)], args := [d] }
  | _ => none }
def fnBitsJoinRow : OpenClaim := { program := "ytcbhepghmmbdmaa", sum := "5abdf6d15292908e993f2851676ba1f6a4ff984c8760631f514883bb3abc8766", func := "loop.example/g00688/laws.FnBitsJoin", spec := "fnBitsJoin", unfollowed := true, recurses := true, apart := false }
def FnBitsJoinSaid : Prop := fnBitsJoinRow.holds Try.pinned (OpenSpec.ofChange fnBitsJoinSpec)

/-- ITS FALSE NEIGHBOUR: 'it returns false'. Refute it at one input. -/
def fnBitsJoinWrong : ChangeSpec := { name := "fnBitsJoin", fn := fun _ => fun
  | [d] => { results := [.lit (.bool false)], args := [d] }
  | _ => none }
def FnBitsJoinWrongFalsely : Prop := fnBitsJoinRow.holds Try.pinned (OpenSpec.ofChange fnBitsJoinWrong)

/- THE SECOND FORM. 'bulk': how many values and letters a reading holds, each counted each time it is reached (what is shared counts as often as it is met; a slice's spare places count too). A statement '..UptoSaid' is the law's where the arguments, and the package variables that the reading takes, are together of bulk at most 1048576: NARROWER than '..Said'. Prove '..Said' where nothing that the law and all that it calls make is longer than what came in: it says more and counts as full. Else prove '..UptoSaid'. A law counts once. -/
mutual
def uptoBulk {H : Type} : DataW H → Nat
  | .lit (.string bytes) => bytes.length + 1
  | .lit _ => 1
  | .nil => 1
  | .ptr d => uptoBulk d + 1
  | .slice elems spare => uptoBulkAll elems + uptoBulkAll spare + 1
  | .agg parts => uptoBulkAll parts + 1
  | .iface _ d => uptoBulk d + 1
  | .map entries => uptoBulkEntries entries + 1
  | .held _ => 1
def uptoBulkAll {H : Type} : List (DataW H) → Nat
  | [] => 0
  | d :: r => uptoBulk d + uptoBulkAll r
def uptoBulkEntries {H : Type} : List (Lit × DataW H) → Nat
  | [] => 0
  | x :: r => uptoBulkEntry x + uptoBulkEntries r
def uptoBulkEntry {H : Type} : Lit × DataW H → Nat
  | (.string bytes, d) => bytes.length + uptoBulk d + 1
  | (_, d) => uptoBulk d + 1
 end
def uptoSmall : (H : Type) → List (DataW H) → Bool := fun _ ds => decide (uptoBulkAll ds ≤ 1048576)
def OpenSpec.upto (s : _root_.Go.ChangeSpec) : _root_.Go.OpenSpec := { _root_.Go.OpenSpec.ofChange s with cond := some uptoSmall }

/-- 'laws.FnExactBitsOf', WHERE WHAT IT READS IS OF BULK AT MOST 1048576: true; the input reads as it did. -/
def fnExactBitsOfUptoRow : OpenClaim := { program := "ytcbhepghmmbdmaa", sum := "5abdf6d15292908e993f2851676ba1f6a4ff984c8760631f514883bb3abc8766", func := "loop.example/g00688/laws.FnExactBitsOf", spec := "fnExactBitsOf", unfollowed := true, recurses := true, apart := false, narrowed := true }
def FnExactBitsOfUptoSaid : Prop := fnExactBitsOfUptoRow.holds Try.pinned (OpenSpec.upto fnExactBitsOfSpec)

/-- 'laws.FnExactBitsOk', WHERE WHAT IT READS IS OF BULK AT MOST 1048576: true; the input reads as it did. -/
def fnExactBitsOkUptoRow : OpenClaim := { program := "ytcbhepghmmbdmaa", sum := "5abdf6d15292908e993f2851676ba1f6a4ff984c8760631f514883bb3abc8766", func := "loop.example/g00688/laws.FnExactBitsOk", spec := "fnExactBitsOk", apart := false, narrowed := true }
def FnExactBitsOkUptoSaid : Prop := fnExactBitsOkUptoRow.holds Try.pinned (OpenSpec.upto fnExactBitsOkSpec)

/-- 'laws.FnExactBitAt', WHERE WHAT IT READS IS OF BULK AT MOST 1048576: true; the input reads as it did. -/
def fnExactBitAtUptoRow : OpenClaim := { program := "ytcbhepghmmbdmaa", sum := "5abdf6d15292908e993f2851676ba1f6a4ff984c8760631f514883bb3abc8766", func := "loop.example/g00688/laws.FnExactBitAt", spec := "fnExactBitAt", apart := false, narrowed := true }
def FnExactBitAtUptoSaid : Prop := fnExactBitAtUptoRow.holds Try.pinned (OpenSpec.upto fnExactBitAtSpec)

/-- 'laws.FnExactBitsList', WHERE WHAT IT READS IS OF BULK AT MOST 1048576: true; the input reads as it did. -/
def fnExactBitsListUptoRow : OpenClaim := { program := "ytcbhepghmmbdmaa", sum := "5abdf6d15292908e993f2851676ba1f6a4ff984c8760631f514883bb3abc8766", func := "loop.example/g00688/laws.FnExactBitsList", spec := "fnExactBitsList", apart := false, narrowed := true }
def FnExactBitsListUptoSaid : Prop := fnExactBitsListUptoRow.holds Try.pinned (OpenSpec.upto fnExactBitsListSpec)

/-- 'laws.FnExactBitsFlip', WHERE WHAT IT READS IS OF BULK AT MOST 1048576: true; the input reads as it did. -/
def fnExactBitsFlipUptoRow : OpenClaim := { program := "ytcbhepghmmbdmaa", sum := "5abdf6d15292908e993f2851676ba1f6a4ff984c8760631f514883bb3abc8766", func := "loop.example/g00688/laws.FnExactBitsFlip", spec := "fnExactBitsFlip", apart := false, narrowed := true }
def FnExactBitsFlipUptoSaid : Prop := fnExactBitsFlipUptoRow.holds Try.pinned (OpenSpec.upto fnExactBitsFlipSpec)

/-- 'laws.FnExactRank', WHERE WHAT IT READS IS OF BULK AT MOST 1048576: true; the input reads as it did. -/
def fnExactRankUptoRow : OpenClaim := { program := "ytcbhepghmmbdmaa", sum := "5abdf6d15292908e993f2851676ba1f6a4ff984c8760631f514883bb3abc8766", func := "loop.example/g00688/laws.FnExactRank", spec := "fnExactRank", apart := false, narrowed := true }
def FnExactRankUptoSaid : Prop := fnExactRankUptoRow.holds Try.pinned (OpenSpec.upto fnExactRankSpec)

/-- 'laws.FnExactSelect', WHERE WHAT IT READS IS OF BULK AT MOST 1048576: true; the input reads as it did. -/
def fnExactSelectUptoRow : OpenClaim := { program := "ytcbhepghmmbdmaa", sum := "5abdf6d15292908e993f2851676ba1f6a4ff984c8760631f514883bb3abc8766", func := "loop.example/g00688/laws.FnExactSelect", spec := "fnExactSelect", apart := false, narrowed := true }
def FnExactSelectUptoSaid : Prop := fnExactSelectUptoRow.holds Try.pinned (OpenSpec.upto fnExactSelectSpec)

/-- 'laws.FnExactBitsJoin', WHERE WHAT IT READS IS OF BULK AT MOST 1048576: true; the input reads as it did. -/
def fnExactBitsJoinUptoRow : OpenClaim := { program := "ytcbhepghmmbdmaa", sum := "5abdf6d15292908e993f2851676ba1f6a4ff984c8760631f514883bb3abc8766", func := "loop.example/g00688/laws.FnExactBitsJoin", spec := "fnExactBitsJoin", unfollowed := true, recurses := true, apart := false, narrowed := true }
def FnExactBitsJoinUptoSaid : Prop := fnExactBitsJoinUptoRow.holds Try.pinned (OpenSpec.upto fnExactBitsJoinSpec)

/-- 'laws.FnRankSelect', WHERE WHAT IT READS IS OF BULK AT MOST 1048576: true; the input reads as it did. -/
def fnRankSelectUptoRow : OpenClaim := { program := "ytcbhepghmmbdmaa", sum := "5abdf6d15292908e993f2851676ba1f6a4ff984c8760631f514883bb3abc8766", func := "loop.example/g00688/laws.FnRankSelect", spec := "fnRankSelect", apart := false, narrowed := true }
def FnRankSelectUptoSaid : Prop := fnRankSelectUptoRow.holds Try.pinned (OpenSpec.upto fnRankSelectSpec)

/-- 'laws.FnBitsJoin', WHERE WHAT IT READS IS OF BULK AT MOST 1048576: true; the input reads as it did. -/
def fnBitsJoinUptoRow : OpenClaim := { program := "ytcbhepghmmbdmaa", sum := "5abdf6d15292908e993f2851676ba1f6a4ff984c8760631f514883bb3abc8766", func := "loop.example/g00688/laws.FnBitsJoin", spec := "fnBitsJoin", unfollowed := true, recurses := true, apart := false, narrowed := true }
def FnBitsJoinUptoSaid : Prop := fnBitsJoinUptoRow.holds Try.pinned (OpenSpec.upto fnBitsJoinSpec)

end Rows
end Go.Proofs.Ytcbhepghmmbdmaa
