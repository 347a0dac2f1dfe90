-- WRITTEN BY A PROGRAM OF THIS SESSION (wip/tools/print2.py) out of Lean's own print of the loaded program; Lean checks every row.
import Derived.Test.YtcbhepghmmbdmaaRows
import Derived.Test.YtcbhepghmmbdmaaQFnExactBitsJoinx7
import Derived.Test.YtcbhepghmmbdmaaPureFnExactBitsJoin
import Derived.WalkKit
import Derived.ProofKit
import Derived.OpenShut
import Derived.ShutString
import Derived.ChangeOld
import Derived.Below
import Derived.SizedLaws
import Derived.Lib.SmallJoins
import Derived.Deep.Strs
import Derived.Test.YtcbhepghmmbdmaaWSized
namespace Go.Proofs.Ytcbhepghmmbdmaa.fnExactBitsJoin
open Go.ChangeShapes Go.WideShapes Go.ChangeAt Go.RowKit Go.Joins
open Go.ChangeMaps (open_string shut_string)
set_option linter.unusedVariables false
theorem own : ownKnob Try.prog.godebug = none := by kernel_rfl
theorem laidOut : laidOutB Try.prog = true := by kernel_rfl
def IsRow (k : IntKind) (w : World) (a : Option Addr) (len cap : Nat) (zs : List Int) : Prop :=
  (a = none ∧ len = 0 ∧ cap = 0 ∧ zs = []) ∨
  ∃ x, a = some x ∧ len ≤ cap ∧ cap ≤ maxLen ∧ zs.length = cap ∧ (∀ i, i < zs.length → w.cell? (x.add i) = some (.int k (zs.getD i 0))) ∧ ∀ n ∈ zs, (Lit.int k n).wf = true
theorem open_row {H : Type} {enc : TypeId × Value → H} {P : Program} {W : World} {t e : TypeId} {k : IntKind} (ht : P.underlying t = some (.slice e)) (he : P.underlying e = some (.int k)) (hc : P.cellsOf e = 1) {c : Value} {fuel : Nat} {y : DataW H × List MemPlace} (h : DataW.trod enc P W 0 (fun _ => true) true fuel t [c] = some y) : ∃ a len cap zs, c = .slice a len cap ∧ IsRow k W a len cap zs := by
  rcases open_ints ht he hc h with ⟨hcs, _⟩ | ⟨x, l, cp, zs, hcs, _, hl, hm, hz, _, hcell, hwz⟩
  · injection hcs with hcs; exact ⟨none, 0, 0, [], hcs, .inl ⟨rfl, rfl, rfl, rfl⟩⟩
  · injection hcs with hcs; exact ⟨some x, l, cp, zs, hcs, .inr ⟨_, rfl, hl, hm, by simpa using hz, hcell, hwz⟩⟩
set_option maxRecDepth 100000 in
theorem lifted (os : Os) (started : os.Started) (H : Type) (enc : TypeId × Value → H) :
    ReturnsInHanded {} Try.checked os 10 .any (Rows.fnExactBitsJoinSpec.pre6 enc Try.prog Try.f10 Rows.fnExactBitsJoinRow.domain false) (Rows.fnExactBitsJoinSpec.post enc Try.prog Try.f10 false true false false) := by
  refine returnsInHanded_of_change_sized (C := Try.checked) own started (by kernel_rfl) Try.func10
    (ChangeSpec.witness6 (enc := enc) (C := Try.checked) false ⟨#[], #[.agg #[.int .i64 0, .slice none 0 0], .agg #[.int .i64 0, .slice none 0 0]], []⟩ 8 (by kernel_rfl) (by kernel_rfl) (by kernel_rfl) (by kernel_rfl)) ?_
  intro W base args ds gs before hval0 hW hcnd hsz0 _
  have hsz : (DataW.weightsEach Try.prog (Try.f10.params.toList ++ Rows.fnExactBitsJoinSpec.plain.varTypes Try.prog) (ds ++ gs)).all (· ≤ reachBytes) = true := hsz0
  have hval : ∀ (j : Nat) t v, Try.f10.params[j]? = some t → args[j]? = some v → Value.okWide Try.prog W .any base t v := hval0
  have hW' := hW
  obtain ⟨p, q, hA0, hV, rfl, hfz, hnd⟩ := hW
  have hA : DataW.TrodAll enc Try.prog W 0 (fun _ => true) true Try.f10.params.toList args.toList ds p := hA0
  rw [Try.params10] at hA hval hsz
  obtain ⟨v0, vs0, d0, ds0, p0, q0, hargs, rfl, rfl, h0, r0⟩ := trodAll_cons hA
  obtain ⟨v1, vs1, d1, ds1, p1, q1, rfl, rfl, rfl, h1, r1⟩ := trodAll_cons r0
  obtain ⟨rfl, rfl, rfl⟩ := trodAll_nil r1
  obtain rfl : args = #[v0, v1] := by cases args; simp_all
  obtain ⟨rfl, rfl⟩ := trodVars_none hV
  have k0 := h0
  have lt0 : ∀ x ∈ p0, x.block < W.heap.size := by obtain ⟨m, hm⟩ := k0; exact DataW.trod_lt m _ _ _ hm
  obtain ⟨cs0, rfl, hs0⟩ := okWide_struct Try.underlying34 (hval 0 34 v0 rfl rfl)
  obtain ⟨c0_0, c0_1, rfl⟩ := array2 (hs0.trans (by kernel_rfl))
  obtain ⟨fu0, hf0⟩ := h0
  have g0 : DataW.trod enc Try.prog W 0 (fun _ => true) true fu0 34 [c0_0, c0_1] = some (d0, p0) := hf0
  obtain ⟨y0_0, y0_1, nn0, ex0, ey0, g0_0, g0_1⟩ := trod_struct2 Try.underlying34 g0
  have qg0_0 : DataW.trod enc Try.prog W 0 (fun _ => true) true nn0 3 [c0_0] = some y0_0 := by
    have e := g0_0
    rw [show Try.prog.cellsOf _ = 1 from (by kernel_rfl : Try.prog.cellsOf 3 = 1)] at e
    exact e
  obtain ⟨a0_0, e0_0, -, w0_0⟩ := DataW.trod_int Try.underlying3 qg0_0
  injection e0_0 with e0_0
  subst e0_0
  have qg0_1 : DataW.trod enc Try.prog W 0 (fun _ => true) true nn0 23 [c0_1] = some y0_1 := by
    have e := g0_1
    rw [show Try.prog.cellsOf _ = 1 from (by kernel_rfl : Try.prog.cellsOf 23 = 1)] at e
    exact e
  obtain ⟨a0_1, len0_1, cap0_1, z0_1, rfl, w0_1⟩ := open_row Try.underlying23 Try.underlying53 (by kernel_rfl) qg0_1
  have k1 := h1
  have lt1 : ∀ x ∈ p1, x.block < W.heap.size := by obtain ⟨m, hm⟩ := k1; exact DataW.trod_lt m _ _ _ hm
  obtain ⟨cs1, rfl, hs1⟩ := okWide_struct Try.underlying34 (hval 1 34 v1 rfl rfl)
  obtain ⟨c1_0, c1_1, rfl⟩ := array2 (hs1.trans (by kernel_rfl))
  obtain ⟨fu1, hf1⟩ := h1
  have g1 : DataW.trod enc Try.prog W 0 (fun _ => true) true fu1 34 [c1_0, c1_1] = some (d1, p1) := hf1
  obtain ⟨y1_0, y1_1, nn1, ex1, ey1, g1_0, g1_1⟩ := trod_struct2 Try.underlying34 g1
  have qg1_0 : DataW.trod enc Try.prog W 0 (fun _ => true) true nn1 3 [c1_0] = some y1_0 := by
    have e := g1_0
    rw [show Try.prog.cellsOf _ = 1 from (by kernel_rfl : Try.prog.cellsOf 3 = 1)] at e
    exact e
  obtain ⟨a1_0, e1_0, -, w1_0⟩ := DataW.trod_int Try.underlying3 qg1_0
  injection e1_0 with e1_0
  subst e1_0
  have qg1_1 : DataW.trod enc Try.prog W 0 (fun _ => true) true nn1 23 [c1_1] = some y1_1 := by
    have e := g1_1
    rw [show Try.prog.cellsOf _ = 1 from (by kernel_rfl : Try.prog.cellsOf 23 = 1)] at e
    exact e
  obtain ⟨a1_1, len1_1, cap1_1, z1_1, rfl, w1_1⟩ := open_row Try.underlying23 Try.underlying53 (by kernel_rfl) qg1_1
  clear hA0 hval0 hsz0 hsz
  refine (QFnExactBitsJoin.laws_FnExactBitsJoin.walk Pure.FnExactBitsJoin a0_0 a0_1 len0_1 cap0_1 z0_1 a1_0 a1_1 len1_1 cap1_1 z1_1 W w0_0 w0_1 w1_0 w1_1).mono fun e W' ⟨he, bel⟩ => ?_
  subst he
  exact ⟨_, rfl, _, _, _, [], _, [], hW', trodAll_mk1 (shut_bool Try.underlying4 _), (trodAll_cons_mk (Below.trod laidOut (by kernel_rfl) (of_decide_eq_true (by kernel_rfl)) k0 bel lt0) (trodAll_cons_mk (Below.trod laidOut (by kernel_rfl) (of_decide_eq_true (by kernel_rfl)) k1 bel lt1) trodAll_mk0)), rfl, bel.frame _, fun h => by cases h⟩
theorem over : Rows.fnExactBitsJoinRow.holds Try.pinned (OpenSpec.ofChange Rows.fnExactBitsJoinSpec) :=
  OpenClaim.holds_of_wide 10 Try.f10 rfl rfl rfl rfl rfl rfl rfl ⟨rfl, rfl, rfl, rfl, rfl⟩ rfl rfl rfl rfl rfl (by kernel_rfl) Try.func10 (by kernel_rfl)
    (of_decide_eq_true (by kernel_rfl)) (by unfold Func.isWrapper; first | (rw [if_pos (by decide +kernel)]; kernel_rfl) | (rw [if_neg (by decide +kernel)]; exact ⟨rfl, rfl⟩))
    (fun os started H enc _ => lifted os started H enc)
theorem proved : Rows.FnExactBitsJoinSaid := over
#print axioms proved
end Go.Proofs.Ytcbhepghmmbdmaa.fnExactBitsJoin
namespace Go.Proofs.Ytcbhepghmmbdmaa
/-- The row, under a short name, for the claim. -/
theorem fnExactBitsJoin_holds : Rows.FnExactBitsJoinSaid := fnExactBitsJoin.proved
end Go.Proofs.Ytcbhepghmmbdmaa
