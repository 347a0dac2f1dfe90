-- WRITTEN BY A PROGRAM OF THIS SESSION (wip/tools/print2.py) out of Lean's own print of the loaded program, and turned by hand for a row of structs; Lean checks every row.
import Derived.Test.YtebdjkdmmdninaaRows
import Derived.Test.YtebdjkdmmdninaaQFnExactFramesOfx5
import Derived.Test.YtebdjkdmmdninaaPureFnExactFramesOf
import Derived.WalkKit
import Derived.ProofKit
import Derived.OpenShut
import Derived.ShutString
import Derived.ChangeOld
import Derived.Below
import Derived.SizedLaws
import Derived.Lib.SmallJoins
import Derived.Deep.Strs
import Derived.Deep.SlicePairs
import Derived.Test.YtebdjkdmmdninaaWSized
namespace Go.Proofs.Ytebdjkdmmdninaa.fnExactFramesOf
open Go.ChangeShapes Go.WideShapes Go.ChangeAt Go.RowKit Go.Joins Go.Proofs.YtebdjkdmmdninaaW.PrintWords Go.Proofs.Ytebdjkdmmdninaa.QFnExactFramesOf
open Go.ChangeMaps (open_string shut_string)
set_option linter.unusedVariables false
theorem own : ownKnob Try.prog.godebug = none := by kernel_rfl
theorem laidOut : laidOutB Try.prog = true := by kernel_rfl
/-- A row of bytes, as the row's data tell it: what is read of it. -/
theorem open_bytes {H : Type} {enc : TypeId × Value → H} {W : World} {t e : TypeId} (ht : Try.prog.underlying t = some (.slice e)) (he : Try.prog.underlying e = some (.int .u8)) (hc : Try.prog.cellsOf e = 1) {c : Value} {fuel : Nat} {y : DataW H × List MemPlace} (h : DataW.trod enc Try.prog W 0 (fun _ => true) true fuel t [c] = some y) :
    ∃ (A : Option Addr) (cap : Nat) (l : List Int), c = .slice A l.length cap ∧ l.length ≤ cap ∧ (Kd.int .u8).C W A l.length l ∧ l.length ≤ maxLen ∧ ∀ n ∈ l, (Lit.int .u8 n).wf = true := by
  have hrow : ∃ a len cap zs, c = .slice a len cap ∧ ((a = none ∧ len = 0 ∧ cap = 0 ∧ zs = []) ∨ ∃ x, a = some x ∧ len ≤ cap ∧ cap ≤ maxLen ∧ zs.length = cap ∧ (∀ i, i < zs.length → W.cell? (x.add i) = some (.int .u8 (zs.getD i 0))) ∧ ∀ n ∈ zs, (Lit.int .u8 n).wf = true) := by
    rcases open_ints ht he hc h with ⟨hcs, _⟩ | ⟨x, l, cp, zs, hcs, _, hl, hm, hz, _, hcell, hwz⟩
    · injection hcs with hcs; exact ⟨none, 0, 0, [], hcs, .inl ⟨rfl, rfl, rfl, rfl⟩⟩
    · injection hcs with hcs; exact ⟨some x, l, cp, zs, hcs, .inr ⟨_, rfl, hl, hm, by simpa using hz, hcell, hwz⟩⟩
  obtain ⟨a, len, cap, zs, rfl, w0⟩ := hrow
  obtain ⟨l, rfl, hr, hm, hw, hcp⟩ := ReadsInt.ofRowC w0
  exact ⟨a, cap, l, rfl, hcp, Kd.C_of_reads (d := (0 : Int)) (h1 := fun _ => rfl) hr, hm, hw⟩
/-- A row of frames, as the row's data tell it. -/
theorem open_frames {H : Type} {enc : TypeId × Value → H} {W : World} {c : Value} {fuel : Nat} {y : DataW H × List MemPlace} (h : DataW.trod enc Try.prog W 0 (fun _ => true) true fuel 38 [c] = some y) :
    ∃ (A : Option Addr) (cap : Nat) (l : List S24), c = .slice A l.length cap ∧ l.length ≤ cap ∧ l.length ≤ maxLen ∧ Kd.C k24 W A l.length l ∧ ∀ x ∈ l, x.f1.length ≤ maxLen ∧ ∀ n ∈ x.f1, (Lit.int .u8 n).wf = true := by
  rcases Go.Deep.open_slice_pairs Try.underlying38 Try.underlying24 (by kernel_rfl) rfl rfl (by kernel_rfl) (by kernel_rfl) h with ⟨hcs, _⟩ | ⟨a, len, cap, m, n, V0, V1, D0, D1, P0, P1, hcs, _, hl, hm, hmm, _, hx⟩
  · injection hcs with hcs
    subst hcs
    exact ⟨none, 0, [], rfl, Nat.le_refl _, Nat.zero_le _, Kd.C_nil _ _, fun x hx => by simp at hx⟩
  injection hcs with hcs
  subst hcs
  simp only [if_true] at hmm
  subst hmm
  have each : ∀ i, i < len → ∃ q : S24 × Option Addr × Nat, W.cell? (a.add (i * 2)) = some (.int .i64 q.1.f0) ∧ W.cell? (a.add (i * 2 + 1)) = some (.slice q.2.1 q.1.f1.length q.2.2) ∧ q.1.f1.length ≤ q.2.2 ∧ (Kd.int .u8).C W q.2.1 q.1.f1.length q.1.f1 ∧ q.1.f1.length ≤ maxLen ∧ ∀ n ∈ q.1.f1, (Lit.int .u8 n).wf = true := by
    intro i hi
    obtain ⟨h0, h1, t0, t1⟩ := hx i (by omega)
    obtain ⟨n0, e0, -, w0⟩ := DataW.trod_int Try.underlying3 t0
    injection e0 with e0
    obtain ⟨A, cp, l, e1, hlc, hC, hlm, hw⟩ := open_bytes Try.underlying22 Try.underlying5 (by kernel_rfl) t1
    rw [e0] at h0
    rw [e1] at h1
    exact ⟨(⟨n0, l⟩, A, cp), h0, h1, hlc, hC, hlm, hw⟩
  haveI : Inhabited S24 := ⟨z24⟩
  obtain ⟨q, hq⟩ := Go.Deep.choose_lt each
  have hlen : ((List.range len).map fun i => (q i).1).length = len := by simp
  refine ⟨some a, m, (List.range len).map fun i => (q i).1, by rw [hlen], by rw [hlen]; exact hl, by rw [hlen]; omega, ⟨rfl, by rw [hlen]; unfold maxLen at hm; omega, fun hp => ⟨a, rfl, fun j p hj => ?_⟩⟩, fun x hx => ?_⟩
  · have hjl : j < len := by have := (List.getElem?_eq_some_iff.1 hj).1; rwa [hlen] at this
    rw [List.getElem?_map, List.getElem?_range hjl] at hj
    obtain rfl : (q j).1 = p := by simpa using hj
    obtain ⟨h0, h1, h2, h3, _, _⟩ := hq j hjl
    refine ⟨[.int .i64 (q j).1.f0, .slice (q j).2.1 (q j).1.f1.length (q j).2.2], rfl, k24_mk W (q j).1 h2 h3, fun i u hu => ?_⟩
    show W.cell? (a.add (j * 2 + i)) = some u
    match i, hu with
    | 0, hu => cases hu; exact h0
    | 1, hu => cases hu; exact h1
  · obtain ⟨i, hi, rfl⟩ := List.mem_map.1 hx
    exact (hq i (List.mem_range.1 hi)).2.2.2.2
set_option maxRecDepth 100000 in
theorem lifted (os : Os) (started : os.Started) (H : Type) (enc : TypeId × Value → H) :
    ReturnsInHanded {} Try.checked os 5 .any (Rows.fnExactFramesOfSpec.pre6 enc Try.prog Try.f5 Rows.fnExactFramesOfRow.domain false) (Rows.fnExactFramesOfSpec.post enc Try.prog Try.f5 false true false false) := by
  refine returnsInHanded_of_change_sized (C := Try.checked) own started (by kernel_rfl) Try.func5
    (ChangeSpec.witness6 (enc := enc) (C := Try.checked) false ⟨#[], #[.slice none 0 0], []⟩ 8 (by kernel_rfl) (by kernel_rfl) (by kernel_rfl) (by kernel_rfl)) ?_
  intro W base args ds gs before hval0 hW hcnd hsz0 _
  have hval : ∀ (j : Nat) t v, Try.f5.params[j]? = some t → args[j]? = some v → Value.okWide Try.prog W .any base t v := hval0
  have hW' := hW
  obtain ⟨p, q, hA0, hV, rfl, hfz, hnd⟩ := hW
  have hA : DataW.TrodAll enc Try.prog W 0 (fun _ => true) true Try.f5.params.toList args.toList ds p := hA0
  rw [Try.params5] at hA hval
  obtain ⟨v0, vs0, d0, ds0, p0, q0, hargs, rfl, rfl, h0, r0⟩ := trodAll_cons hA
  obtain ⟨rfl, rfl, rfl⟩ := trodAll_nil r0
  obtain rfl : args = #[v0] := by cases args; simp_all
  obtain ⟨rfl, rfl⟩ := trodVars_none hV
  have k0 := h0
  have lt0 : ∀ x ∈ p0, x.block < W.heap.size := by obtain ⟨m, hm⟩ := k0; exact DataW.trod_lt m _ _ _ hm
  obtain ⟨a0, len0, cap0, rfl⟩ := okWide_slice Try.underlying38 (hval 0 38 v0 rfl rfl)
  obtain ⟨fu0, hf0⟩ := h0
  have g0 : DataW.trod enc Try.prog W 0 (fun _ => true) true fu0 38 [.slice a0 len0 cap0] = some (d0, p0) := hf0
  obtain ⟨A0, c0, l0, hcs, hc0, hm0, hr0, hw0⟩ := open_frames g0
  injection hcs with e1 e2 e3
  subst e1; subst e2; subst e3
  clear hA0 hval0 hsz0
  refine (QFnExactFramesOf.laws_FnExactFramesOf.walk Pure.FnExactFramesOf a0 cap0 l0 W hr0 hc0 hm0 hw0).mono fun e W' ⟨he, bel⟩ => ?_
  subst he
  exact ⟨_, rfl, _, _, _, [], _, [], hW', trodAll_mk1 (shut_bool Try.underlying4 _), (trodAll_cons_mk (Below.trod laidOut (by kernel_rfl) (of_decide_eq_true (by kernel_rfl)) k0 bel lt0) trodAll_mk0), rfl, bel.frame _, fun h => by cases h⟩
theorem over : Rows.fnExactFramesOfRow.holds Try.pinned (OpenSpec.ofChange Rows.fnExactFramesOfSpec) :=
  OpenClaim.holds_of_wide 5 Try.f5 rfl rfl rfl rfl rfl rfl rfl ⟨rfl, rfl, rfl, rfl, rfl⟩ rfl rfl rfl rfl rfl (by kernel_rfl) Try.func5 (by kernel_rfl)
    (of_decide_eq_true (by kernel_rfl)) (by unfold Func.isWrapper; first | (rw [if_pos (by decide +kernel)]; kernel_rfl) | (rw [if_neg (by decide +kernel)]; exact ⟨rfl, rfl⟩))
    (fun os started H enc _ => lifted os started H enc)
theorem proved : Rows.FnExactFramesOfSaid := over
#print axioms proved
end Go.Proofs.Ytebdjkdmmdninaa.fnExactFramesOf
namespace Go.Proofs.Ytebdjkdmmdninaa
/-- The row, under a short name, for the claim. -/
theorem fnExactFramesOf_holds : Rows.FnExactFramesOfSaid := fnExactFramesOf.proved
end Go.Proofs.Ytebdjkdmmdninaa
