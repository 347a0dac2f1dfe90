-- WRITTEN BY A PROGRAM OF THIS SESSION (wip/tools/print2.py) out of Lean's own print of the loaded program; Lean checks every row.
import Derived.Test.YteckcjjkblkfkaaQFnExactSparseOfx0
import Derived.Test.YteckcjjkblkfkaaQFnExactSparseOfx1
import Derived.Test.YteckcjjkblkfkaaQFnExactSparseOfx4
import Derived.Test.YteckcjjkblkfkaaQFnExactSparseOfx7
import Derived.Test.YteckcjjkblkfkaaQFnExactSparseOfx8
import Derived.Test.YteckcjjkblkfkaaQFnExactSparseOfx9
namespace Go.Proofs.Yteckcjjkblkfkaa.QFnExactSparseOf
open Go.RowKit Go.Proofs.YteckcjjkblkfkaaW.PrintWords Go.Proofs.YteckcjjkblkfkaaW.PrintLast Go.Proofs.YteckcjjkblkfkaaW.PrintMore
open Go.Proofs.YteckcjjkblkfkaaW.PrintWords renaming below_alloc → ba, pw_below_drewN → bw, below_drew1 → b1, below_set → bs, blk_drewN → bN, blk_drew → bD, blk_alloc → bA, below_step → bt, below_size → bz, blk_below → bb, gate_callee → gc, gate_dst → gd, Aside0 → As
open Go.Proofs.YteckcjjkblkfkaaW.PrintWords.Kd renaming R_alloc → rA, R_drewN → rN, R_drew → rD, R_slice → rS, R_below → rB, R_elder' → rE, R_lower → rL, R_new' → rW, R_reads' → rR, C_alloc → cA, C_drewN → cN, C_drew → cD, C_below → cB
attribute [local go_sem] max2_int min2_int max_two min_two max_three min_three max_four min_four   -- for this text's walks alone
set_option linter.unusedVariables false
set_option linter.unusedSimpArgs false

/-! ### laws_FnExactSparseOf: function 8 -/
mutual
def laws_FnExactSparseOf.j0 : Nat → List Int → Int → Bool → List Int → Bool → Bool → Int → Int → Int → Int → Int → List Int → Int → List Int → Int → Int → Int → Int → Int → List Int → Int → List Int → Option (Bool)
 | 0, _, _, _, _, _, _, _, _, _, _, _, _, _, _, _, _, _, _, _, _, _, _ => none
 | k + 1, x0, x1, x6, x7, x9, x41, x308000, x308001, x308002, x308003, x308004, x308005, x308006, x308007, x325000, x325001, x325002, x325003, x325004, x325005, x325006, x325007 => if x41 = true then (some false) else ((laws_toIntS.f k x0).bind fun t326 => ((laws_eqIntS.f k x7 t326).bind fun t329 => (if t329 = true then ((laws_markIntS.f k x7 1).bind fun bt330 => (if bt330.1 < 0 then (laws_FnExactSparseOf.j1 k x0 x1 x6 true x308000 x308001 x308002 x308003 x308004 x308005 x308006 x308007 x325000 x325001 x325002 x325003 x325004 x325005 x325006 x325007) else ((laws_eqSparse.f k x325000 x325001 x325002 x325003 x325004 x325005 x325006 x325007 x308000 x308001 x308002 x308003 x308004 x308005 x308006 x308007).bind fun t332 => (if t332 = true then (laws_FnExactSparseOf.j1 k x0 x1 x6 (x9 != x6) x308000 x308001 x308002 x308003 x308004 x308005 x308006 x308007 x325000 x325001 x325002 x325003 x325004 x325005 x325006 x325007) else (laws_FnExactSparseOf.j1 k x0 x1 x6 true x308000 x308001 x308002 x308003 x308004 x308005 x308006 x308007 x325000 x325001 x325002 x325003 x325004 x325005 x325006 x325007))))) else (some false))))
def laws_FnExactSparseOf.j1 : Nat → List Int → Int → Bool → Bool → Int → Int → Int → Int → Int → List Int → Int → List Int → Int → Int → Int → Int → Int → List Int → Int → List Int → Option (Bool)
 | 0, _, _, _, _, _, _, _, _, _, _, _, _, _, _, _, _, _, _, _, _ => none
 | k + 1, x0, x1, x6, x62, x308000, x308001, x308002, x308003, x308004, x308005, x308006, x308007, x325000, x325001, x325002, x325003, x325004, x325005, x325006, x325007 => if x62 = true then (some false) else ((laws_markSparse.f k x325000 x325001 x325002 x325003 x325004 x325005 x325006 x325007 1).bind fun bt333 => ((laws_heldSparse.f k x325000 x325001 x325002 x325003 x325004 bt333.2.1 x325006 bt333.2.2 1).bind fun t336 => (if t336 < 0 then (some false) else (if t336 = bt333.1 then ((laws_toIntS.f k x0).bind fun t337 => ((impl_SparseOf.f k t337 x1).bind fun bt340 => ((laws_eqSparse.f k bt340.1 bt340.2.1 bt340.2.2.1 bt340.2.2.2.1 bt340.2.2.2.2.1 bt340.2.2.2.2.2.1 bt340.2.2.2.2.2.2.1 bt340.2.2.2.2.2.2.2.1 x308000 x308001 x308002 x308003 x308004 x308005 x308006 x308007).bind fun t354 => (if t354 = true then (laws_FnExactSparseOf.j2 k bt333.1 (bt340.2.2.2.2.2.2.2.2 != x6) x325000 x325001 x325002 x325003 x325004 bt333.2.1 x325006 bt333.2.2) else (laws_FnExactSparseOf.j2 k bt333.1 true x325000 x325001 x325002 x325003 x325004 bt333.2.1 x325006 bt333.2.2))))) else (some false)))))
def laws_FnExactSparseOf.j2 : Nat → Int → Bool → Int → Int → Int → Int → Int → List Int → Int → List Int → Option (Bool)
 | 0, _, _, _, _, _, _, _, _, _, _ => none
 | k + 1, x11, x89, x325000, x325001, x325002, x325003, x325004, x325005, x325006, x325007 => if x89 = true then (some false) else ((laws_heldSparse.f k x325000 x325001 x325002 x325003 x325004 x325005 x325006 x325007 1).bind fun t355 => (if t355 < 0 then (some false) else (if t355 = x11 then (some true) else (some false))))
end
def laws_FnExactSparseOf.f (k : Nat) (l0 : List Int) (a1 : Int) : Option (Bool) := if (l0.length : Int) > 1048576 then (some true) else ((laws_toIntS.f k l0).bind fun t291 => ((spec_SparseOf.f k t291 a1).bind fun bt294 => ((laws_toIntS.f k l0).bind fun t308 => ((impl_SparseOf.f k t308 a1).bind fun bt311 => ((laws_eqSparse.f k bt311.1 bt311.2.1 bt311.2.2.1 bt311.2.2.2.1 bt311.2.2.2.2.1 bt311.2.2.2.2.2.1 bt311.2.2.2.2.2.2.1 bt311.2.2.2.2.2.2.2.1 bt294.1 bt294.2.1 bt294.2.2.1 bt294.2.2.2.1 bt294.2.2.2.2.1 bt294.2.2.2.2.2.1 bt294.2.2.2.2.2.2.1 bt294.2.2.2.2.2.2.2.1).bind fun t325 => (if t325 = true then (laws_FnExactSparseOf.j0 k l0 a1 bt294.2.2.2.2.2.2.2.2 t308 bt311.2.2.2.2.2.2.2.2 (bt311.2.2.2.2.2.2.2.2 != bt294.2.2.2.2.2.2.2.2) bt294.1 bt294.2.1 bt294.2.2.1 bt294.2.2.2.1 bt294.2.2.2.2.1 bt294.2.2.2.2.2.1 bt294.2.2.2.2.2.2.1 bt294.2.2.2.2.2.2.2.1 bt311.1 bt311.2.1 bt311.2.2.1 bt311.2.2.2.1 bt311.2.2.2.2.1 bt311.2.2.2.2.2.1 bt311.2.2.2.2.2.2.1 bt311.2.2.2.2.2.2.2.1) else (laws_FnExactSparseOf.j0 k l0 a1 bt294.2.2.2.2.2.2.2.2 t308 bt311.2.2.2.2.2.2.2.2 true bt294.1 bt294.2.1 bt294.2.2.1 bt294.2.2.2.1 bt294.2.2.2.2.1 bt294.2.2.2.2.2.1 bt294.2.2.2.2.2.2.1 bt294.2.2.2.2.2.2.2.1 bt311.1 bt311.2.1 bt311.2.2.1 bt311.2.2.2.1 bt311.2.2.2.2.1 bt311.2.2.2.2.2.1 bt311.2.2.2.2.2.2.1 bt311.2.2.2.2.2.2.2.1)))))))
theorem laws_FnExactSparseOf.mono_l : ∀ k, (∀ y0 y1 y2 y3 y4 y5 y6 y7 y8 y9 y10 y11 y12 y13 y14 y15 y16 y17 y18 y19 y20 y21, LeO (laws_FnExactSparseOf.j0 k y0 y1 y2 y3 y4 y5 y6 y7 y8 y9 y10 y11 y12 y13 y14 y15 y16 y17 y18 y19 y20 y21) (laws_FnExactSparseOf.j0 (k + 1) y0 y1 y2 y3 y4 y5 y6 y7 y8 y9 y10 y11 y12 y13 y14 y15 y16 y17 y18 y19 y20 y21)) ∧ (∀ y0 y1 y2 y3 y4 y5 y6 y7 y8 y9 y10 y11 y12 y13 y14 y15 y16 y17 y18 y19, LeO (laws_FnExactSparseOf.j1 k y0 y1 y2 y3 y4 y5 y6 y7 y8 y9 y10 y11 y12 y13 y14 y15 y16 y17 y18 y19) (laws_FnExactSparseOf.j1 (k + 1) y0 y1 y2 y3 y4 y5 y6 y7 y8 y9 y10 y11 y12 y13 y14 y15 y16 y17 y18 y19)) ∧ (∀ y0 y1 y2 y3 y4 y5 y6 y7 y8 y9, LeO (laws_FnExactSparseOf.j2 k y0 y1 y2 y3 y4 y5 y6 y7 y8 y9) (laws_FnExactSparseOf.j2 (k + 1) y0 y1 y2 y3 y4 y5 y6 y7 y8 y9))
 | 0 => ⟨fun _ _ _ _ _ _ _ _ _ _ _ _ _ _ _ _ _ _ _ _ _ _ r h => by simp [laws_FnExactSparseOf.j0] at h, fun _ _ _ _ _ _ _ _ _ _ _ _ _ _ _ _ _ _ _ _ r h => by simp [laws_FnExactSparseOf.j1] at h, fun _ _ _ _ _ _ _ _ _ _ r h => by simp [laws_FnExactSparseOf.j2] at h⟩
 | k + 1 => by
  obtain ⟨ih0, ih1, ih2⟩ := laws_FnExactSparseOf.mono_l k
  refine ⟨?_, ?_, ?_⟩
  ·intro y0 y1 y2 y3 y4 y5 y6 y7 y8 y9 y10 y11 y12 y13 y14 y15 y16 y17 y18 y19 y20 y21
   unfold laws_FnExactSparseOf.j0
   repeat' first
   | (with_reducible exact ih0 _ _ _ _ _ _ _ _ _ _ _ _ _ _ _ _ _ _ _ _ _ _)
   | (with_reducible exact ih1 _ _ _ _ _ _ _ _ _ _ _ _ _ _ _ _ _ _ _ _)
   | (with_reducible exact ih2 _ _ _ _ _ _ _ _ _ _)
   | (with_reducible exact impl_SparseOf.mono _ _ _)
   | (with_reducible exact laws_eqIntS.mono _ _ _)
   | (with_reducible exact laws_eqSparse.mono _ _ _ _ _ _ _ _ _ _ _ _ _ _ _ _ _)
   | (with_reducible exact laws_heldSparse.mono _ _ _ _ _ _ _ _ _ _)
   | (with_reducible exact laws_markIntS.mono _ _ _)
   | (with_reducible exact laws_markSparse.mono _ _ _ _ _ _ _ _ _ _)
   | (with_reducible exact laws_toIntS.mono _ _)
   | (with_reducible exact spec_SparseOf.mono _ _ _)
   | (with_reducible exact LeO.refl _)
   | (with_reducible exact LeO.none _)
   | (with_reducible refine LeO.ite ?_ ?_)
   | (with_reducible refine LeO.bind ?_ (fun _ => ?_))
   | exact ih0 _ _ _ _ _ _ _ _ _ _ _ _ _ _ _ _ _ _ _ _ _ _
   | exact ih1 _ _ _ _ _ _ _ _ _ _ _ _ _ _ _ _ _ _ _ _
   | exact ih2 _ _ _ _ _ _ _ _ _ _
   | exact impl_SparseOf.mono _ _ _
   | exact laws_eqIntS.mono _ _ _
   | exact laws_eqSparse.mono _ _ _ _ _ _ _ _ _ _ _ _ _ _ _ _ _
   | exact laws_heldSparse.mono _ _ _ _ _ _ _ _ _ _
   | exact laws_markIntS.mono _ _ _
   | exact laws_markSparse.mono _ _ _ _ _ _ _ _ _ _
   | exact laws_toIntS.mono _ _
   | exact spec_SparseOf.mono _ _ _
   | exact LeO.none _
   | refine LeO.ite ?_ ?_
   | refine LeO.bind ?_ (fun _ => ?_)
  ·intro y0 y1 y2 y3 y4 y5 y6 y7 y8 y9 y10 y11 y12 y13 y14 y15 y16 y17 y18 y19
   unfold laws_FnExactSparseOf.j1
   repeat' first
   | (with_reducible exact ih0 _ _ _ _ _ _ _ _ _ _ _ _ _ _ _ _ _ _ _ _ _ _)
   | (with_reducible exact ih1 _ _ _ _ _ _ _ _ _ _ _ _ _ _ _ _ _ _ _ _)
   | (with_reducible exact ih2 _ _ _ _ _ _ _ _ _ _)
   | (with_reducible exact impl_SparseOf.mono _ _ _)
   | (with_reducible exact laws_eqIntS.mono _ _ _)
   | (with_reducible exact laws_eqSparse.mono _ _ _ _ _ _ _ _ _ _ _ _ _ _ _ _ _)
   | (with_reducible exact laws_heldSparse.mono _ _ _ _ _ _ _ _ _ _)
   | (with_reducible exact laws_markIntS.mono _ _ _)
   | (with_reducible exact laws_markSparse.mono _ _ _ _ _ _ _ _ _ _)
   | (with_reducible exact laws_toIntS.mono _ _)
   | (with_reducible exact spec_SparseOf.mono _ _ _)
   | (with_reducible exact LeO.refl _)
   | (with_reducible exact LeO.none _)
   | (with_reducible refine LeO.ite ?_ ?_)
   | (with_reducible refine LeO.bind ?_ (fun _ => ?_))
   | exact ih0 _ _ _ _ _ _ _ _ _ _ _ _ _ _ _ _ _ _ _ _ _ _
   | exact ih1 _ _ _ _ _ _ _ _ _ _ _ _ _ _ _ _ _ _ _ _
   | exact ih2 _ _ _ _ _ _ _ _ _ _
   | exact impl_SparseOf.mono _ _ _
   | exact laws_eqIntS.mono _ _ _
   | exact laws_eqSparse.mono _ _ _ _ _ _ _ _ _ _ _ _ _ _ _ _ _
   | exact laws_heldSparse.mono _ _ _ _ _ _ _ _ _ _
   | exact laws_markIntS.mono _ _ _
   | exact laws_markSparse.mono _ _ _ _ _ _ _ _ _ _
   | exact laws_toIntS.mono _ _
   | exact spec_SparseOf.mono _ _ _
   | exact LeO.none _
   | refine LeO.ite ?_ ?_
   | refine LeO.bind ?_ (fun _ => ?_)
  ·intro y0 y1 y2 y3 y4 y5 y6 y7 y8 y9
   unfold laws_FnExactSparseOf.j2
   repeat' first
   | (with_reducible exact ih0 _ _ _ _ _ _ _ _ _ _ _ _ _ _ _ _ _ _ _ _ _ _)
   | (with_reducible exact ih1 _ _ _ _ _ _ _ _ _ _ _ _ _ _ _ _ _ _ _ _)
   | (with_reducible exact ih2 _ _ _ _ _ _ _ _ _ _)
   | (with_reducible exact impl_SparseOf.mono _ _ _)
   | (with_reducible exact laws_eqIntS.mono _ _ _)
   | (with_reducible exact laws_eqSparse.mono _ _ _ _ _ _ _ _ _ _ _ _ _ _ _ _ _)
   | (with_reducible exact laws_heldSparse.mono _ _ _ _ _ _ _ _ _ _)
   | (with_reducible exact laws_markIntS.mono _ _ _)
   | (with_reducible exact laws_markSparse.mono _ _ _ _ _ _ _ _ _ _)
   | (with_reducible exact laws_toIntS.mono _ _)
   | (with_reducible exact spec_SparseOf.mono _ _ _)
   | (with_reducible exact LeO.refl _)
   | (with_reducible exact LeO.none _)
   | (with_reducible refine LeO.ite ?_ ?_)
   | (with_reducible refine LeO.bind ?_ (fun _ => ?_))
   | exact ih0 _ _ _ _ _ _ _ _ _ _ _ _ _ _ _ _ _ _ _ _ _ _
   | exact ih1 _ _ _ _ _ _ _ _ _ _ _ _ _ _ _ _ _ _ _ _
   | exact ih2 _ _ _ _ _ _ _ _ _ _
   | exact impl_SparseOf.mono _ _ _
   | exact laws_eqIntS.mono _ _ _
   | exact laws_eqSparse.mono _ _ _ _ _ _ _ _ _ _ _ _ _ _ _ _ _
   | exact laws_heldSparse.mono _ _ _ _ _ _ _ _ _ _
   | exact laws_markIntS.mono _ _ _
   | exact laws_markSparse.mono _ _ _ _ _ _ _ _ _ _
   | exact laws_toIntS.mono _ _
   | exact spec_SparseOf.mono _ _ _
   | exact LeO.none _
   | refine LeO.ite ?_ ?_
   | refine LeO.bind ?_ (fun _ => ?_)
theorem laws_FnExactSparseOf.mono : ∀ a0 a1 k, LeO (laws_FnExactSparseOf.f k a0 a1) (laws_FnExactSparseOf.f (k + 1) a0 a1) := by
 intro a0 a1 k
 obtain ⟨ih0, ih1, ih2⟩ := laws_FnExactSparseOf.mono_l k
 unfold laws_FnExactSparseOf.f
 repeat' first
   | (with_reducible exact ih0 _ _ _ _ _ _ _ _ _ _ _ _ _ _ _ _ _ _ _ _ _ _)
   | (with_reducible exact ih1 _ _ _ _ _ _ _ _ _ _ _ _ _ _ _ _ _ _ _ _)
   | (with_reducible exact ih2 _ _ _ _ _ _ _ _ _ _)
   | (with_reducible exact impl_SparseOf.mono _ _ _)
   | (with_reducible exact laws_eqIntS.mono _ _ _)
   | (with_reducible exact laws_eqSparse.mono _ _ _ _ _ _ _ _ _ _ _ _ _ _ _ _ _)
   | (with_reducible exact laws_heldSparse.mono _ _ _ _ _ _ _ _ _ _)
   | (with_reducible exact laws_markIntS.mono _ _ _)
   | (with_reducible exact laws_markSparse.mono _ _ _ _ _ _ _ _ _ _)
   | (with_reducible exact laws_toIntS.mono _ _)
   | (with_reducible exact spec_SparseOf.mono _ _ _)
   | (with_reducible exact LeO.refl _)
   | (with_reducible exact LeO.none _)
   | (with_reducible refine LeO.ite ?_ ?_)
   | (with_reducible refine LeO.bind ?_ (fun _ => ?_))
   | exact ih0 _ _ _ _ _ _ _ _ _ _ _ _ _ _ _ _ _ _ _ _ _ _
   | exact ih1 _ _ _ _ _ _ _ _ _ _ _ _ _ _ _ _ _ _ _ _
   | exact ih2 _ _ _ _ _ _ _ _ _ _
   | exact impl_SparseOf.mono _ _ _
   | exact laws_eqIntS.mono _ _ _
   | exact laws_eqSparse.mono _ _ _ _ _ _ _ _ _ _ _ _ _ _ _ _ _
   | exact laws_heldSparse.mono _ _ _ _ _ _ _ _ _ _
   | exact laws_markIntS.mono _ _ _
   | exact laws_markSparse.mono _ _ _ _ _ _ _ _ _ _
   | exact laws_toIntS.mono _ _
   | exact spec_SparseOf.mono _ _ _
   | exact LeO.none _
   | refine LeO.ite ?_ ?_
   | refine LeO.bind ?_ (fun _ => ?_)
set_option maxHeartbeats 8000000 in
set_option maxRecDepth 100000 in
theorem laws_FnExactSparseOf.calls (k : Nat) (A0 : Option Addr) (c0 : Nat) (l0 : List Int) (a1 : Int) (r : Bool) (w : World) (hr0 : Kd.C (Kd.int .i64) w A0 l0.length l0) (hc0 : l0.length ≤ c0) (hr_ : r = true) (h : laws_FnExactSparseOf.f k l0 a1 = some r) :
  Calls Try.prog 8 #[.slice A0 l0.length c0, .int .i64 a1] w fun e w' => e = .returned (.bool r) ∧ Below w.heap.size w w' := by
 have HRT_ := As.mk hr_
 clear hr_
 have hu51 := Try.underlying51
 have HR0 := As.mk hr0
 have HC0 := As.mk hc0
 clear hr0 hc0
 have HB := As.mk (Below.refl w.heap.size w)
 have H : (if (l0.length : Int) > 1048576 then (some true) else ((laws_toIntS.f k l0).bind fun t291 => ((spec_SparseOf.f k t291 a1).bind fun bt294 => ((laws_toIntS.f k l0).bind fun t308 => ((impl_SparseOf.f k t308 a1).bind fun bt311 => ((laws_eqSparse.f k bt311.1 bt311.2.1 bt311.2.2.1 bt311.2.2.2.1 bt311.2.2.2.2.1 bt311.2.2.2.2.2.1 bt311.2.2.2.2.2.2.1 bt311.2.2.2.2.2.2.2.1 bt294.1 bt294.2.1 bt294.2.2.1 bt294.2.2.2.1 bt294.2.2.2.2.1 bt294.2.2.2.2.2.1 bt294.2.2.2.2.2.2.1 bt294.2.2.2.2.2.2.2.1).bind fun t325 => (if t325 = true then (laws_FnExactSparseOf.j0 k l0 a1 bt294.2.2.2.2.2.2.2.2 t308 bt311.2.2.2.2.2.2.2.2 (bt311.2.2.2.2.2.2.2.2 != bt294.2.2.2.2.2.2.2.2) bt294.1 bt294.2.1 bt294.2.2.1 bt294.2.2.2.1 bt294.2.2.2.2.1 bt294.2.2.2.2.2.1 bt294.2.2.2.2.2.2.1 bt294.2.2.2.2.2.2.2.1 bt311.1 bt311.2.1 bt311.2.2.1 bt311.2.2.2.1 bt311.2.2.2.2.1 bt311.2.2.2.2.2.1 bt311.2.2.2.2.2.2.1 bt311.2.2.2.2.2.2.2.1) else (laws_FnExactSparseOf.j0 k l0 a1 bt294.2.2.2.2.2.2.2.2 t308 bt311.2.2.2.2.2.2.2.2 true bt294.1 bt294.2.1 bt294.2.2.1 bt294.2.2.2.1 bt294.2.2.2.2.1 bt294.2.2.2.2.2.1 bt294.2.2.2.2.2.2.1 bt294.2.2.2.2.2.2.2.1 bt311.1 bt311.2.1 bt311.2.2.1 bt311.2.2.2.1 bt311.2.2.2.2.1 bt311.2.2.2.2.2.1 bt311.2.2.2.2.2.2.1 bt311.2.2.2.2.2.2.2.1)))))))) = some r := h
 clear h
 by_cases c3 : (l0.length : Int) > 1048576
 ·rw [if_pos c3] at H
  have c3b0 : decide (1048576 < (l0.length : Int)) = true := decide_eq_true c3
  have c3b1 : decide (1048576 < l0.length) = true := decide_eq_true (by omega)
  clear c3
  obtain rfl := Option.some.inj H
  go_enter Try.func8, Try.ntmps8
  go_wp2
  go_ret
  exact ⟨by first | rfl | (simp [errW_none, errW_some] <;> rfl) | (simp [*, errW_none, errW_some] <;> rfl), by repeat (first | (with_reducible first | exact HB.out | apply ba | apply bw | apply b1) | exact HB.out)⟩
 ·rw [if_neg c3] at H
  have c3b0 : decide (1048576 < (l0.length : Int)) = false := decide_eq_false c3
  have c3b1 : decide (1048576 < l0.length) = false := decide_eq_false (by omega)
  clear c3
  replace H := Option.bind_eq_some_iff.mp H
  obtain ⟨t291, A40, H⟩ := H
  replace H : ((spec_SparseOf.f k t291 a1).bind fun bt294 => ((laws_toIntS.f k l0).bind fun t308 => ((impl_SparseOf.f k t308 a1).bind fun bt311 => ((laws_eqSparse.f k bt311.1 bt311.2.1 bt311.2.2.1 bt311.2.2.2.1 bt311.2.2.2.2.1 bt311.2.2.2.2.2.1 bt311.2.2.2.2.2.2.1 bt311.2.2.2.2.2.2.2.1 bt294.1 bt294.2.1 bt294.2.2.1 bt294.2.2.2.1 bt294.2.2.2.2.1 bt294.2.2.2.2.2.1 bt294.2.2.2.2.2.2.1 bt294.2.2.2.2.2.2.2.1).bind fun t325 => (if t325 = true then (laws_FnExactSparseOf.j0 k l0 a1 bt294.2.2.2.2.2.2.2.2 t308 bt311.2.2.2.2.2.2.2.2 (bt311.2.2.2.2.2.2.2.2 != bt294.2.2.2.2.2.2.2.2) bt294.1 bt294.2.1 bt294.2.2.1 bt294.2.2.2.1 bt294.2.2.2.2.1 bt294.2.2.2.2.2.1 bt294.2.2.2.2.2.2.1 bt294.2.2.2.2.2.2.2.1 bt311.1 bt311.2.1 bt311.2.2.1 bt311.2.2.2.1 bt311.2.2.2.2.1 bt311.2.2.2.2.2.1 bt311.2.2.2.2.2.2.1 bt311.2.2.2.2.2.2.2.1) else (laws_FnExactSparseOf.j0 k l0 a1 bt294.2.2.2.2.2.2.2.2 t308 bt311.2.2.2.2.2.2.2.2 true bt294.1 bt294.2.1 bt294.2.2.1 bt294.2.2.2.1 bt294.2.2.2.2.1 bt294.2.2.2.2.2.1 bt294.2.2.2.2.2.2.1 bt294.2.2.2.2.2.2.2.1 bt311.1 bt311.2.1 bt311.2.2.1 bt311.2.2.2.1 bt311.2.2.2.2.1 bt311.2.2.2.2.2.1 bt311.2.2.2.2.2.2.1 bt311.2.2.2.2.2.2.2.1)))))) = some r := H
  have A4 := As.mk A40
  clear A40
  replace H := Option.bind_eq_some_iff.mp H
  obtain ⟨⟨t294, t295, t296, t297, t298, t299, t302, t303, t306⟩, A50, H⟩ := H
  replace H : ((laws_toIntS.f k l0).bind fun t308 => ((impl_SparseOf.f k t308 a1).bind fun bt311 => ((laws_eqSparse.f k bt311.1 bt311.2.1 bt311.2.2.1 bt311.2.2.2.1 bt311.2.2.2.2.1 bt311.2.2.2.2.2.1 bt311.2.2.2.2.2.2.1 bt311.2.2.2.2.2.2.2.1 t294 t295 t296 t297 t298 t299 t302 t303).bind fun t325 => (if t325 = true then (laws_FnExactSparseOf.j0 k l0 a1 t306 t308 bt311.2.2.2.2.2.2.2.2 (bt311.2.2.2.2.2.2.2.2 != t306) t294 t295 t296 t297 t298 t299 t302 t303 bt311.1 bt311.2.1 bt311.2.2.1 bt311.2.2.2.1 bt311.2.2.2.2.1 bt311.2.2.2.2.2.1 bt311.2.2.2.2.2.2.1 bt311.2.2.2.2.2.2.2.1) else (laws_FnExactSparseOf.j0 k l0 a1 t306 t308 bt311.2.2.2.2.2.2.2.2 true t294 t295 t296 t297 t298 t299 t302 t303 bt311.1 bt311.2.1 bt311.2.2.1 bt311.2.2.2.1 bt311.2.2.2.2.1 bt311.2.2.2.2.2.1 bt311.2.2.2.2.2.2.1 bt311.2.2.2.2.2.2.2.1))))) = some r := H
  have A5 := As.mk A50
  clear A50
  replace H := Option.bind_eq_some_iff.mp H
  obtain ⟨t308, A60, H⟩ := H
  replace H : ((impl_SparseOf.f k t308 a1).bind fun bt311 => ((laws_eqSparse.f k bt311.1 bt311.2.1 bt311.2.2.1 bt311.2.2.2.1 bt311.2.2.2.2.1 bt311.2.2.2.2.2.1 bt311.2.2.2.2.2.2.1 bt311.2.2.2.2.2.2.2.1 t294 t295 t296 t297 t298 t299 t302 t303).bind fun t325 => (if t325 = true then (laws_FnExactSparseOf.j0 k l0 a1 t306 t308 bt311.2.2.2.2.2.2.2.2 (bt311.2.2.2.2.2.2.2.2 != t306) t294 t295 t296 t297 t298 t299 t302 t303 bt311.1 bt311.2.1 bt311.2.2.1 bt311.2.2.2.1 bt311.2.2.2.2.1 bt311.2.2.2.2.2.1 bt311.2.2.2.2.2.2.1 bt311.2.2.2.2.2.2.2.1) else (laws_FnExactSparseOf.j0 k l0 a1 t306 t308 bt311.2.2.2.2.2.2.2.2 true t294 t295 t296 t297 t298 t299 t302 t303 bt311.1 bt311.2.1 bt311.2.2.1 bt311.2.2.2.1 bt311.2.2.2.2.1 bt311.2.2.2.2.2.1 bt311.2.2.2.2.2.2.1 bt311.2.2.2.2.2.2.2.1)))) = some r := H
  have A6 := As.mk A60
  clear A60
  replace H := Option.bind_eq_some_iff.mp H
  obtain ⟨⟨t311, t312, t313, t314, t315, t316, t319, t320, t323⟩, A70, H⟩ := H
  replace H : ((laws_eqSparse.f k t311 t312 t313 t314 t315 t316 t319 t320 t294 t295 t296 t297 t298 t299 t302 t303).bind fun t325 => (if t325 = true then (laws_FnExactSparseOf.j0 k l0 a1 t306 t308 t323 (t323 != t306) t294 t295 t296 t297 t298 t299 t302 t303 t311 t312 t313 t314 t315 t316 t319 t320) else (laws_FnExactSparseOf.j0 k l0 a1 t306 t308 t323 true t294 t295 t296 t297 t298 t299 t302 t303 t311 t312 t313 t314 t315 t316 t319 t320))) = some r := H
  have A7 := As.mk A70
  clear A70
  have HC8 := As.mk H
  clear H
  go_enter Try.func8, Try.ntmps8
  go_upto_region 6 with (first | ((with_reducible refine gc (f := 18) rfl ?_); refine goesL_ (some 20) rfl rfl Try.func18 (by kernel_rfl) rfl #[.slice A0 l0.length c0] rfl (by (try simp only [List.map_toArray, List.map_cons, List.map_nil]); first | done | rfl | (simp only [List.length_drop, List.length_take]; rfl)) ?_; (with_reducible refine (laws_toIntS.calls k _ _ l0 t291 _ ?side1 ?side2 A4.out).mono ?_); (case side1 => repeat (first | exact HR0.out | (with_reducible refine cA ?_ _) | (with_reducible refine cN ?_ _) | (with_reducible refine cD ?_))); (case side2 => exact HC0.out); rintro e w9 ⟨v292, rfl, ho0, hb⟩; refine ⟨_, rfl, ?_⟩; have n0_ := As.mk (rL ho0 (bz (by repeat (first | (with_reducible first | exact HB.out | apply ba | apply bw | apply b1) | exact HB.out)))); have n1_ := As.mk (bt (by repeat (first | (with_reducible first | exact HB.out | apply ba | apply bw | apply b1) | exact HB.out)) hb); clear HB; have HO293 := n0_; have HB := n1_; clear n0_ n1_; (try clear hb); (try clear hb2); (try clear hk); (try clear hi); (try clear ho0); obtain ⟨Ao10, co10, eo10⟩ := rS HO293.out; subst eo10) | ((with_reducible refine gc (f := 31) rfl ?_); refine goesL_ (some 22) rfl rfl Try.func31 (by kernel_rfl) rfl #[.slice Ao10 t291.length co10, .int .i64 a1] rfl (by (try simp only [List.map_toArray, List.map_cons, List.map_nil]); first | done | rfl | (simp only [List.length_drop, List.length_take]; rfl)) ?_; (with_reducible refine (spec_SparseOf.calls k _ _ t291 a1 t294 t295 t296 t297 t298 t299 t302 t303 t306 _ ?side1 ?side2 A5.out).mono ?_); (case side1 => repeat (first | exact (rR HO293.out).2.2 | (with_reducible refine cA ?_ _) | (with_reducible refine cN ?_ _) | (with_reducible refine cD ?_))); (case side2 => exact (rR HO293.out).2.1); rintro e w11 ⟨v300, v304, rfl, ho0, ho1, hb⟩; refine ⟨_, rfl, ?_⟩; have n0_ := As.mk (rB (by (with_reducible repeat first | apply rA | apply rN | apply rD); exact HO293.out) hb); have n1_ := As.mk (rL ho0 (bz (by repeat (first | (with_reducible first | exact HB.out | apply ba | apply bw | apply b1) | exact HB.out)))); have n2_ := As.mk (rL ho1 (bz (by repeat (first | (with_reducible first | exact HB.out | apply ba | apply bw | apply b1) | exact HB.out)))); have n3_ := As.mk (bt (by repeat (first | (with_reducible first | exact HB.out | apply ba | apply bw | apply b1) | exact HB.out)) hb); clear HO293; clear HB; have HO293 := n0_; have HO301 := n1_; have HO305 := n2_; have HB := n3_; clear n0_ n1_ n2_ n3_; (try clear hb); (try clear hb2); (try clear hk); (try clear hi); (try clear ho0); (try clear ho1)) | ((with_reducible refine gd (N := 5) rfl ?_); refine box_event ?hg (N := 5) ?hd (cs := #[.int .i64 0, .int .i64 0, .int .i64 0, .int .i64 0, .int .i64 0, .slice none 0 0, .int .i64 0, .slice none 0 0]) (t := 51) ?hr ?_; (case hd => rfl); (case hg => rfl); (case hr => first | (go_simp; done) | (go_simp; rfl)); intro gb307 hg w12 hbox hb; have n0_ := As.mk (rB (by (with_reducible repeat first | apply rA | apply rN | apply rD); exact HO293.out) hb); have n1_ := As.mk (rB (by (with_reducible repeat first | apply rA | apply rN | apply rD); exact HO301.out) hb); have n2_ := As.mk (rB (by (with_reducible repeat first | apply rA | apply rN | apply rD); exact HO305.out) hb); have n3_ := As.mk (bt (by repeat (first | (with_reducible first | exact HB.out | apply ba | apply bw | apply b1) | exact HB.out)) hb); have n4_ := As.mk (hbox); have n5_ := As.mk ((by rw [hg]; exact (bz (by repeat (first | (with_reducible first | exact HB.out | apply ba | apply bw | apply b1) | exact HB.out))) : w.heap.size ≤ gb307)); have n6_ := n5_; clear HO293; clear HO301; clear HO305; clear HB; have HO293 := n0_; have HO301 := n1_; have HO305 := n2_; have HB := n3_; have BK307 := n4_; have GW307 := n5_; have GE307 := n6_; clear n0_ n1_ n2_ n3_ n4_ n5_ n6_; clear hb hbox hg; have hcz13_0 : w12.cell? ⟨gb307, 0, none⟩ = some (.int .i64 0) := (blk_cell BK307.out 0).trans rfl; have hcz13_1 : w12.cell? ⟨gb307, 1, none⟩ = some (.int .i64 0) := (blk_cell BK307.out 1).trans rfl; have hcz13_2 : w12.cell? ⟨gb307, 2, none⟩ = some (.int .i64 0) := (blk_cell BK307.out 2).trans rfl; have hcz13_3 : w12.cell? ⟨gb307, 3, none⟩ = some (.int .i64 0) := (blk_cell BK307.out 3).trans rfl; have hcz13_4 : w12.cell? ⟨gb307, 4, none⟩ = some (.int .i64 0) := (blk_cell BK307.out 4).trans rfl; have hcz13_5 : w12.cell? ⟨gb307, 5, none⟩ = some (.slice none 0 0) := (blk_cell BK307.out 5).trans rfl; have hcz13_6 : w12.cell? ⟨gb307, 6, none⟩ = some (.int .i64 0) := (blk_cell BK307.out 6).trans rfl; have hcz13_7 : w12.cell? ⟨gb307, 7, none⟩ = some (.slice none 0 0) := (blk_cell BK307.out 7).trans rfl; have hfz13_0 := blk_frozen BK307.out 0; have hfz13_1 := blk_frozen BK307.out 1; have hfz13_2 := blk_frozen BK307.out 2; have hfz13_3 := blk_frozen BK307.out 3; have hfz13_4 := blk_frozen BK307.out 4; have hfz13_5 := blk_frozen BK307.out 5; have hfz13_6 := blk_frozen BK307.out 6; have hfz13_7 := blk_frozen BK307.out 7; obtain ⟨Ao14, co14, eo14⟩ := rS HO301.out; subst eo14; obtain ⟨Ao15, co15, eo15⟩ := rS HO305.out; subst eo15) | ((with_reducible refine gc (f := 18) rfl ?_); refine goesL_ (some 26) rfl rfl Try.func18 (by kernel_rfl) rfl #[.slice A0 l0.length c0] rfl (by (try simp only [List.map_toArray, List.map_cons, List.map_nil]); first | done | rfl | (simp only [List.length_drop, List.length_take]; rfl)) ?_; (with_reducible refine (laws_toIntS.calls k _ _ l0 t308 _ ?side1 ?side2 A6.out).mono ?_); (case side1 => exact cB HR0.out (by repeat (first | (with_reducible first | exact HB.out | apply ba | apply bw | apply b1 | refine bs ?_ GE307.out) | exact HB.out))); (case side2 => exact HC0.out); rintro e w16 ⟨v309, rfl, ho0, hb⟩; refine ⟨_, rfl, ?_⟩; have n0_ := As.mk (rE (by (with_reducible repeat first | apply rA | apply rN | apply rD); exact (Kd.R_mono (Kd.R_far (p := ⟨gb307, 7, none⟩) (Kd.R_far (p := ⟨gb307, 6, none⟩) (Kd.R_far (p := ⟨gb307, 5, none⟩) (Kd.R_far (p := ⟨gb307, 4, none⟩) (Kd.R_far (p := ⟨gb307, 3, none⟩) (Kd.R_far (p := ⟨gb307, 2, none⟩) (Kd.R_far (p := ⟨gb307, 1, none⟩) (Kd.R_far (p := ⟨gb307, 0, none⟩) (Kd.R_types HO293.out BK307.out (by decide)) (fun _ hk => hk.2) (.int .i64 t294)) (fun _ hk => hk.2) (.int .i64 t295)) (fun _ hk => hk.2) (.int .i64 t296)) (fun _ hk => hk.2) (.int .i64 t297)) (fun _ hk => hk.2) (.int .i64 t298)) (fun _ hk => hk.2) (.slice Ao14 t299.length co14)) (fun _ hk => hk.2) (.int .i64 t302)) (fun _ hk => hk.2) (.slice Ao15 t303.length co15)) (fun _ h_ => h_.1))) (Kd.R_base ho0) hb); have n1_ := As.mk (rB (by (with_reducible repeat first | apply rA | apply rN | apply rD); exact (Kd.R_mono (Kd.R_far (p := ⟨gb307, 7, none⟩) (Kd.R_far (p := ⟨gb307, 6, none⟩) (Kd.R_far (p := ⟨gb307, 5, none⟩) (Kd.R_far (p := ⟨gb307, 4, none⟩) (Kd.R_far (p := ⟨gb307, 3, none⟩) (Kd.R_far (p := ⟨gb307, 2, none⟩) (Kd.R_far (p := ⟨gb307, 1, none⟩) (Kd.R_far (p := ⟨gb307, 0, none⟩) (Kd.R_types HO301.out BK307.out (by decide)) (fun _ hk => hk.2) (.int .i64 t294)) (fun _ hk => hk.2) (.int .i64 t295)) (fun _ hk => hk.2) (.int .i64 t296)) (fun _ hk => hk.2) (.int .i64 t297)) (fun _ hk => hk.2) (.int .i64 t298)) (fun _ hk => hk.2) (.slice Ao14 t299.length co14)) (fun _ hk => hk.2) (.int .i64 t302)) (fun _ hk => hk.2) (.slice Ao15 t303.length co15)) (fun _ h_ => h_.1))) hb); have n2_ := As.mk (rB (by (with_reducible repeat first | apply rA | apply rN | apply rD); exact (Kd.R_mono (Kd.R_far (p := ⟨gb307, 7, none⟩) (Kd.R_far (p := ⟨gb307, 6, none⟩) (Kd.R_far (p := ⟨gb307, 5, none⟩) (Kd.R_far (p := ⟨gb307, 4, none⟩) (Kd.R_far (p := ⟨gb307, 3, none⟩) (Kd.R_far (p := ⟨gb307, 2, none⟩) (Kd.R_far (p := ⟨gb307, 1, none⟩) (Kd.R_far (p := ⟨gb307, 0, none⟩) (Kd.R_types HO305.out BK307.out (by decide)) (fun _ hk => hk.2) (.int .i64 t294)) (fun _ hk => hk.2) (.int .i64 t295)) (fun _ hk => hk.2) (.int .i64 t296)) (fun _ hk => hk.2) (.int .i64 t297)) (fun _ hk => hk.2) (.int .i64 t298)) (fun _ hk => hk.2) (.slice Ao14 t299.length co14)) (fun _ hk => hk.2) (.int .i64 t302)) (fun _ hk => hk.2) (.slice Ao15 t303.length co15)) (fun _ h_ => h_.1))) hb); have n3_ := As.mk (rL (rW ho0 (Kd.R_lt (by (with_reducible repeat first | apply rA | apply rN | apply rD); exact (Kd.R_mono (Kd.R_far (p := ⟨gb307, 7, none⟩) (Kd.R_far (p := ⟨gb307, 6, none⟩) (Kd.R_far (p := ⟨gb307, 5, none⟩) (Kd.R_far (p := ⟨gb307, 4, none⟩) (Kd.R_far (p := ⟨gb307, 3, none⟩) (Kd.R_far (p := ⟨gb307, 2, none⟩) (Kd.R_far (p := ⟨gb307, 1, none⟩) (Kd.R_far (p := ⟨gb307, 0, none⟩) (Kd.R_types HO293.out BK307.out (by decide)) (fun _ hk => hk.2) (.int .i64 t294)) (fun _ hk => hk.2) (.int .i64 t295)) (fun _ hk => hk.2) (.int .i64 t296)) (fun _ hk => hk.2) (.int .i64 t297)) (fun _ hk => hk.2) (.int .i64 t298)) (fun _ hk => hk.2) (.slice Ao14 t299.length co14)) (fun _ hk => hk.2) (.int .i64 t302)) (fun _ hk => hk.2) (.slice Ao15 t303.length co15)) (fun _ h_ => h_.1))))) (bz (by repeat (first | (with_reducible first | exact HB.out | apply ba | apply bw | apply b1 | refine bs ?_ GE307.out) | exact HB.out)))); have n4_ := As.mk (bb (g := gb307) (o := .cells #[.int .i64 t294, .int .i64 t295, .int .i64 t296, .int .i64 t297, .int .i64 t298, .slice Ao14 t299.length co14, .int .i64 t302, .slice Ao15 t303.length co15] 51 (0, 0)) (by (with_reducible repeat first | apply bN | apply bD | apply bA); refine blk_put (cs := #[.int .i64 t294, .int .i64 t295, .int .i64 t296, .int .i64 t297, .int .i64 t298, .slice Ao14 t299.length co14, .int .i64 t302, .slice none 0 0]) ?_ 7 _ rfl; (with_reducible repeat first | apply bN | apply bD | apply bA); refine blk_put (cs := #[.int .i64 t294, .int .i64 t295, .int .i64 t296, .int .i64 t297, .int .i64 t298, .slice Ao14 t299.length co14, .int .i64 0, .slice none 0 0]) ?_ 6 _ rfl; (with_reducible repeat first | apply bN | apply bD | apply bA); refine blk_put (cs := #[.int .i64 t294, .int .i64 t295, .int .i64 t296, .int .i64 t297, .int .i64 t298, .slice none 0 0, .int .i64 0, .slice none 0 0]) ?_ 5 _ rfl; (with_reducible repeat first | apply bN | apply bD | apply bA); refine blk_put (cs := #[.int .i64 t294, .int .i64 t295, .int .i64 t296, .int .i64 t297, .int .i64 0, .slice none 0 0, .int .i64 0, .slice none 0 0]) ?_ 4 _ rfl; (with_reducible repeat first | apply bN | apply bD | apply bA); refine blk_put (cs := #[.int .i64 t294, .int .i64 t295, .int .i64 t296, .int .i64 0, .int .i64 0, .slice none 0 0, .int .i64 0, .slice none 0 0]) ?_ 3 _ rfl; (with_reducible repeat first | apply bN | apply bD | apply bA); refine blk_put (cs := #[.int .i64 t294, .int .i64 t295, .int .i64 0, .int .i64 0, .int .i64 0, .slice none 0 0, .int .i64 0, .slice none 0 0]) ?_ 2 _ rfl; (with_reducible repeat first | apply bN | apply bD | apply bA); refine blk_put (cs := #[.int .i64 t294, .int .i64 0, .int .i64 0, .int .i64 0, .int .i64 0, .slice none 0 0, .int .i64 0, .slice none 0 0]) ?_ 1 _ rfl; (with_reducible repeat first | apply bN | apply bD | apply bA); refine blk_put (cs := #[.int .i64 0, .int .i64 0, .int .i64 0, .int .i64 0, .int .i64 0, .slice none 0 0, .int .i64 0, .slice none 0 0]) ?_ 0 _ rfl; (with_reducible repeat first | apply bN | apply bD | apply bA); exact BK307.out) hb); have n5_ := As.mk (bt (by repeat (first | (with_reducible first | exact HB.out | apply ba | apply bw | apply b1 | refine bs ?_ GE307.out) | exact HB.out)) hb); clear HO293; clear HO301; clear HO305; clear BK307; clear HB; have HO293 := n0_; have HO301 := n1_; have HO305 := n2_; have HO310 := n3_; have BK307 := n4_; have HB := n5_; clear n0_ n1_ n2_ n3_ n4_ n5_; (try clear hb); (try clear hb2); (try clear hk); (try clear hi); (try clear ho0); obtain ⟨Ao17, co17, eo17⟩ := rS HO310.out; subst eo17) | ((with_reducible refine gc (f := 32) rfl ?_); refine goesL_ (some 30) rfl rfl Try.func32 (by kernel_rfl) rfl #[.slice Ao17 t308.length co17, .int .i64 a1] rfl (by (try simp only [List.map_toArray, List.map_cons, List.map_nil]); first | done | rfl | (simp only [List.length_drop, List.length_take]; rfl)) ?_; (with_reducible refine (impl_SparseOf.calls k _ _ t308 a1 t311 t312 t313 t314 t315 t316 t319 t320 t323 _ ?side1 ?side2 A7.out).mono ?_); (case side1 => repeat (first | exact (rR HO310.out).2.2 | (with_reducible refine cA ?_ _) | (with_reducible refine cN ?_ _) | (with_reducible refine cD ?_))); (case side2 => exact (rR HO310.out).2.1); rintro e w18 ⟨v317, v321, rfl, ho0, ho1, hb⟩; refine ⟨_, rfl, ?_⟩; have n0_ := As.mk (rB (by (with_reducible repeat first | apply rA | apply rN | apply rD); exact HO293.out) hb); have n1_ := As.mk (Kd.R_mono (Kd.R_told (Kd.R_told (Kd.R_old (by (with_reducible repeat first | apply rA | apply rN | apply rD); exact HO301.out) hb) (Kd.R_base ho0)) (Kd.R_base ho1)) (fun _ h_ => h_.1)); have n2_ := As.mk (Kd.R_mono (Kd.R_told (Kd.R_told (Kd.R_old (by (with_reducible repeat first | apply rA | apply rN | apply rD); exact HO305.out) hb) (Kd.R_base ho0)) (Kd.R_base ho1)) (fun _ h_ => h_.1)); have n3_ := As.mk (rB (by (with_reducible repeat first | apply rA | apply rN | apply rD); exact HO310.out) hb); have n4_ := As.mk (rL (rW (rW ho0 (Kd.R_lt (by (with_reducible repeat first | apply rA | apply rN | apply rD); exact HO301.out))) (Kd.R_lt (by (with_reducible repeat first | apply rA | apply rN | apply rD); exact HO305.out))) (bz (by repeat (first | (with_reducible first | exact HB.out | apply ba | apply bw | apply b1 | refine bs ?_ GE307.out) | exact HB.out)))); have n5_ := As.mk (rL (rW (rW ho1 (Kd.R_lt (by (with_reducible repeat first | apply rA | apply rN | apply rD); exact HO301.out))) (Kd.R_lt (by (with_reducible repeat first | apply rA | apply rN | apply rD); exact HO305.out))) (bz (by repeat (first | (with_reducible first | exact HB.out | apply ba | apply bw | apply b1 | refine bs ?_ GE307.out) | exact HB.out)))); have n6_ := As.mk (bb (g := gb307) (o := .cells #[.int .i64 t294, .int .i64 t295, .int .i64 t296, .int .i64 t297, .int .i64 t298, .slice Ao14 t299.length co14, .int .i64 t302, .slice Ao15 t303.length co15] 51 (0, 0)) (by (with_reducible repeat first | apply bN | apply bD | apply bA); exact BK307.out) hb); have n7_ := As.mk (bt (by repeat (first | (with_reducible first | exact HB.out | apply ba | apply bw | apply b1 | refine bs ?_ GE307.out) | exact HB.out)) hb); clear HO293; clear HO301; clear HO305; clear HO310; clear BK307; clear HB; have HO293 := n0_; have HO301 := n1_; have HO305 := n2_; have HO310 := n3_; have HO318 := n4_; have HO322 := n5_; have BK307 := n6_; have HB := n7_; clear n0_ n1_ n2_ n3_ n4_ n5_ n6_ n7_; (try clear hb); (try clear hb2); (try clear hk); (try clear hi); (try clear ho0); (try clear ho1)) | ((with_reducible refine gd (N := 8) rfl ?_); refine box_event ?hg (N := 8) ?hd (cs := #[.int .i64 0, .int .i64 0, .int .i64 0, .int .i64 0, .int .i64 0, .slice none 0 0, .int .i64 0, .slice none 0 0]) (t := 51) ?hr ?_; (case hd => rfl); (case hg => rfl); (case hr => first | (go_simp; done) | (go_simp; rfl)); intro gb324 hg w19 hbox hb; have n0_ := As.mk (rB (by (with_reducible repeat first | apply rA | apply rN | apply rD); exact HO293.out) hb); have n1_ := As.mk (rB (by (with_reducible repeat first | apply rA | apply rN | apply rD); exact HO301.out) hb); have n2_ := As.mk (rB (by (with_reducible repeat first | apply rA | apply rN | apply rD); exact HO305.out) hb); have n3_ := As.mk (rB (by (with_reducible repeat first | apply rA | apply rN | apply rD); exact HO310.out) hb); have n4_ := As.mk (rB (by (with_reducible repeat first | apply rA | apply rN | apply rD); exact HO318.out) hb); have n5_ := As.mk (rB (by (with_reducible repeat first | apply rA | apply rN | apply rD); exact HO322.out) hb); have n6_ := As.mk (bb (g := gb307) (o := .cells #[.int .i64 t294, .int .i64 t295, .int .i64 t296, .int .i64 t297, .int .i64 t298, .slice Ao14 t299.length co14, .int .i64 t302, .slice Ao15 t303.length co15] 51 (0, 0)) (by (with_reducible repeat first | apply bN | apply bD | apply bA); exact BK307.out) hb); have n7_ := As.mk (bt (by repeat (first | (with_reducible first | exact HB.out | apply ba | apply bw | apply b1 | refine bs ?_ GE307.out) | exact HB.out)) hb); have n8_ := As.mk (hbox); have n9_ := As.mk ((by rw [hg]; exact (bz (by repeat (first | (with_reducible first | exact HB.out | apply ba | apply bw | apply b1 | refine bs ?_ GE307.out) | exact HB.out))) : w.heap.size ≤ gb324)); have n10_ := n9_; have n11_ := As.mk ((by rw [hg]; exact Nat.ne_of_lt (blk_lt (g := gb307) (o := .cells #[.int .i64 t294, .int .i64 t295, .int .i64 t296, .int .i64 t297, .int .i64 t298, .slice Ao14 t299.length co14, .int .i64 t302, .slice Ao15 t303.length co15] 51 (0, 0)) (by (with_reducible repeat first | apply bN | apply bD | apply bA); exact BK307.out)) : gb307 ≠ gb324)); have n12_ := As.mk n11_.out.symm; clear HO293; clear HO301; clear HO305; clear HO310; clear HO318; clear HO322; clear BK307; clear HB; have HO293 := n0_; have HO301 := n1_; have HO305 := n2_; have HO310 := n3_; have HO318 := n4_; have HO322 := n5_; have BK307 := n6_; have HB := n7_; have BK324 := n8_; have GW324 := n9_; have GE324 := n10_; have NB307_324 := n11_; have NB324_307 := n12_; clear n0_ n1_ n2_ n3_ n4_ n5_ n6_ n7_ n8_ n9_ n10_ n11_ n12_; clear hb hbox hg; have hnb20 := NB324_307.out; have hnc20 := NB307_324.out; have hcz21_0 : w19.cell? ⟨gb324, 0, none⟩ = some (.int .i64 0) := (blk_cell BK324.out 0).trans rfl; have hcz21_1 : w19.cell? ⟨gb324, 1, none⟩ = some (.int .i64 0) := (blk_cell BK324.out 1).trans rfl; have hcz21_2 : w19.cell? ⟨gb324, 2, none⟩ = some (.int .i64 0) := (blk_cell BK324.out 2).trans rfl; have hcz21_3 : w19.cell? ⟨gb324, 3, none⟩ = some (.int .i64 0) := (blk_cell BK324.out 3).trans rfl; have hcz21_4 : w19.cell? ⟨gb324, 4, none⟩ = some (.int .i64 0) := (blk_cell BK324.out 4).trans rfl; have hcz21_5 : w19.cell? ⟨gb324, 5, none⟩ = some (.slice none 0 0) := (blk_cell BK324.out 5).trans rfl; have hcz21_6 : w19.cell? ⟨gb324, 6, none⟩ = some (.int .i64 0) := (blk_cell BK324.out 6).trans rfl; have hcz21_7 : w19.cell? ⟨gb324, 7, none⟩ = some (.slice none 0 0) := (blk_cell BK324.out 7).trans rfl; have hfz21_0 := blk_frozen BK324.out 0; have hfz21_1 := blk_frozen BK324.out 1; have hfz21_2 := blk_frozen BK324.out 2; have hfz21_3 := blk_frozen BK324.out 3; have hfz21_4 := blk_frozen BK324.out 4; have hfz21_5 := blk_frozen BK324.out 5; have hfz21_6 := blk_frozen BK324.out 6; have hfz21_7 := blk_frozen BK324.out 7; obtain ⟨Ao22, co22, eo22⟩ := rS HO318.out; subst eo22; obtain ⟨Ao23, co23, eo23⟩ := rS HO322.out; subst eo23))
  (try simp only [Act.put, List.setIfInBounds_toArray, List.set_cons_zero, List.set_cons_succ])
  go_cut [41] (fun v41 wc => ∃ (kq : Nat) (x41_7 : Bool), v41 = .bool x41_7 ∧ As (laws_FnExactSparseOf.j0 kq l0 a1 t306 t308 t323 x41_7 t294 t295 t296 t297 t298 t299 t302 t303 t311 t312 t313 t314 t315 t316 t319 t320 = some r) ∧ As (kq ≤ k) ∧ As (Kd.R (Kd.int .i64) 3 wc w.heap.size (fun _ => True) (.slice Ao17 t308.length co17) t308) ∧ As (Kd.R (Kd.int .u64) 86 wc w.heap.size (fun k_ => some k_ ≠ ((.slice Ao15 t303.length co15) : Value).ownBlock ∧ some k_ ≠ ((.slice Ao22 t316.length co22) : Value).ownBlock ∧ some k_ ≠ ((.slice Ao23 t320.length co23) : Value).ownBlock) (.slice Ao14 t299.length co14) t299) ∧ As (Kd.R (Kd.int .u64) 86 wc w.heap.size (fun k_ => some k_ ≠ ((.slice Ao14 t299.length co14) : Value).ownBlock ∧ some k_ ≠ ((.slice Ao22 t316.length co22) : Value).ownBlock ∧ some k_ ≠ ((.slice Ao23 t320.length co23) : Value).ownBlock) (.slice Ao15 t303.length co15) t303) ∧ As (Kd.R (Kd.int .u64) 86 wc w.heap.size (fun k_ => some k_ ≠ ((.slice Ao14 t299.length co14) : Value).ownBlock ∧ some k_ ≠ ((.slice Ao15 t303.length co15) : Value).ownBlock ∧ some k_ ≠ ((.slice Ao23 t320.length co23) : Value).ownBlock) (.slice Ao22 t316.length co22) t316) ∧ As (Kd.R (Kd.int .u64) 86 wc w.heap.size (fun k_ => some k_ ≠ ((.slice Ao14 t299.length co14) : Value).ownBlock ∧ some k_ ≠ ((.slice Ao15 t303.length co15) : Value).ownBlock ∧ some k_ ≠ ((.slice Ao22 t316.length co22) : Value).ownBlock) (.slice Ao23 t320.length co23) t320) ∧ As (wc.heap[gb307]? = some (.cells #[.int .i64 t294, .int .i64 t295, .int .i64 t296, .int .i64 t297, .int .i64 t298, (.slice Ao14 t299.length co14), .int .i64 t302, (.slice Ao15 t303.length co15)] 51 (0, 0))) ∧ As (wc.heap[gb324]? = some (.cells #[.int .i64 t311, .int .i64 t312, .int .i64 t313, .int .i64 t314, .int .i64 t315, (.slice Ao22 t316.length co22), .int .i64 t319, (.slice Ao23 t320.length co23)] 51 (0, 0))) ∧ As (Below w.heap.size w wc))
  case first =>
   have H := HC8.out
   clear HC8
   replace H := Option.bind_eq_some_iff.mp H
   obtain ⟨t325, A240, H⟩ := H
   replace H : (if t325 = true then (laws_FnExactSparseOf.j0 k l0 a1 t306 t308 t323 (t323 != t306) t294 t295 t296 t297 t298 t299 t302 t303 t311 t312 t313 t314 t315 t316 t319 t320) else (laws_FnExactSparseOf.j0 k l0 a1 t306 t308 t323 true t294 t295 t296 t297 t298 t299 t302 t303 t311 t312 t313 t314 t315 t316 t319 t320)) = some r := H
   have A24 := As.mk A240
   clear A240
   by_cases c25 : t325 = true
   ·subst c25
    have H1 : (laws_FnExactSparseOf.j0 k l0 a1 t306 t308 t323 (t323 != t306) t294 t295 t296 t297 t298 t299 t302 t303 t311 t312 t313 t314 t315 t316 t319 t320) = some r := by rw [if_pos rfl] at H; exact H
    clear H
    have H := H1
    clear H1
    have H' := As.mk H
    clear H
    have hnb26 := NB324_307.out
    have hnc26 := NB307_324.out
    have hcz27_0 : w19.cell? ⟨gb324, 0, none⟩ = some (.int .i64 0) := (blk_cell BK324.out 0).trans rfl
    have hcz27_1 : w19.cell? ⟨gb324, 1, none⟩ = some (.int .i64 0) := (blk_cell BK324.out 1).trans rfl
    have hcz27_2 : w19.cell? ⟨gb324, 2, none⟩ = some (.int .i64 0) := (blk_cell BK324.out 2).trans rfl
    have hcz27_3 : w19.cell? ⟨gb324, 3, none⟩ = some (.int .i64 0) := (blk_cell BK324.out 3).trans rfl
    have hcz27_4 : w19.cell? ⟨gb324, 4, none⟩ = some (.int .i64 0) := (blk_cell BK324.out 4).trans rfl
    have hcz27_5 : w19.cell? ⟨gb324, 5, none⟩ = some (.slice none 0 0) := (blk_cell BK324.out 5).trans rfl
    have hcz27_6 : w19.cell? ⟨gb324, 6, none⟩ = some (.int .i64 0) := (blk_cell BK324.out 6).trans rfl
    have hcz27_7 : w19.cell? ⟨gb324, 7, none⟩ = some (.slice none 0 0) := (blk_cell BK324.out 7).trans rfl
    have hfz27_0 := blk_frozen BK324.out 0
    have hfz27_1 := blk_frozen BK324.out 1
    have hfz27_2 := blk_frozen BK324.out 2
    have hfz27_3 := blk_frozen BK324.out 3
    have hfz27_4 := blk_frozen BK324.out 4
    have hfz27_5 := blk_frozen BK324.out 5
    have hfz27_6 := blk_frozen BK324.out 6
    have hfz27_7 := blk_frozen BK324.out 7
    have hcz28_0 : w19.cell? ⟨gb307, 0, none⟩ = some (.int .i64 t294) := (blk_cell BK307.out 0).trans rfl
    have hcz28_1 : w19.cell? ⟨gb307, 1, none⟩ = some (.int .i64 t295) := (blk_cell BK307.out 1).trans rfl
    have hcz28_2 : w19.cell? ⟨gb307, 2, none⟩ = some (.int .i64 t296) := (blk_cell BK307.out 2).trans rfl
    have hcz28_3 : w19.cell? ⟨gb307, 3, none⟩ = some (.int .i64 t297) := (blk_cell BK307.out 3).trans rfl
    have hcz28_4 : w19.cell? ⟨gb307, 4, none⟩ = some (.int .i64 t298) := (blk_cell BK307.out 4).trans rfl
    have hcz28_5 : w19.cell? ⟨gb307, 5, none⟩ = some (.slice Ao14 t299.length co14) := (blk_cell BK307.out 5).trans rfl
    have hcz28_6 : w19.cell? ⟨gb307, 6, none⟩ = some (.int .i64 t302) := (blk_cell BK307.out 6).trans rfl
    have hcz28_7 : w19.cell? ⟨gb307, 7, none⟩ = some (.slice Ao15 t303.length co15) := (blk_cell BK307.out 7).trans rfl
    have hfz28_0 := blk_frozen BK307.out 0
    have hfz28_1 := blk_frozen BK307.out 1
    have hfz28_2 := blk_frozen BK307.out 2
    have hfz28_3 := blk_frozen BK307.out 3
    have hfz28_4 := blk_frozen BK307.out 4
    have hfz28_5 := blk_frozen BK307.out 5
    have hfz28_6 := blk_frozen BK307.out 6
    have hfz28_7 := blk_frozen BK307.out 7
    go_wp2_with (first | ((with_reducible refine gc (f := 33) rfl ?_); refine goesL_ (some 35) rfl rfl Try.func33 (by kernel_rfl) rfl #[.agg #[.int .i64 t311, .int .i64 t312, .int .i64 t313, .int .i64 t314, .int .i64 t315, .slice Ao22 t316.length co22, .int .i64 t319, .slice Ao23 t320.length co23], .agg #[.int .i64 t294, .int .i64 t295, .int .i64 t296, .int .i64 t297, .int .i64 t298, .slice Ao14 t299.length co14, .int .i64 t302, .slice Ao15 t303.length co15]] rfl (by (try simp only [List.map_toArray, List.map_cons, List.map_nil]); first | done | rfl | (simp only [List.length_drop, List.length_take]; rfl)) ?_; (with_reducible refine (laws_eqSparse.calls k t311 t312 t313 t314 t315 _ _ t316 t319 _ _ t320 t294 t295 t296 t297 t298 _ _ t299 t302 _ _ t303 true _ ?side1 ?side2 ?side3 ?side4 ?side5 ?side6 ?side7 ?side8 A24.out).mono ?_); (case side1 => refine (rR (e := 86) (base := w.heap.size) (ok := fun k_ => ((some k_ ≠ (.slice Ao23 t320.length co23 : Value).ownBlock ∧ some k_ ≠ (.slice Ao14 t299.length co14 : Value).ownBlock) ∧ some k_ ≠ (.slice Ao15 t303.length co15 : Value).ownBlock)) (n := t316.length) (c := co22) ?_).2.2; exact (by (with_reducible repeat first | apply rA | apply rN | apply rD); exact (Kd.R_mono (Kd.R_far (p := ⟨gb324, 7, none⟩) (Kd.R_far (p := ⟨gb324, 6, none⟩) (Kd.R_far (p := ⟨gb324, 5, none⟩) (Kd.R_far (p := ⟨gb324, 4, none⟩) (Kd.R_far (p := ⟨gb324, 3, none⟩) (Kd.R_far (p := ⟨gb324, 2, none⟩) (Kd.R_far (p := ⟨gb324, 1, none⟩) (Kd.R_far (p := ⟨gb324, 0, none⟩) (Kd.R_types HO318.out BK324.out (by decide)) (fun _ hk => hk.2) (.int .i64 t311)) (fun _ hk => hk.2) (.int .i64 t312)) (fun _ hk => hk.2) (.int .i64 t313)) (fun _ hk => hk.2) (.int .i64 t314)) (fun _ hk => hk.2) (.int .i64 t315)) (fun _ hk => hk.2) (.slice Ao22 t316.length co22)) (fun _ hk => hk.2) (.int .i64 t319)) (fun _ hk => hk.2) (.slice Ao23 t320.length co23)) (fun _ h_ => h_.1)))); (case side2 => exact (rR HO318.out).2.1); (case side3 => refine (rR (e := 86) (base := w.heap.size) (ok := fun k_ => ((some k_ ≠ (.slice Ao22 t316.length co22 : Value).ownBlock ∧ some k_ ≠ (.slice Ao14 t299.length co14 : Value).ownBlock) ∧ some k_ ≠ (.slice Ao15 t303.length co15 : Value).ownBlock)) (n := t320.length) (c := co23) ?_).2.2; exact (by (with_reducible repeat first | apply rA | apply rN | apply rD); exact (Kd.R_mono (Kd.R_far (p := ⟨gb324, 7, none⟩) (Kd.R_far (p := ⟨gb324, 6, none⟩) (Kd.R_far (p := ⟨gb324, 5, none⟩) (Kd.R_far (p := ⟨gb324, 4, none⟩) (Kd.R_far (p := ⟨gb324, 3, none⟩) (Kd.R_far (p := ⟨gb324, 2, none⟩) (Kd.R_far (p := ⟨gb324, 1, none⟩) (Kd.R_far (p := ⟨gb324, 0, none⟩) (Kd.R_types HO322.out BK324.out (by decide)) (fun _ hk => hk.2) (.int .i64 t311)) (fun _ hk => hk.2) (.int .i64 t312)) (fun _ hk => hk.2) (.int .i64 t313)) (fun _ hk => hk.2) (.int .i64 t314)) (fun _ hk => hk.2) (.int .i64 t315)) (fun _ hk => hk.2) (.slice Ao22 t316.length co22)) (fun _ hk => hk.2) (.int .i64 t319)) (fun _ hk => hk.2) (.slice Ao23 t320.length co23)) (fun _ h_ => h_.1)))); (case side4 => exact (rR HO322.out).2.1); (case side5 => refine (rR (e := 86) (base := w.heap.size) (ok := fun k_ => ((some k_ ≠ (.slice Ao15 t303.length co15 : Value).ownBlock ∧ some k_ ≠ (.slice Ao22 t316.length co22 : Value).ownBlock) ∧ some k_ ≠ (.slice Ao23 t320.length co23 : Value).ownBlock)) (n := t299.length) (c := co14) ?_).2.2; exact (by (with_reducible repeat first | apply rA | apply rN | apply rD); exact (Kd.R_mono (Kd.R_far (p := ⟨gb324, 7, none⟩) (Kd.R_far (p := ⟨gb324, 6, none⟩) (Kd.R_far (p := ⟨gb324, 5, none⟩) (Kd.R_far (p := ⟨gb324, 4, none⟩) (Kd.R_far (p := ⟨gb324, 3, none⟩) (Kd.R_far (p := ⟨gb324, 2, none⟩) (Kd.R_far (p := ⟨gb324, 1, none⟩) (Kd.R_far (p := ⟨gb324, 0, none⟩) (Kd.R_types HO301.out BK324.out (by decide)) (fun _ hk => hk.2) (.int .i64 t311)) (fun _ hk => hk.2) (.int .i64 t312)) (fun _ hk => hk.2) (.int .i64 t313)) (fun _ hk => hk.2) (.int .i64 t314)) (fun _ hk => hk.2) (.int .i64 t315)) (fun _ hk => hk.2) (.slice Ao22 t316.length co22)) (fun _ hk => hk.2) (.int .i64 t319)) (fun _ hk => hk.2) (.slice Ao23 t320.length co23)) (fun _ h_ => h_.1)))); (case side6 => exact (rR HO301.out).2.1); (case side7 => refine (rR (e := 86) (base := w.heap.size) (ok := fun k_ => ((some k_ ≠ (.slice Ao14 t299.length co14 : Value).ownBlock ∧ some k_ ≠ (.slice Ao22 t316.length co22 : Value).ownBlock) ∧ some k_ ≠ (.slice Ao23 t320.length co23 : Value).ownBlock)) (n := t303.length) (c := co15) ?_).2.2; exact (by (with_reducible repeat first | apply rA | apply rN | apply rD); exact (Kd.R_mono (Kd.R_far (p := ⟨gb324, 7, none⟩) (Kd.R_far (p := ⟨gb324, 6, none⟩) (Kd.R_far (p := ⟨gb324, 5, none⟩) (Kd.R_far (p := ⟨gb324, 4, none⟩) (Kd.R_far (p := ⟨gb324, 3, none⟩) (Kd.R_far (p := ⟨gb324, 2, none⟩) (Kd.R_far (p := ⟨gb324, 1, none⟩) (Kd.R_far (p := ⟨gb324, 0, none⟩) (Kd.R_types HO305.out BK324.out (by decide)) (fun _ hk => hk.2) (.int .i64 t311)) (fun _ hk => hk.2) (.int .i64 t312)) (fun _ hk => hk.2) (.int .i64 t313)) (fun _ hk => hk.2) (.int .i64 t314)) (fun _ hk => hk.2) (.int .i64 t315)) (fun _ hk => hk.2) (.slice Ao22 t316.length co22)) (fun _ hk => hk.2) (.int .i64 t319)) (fun _ hk => hk.2) (.slice Ao23 t320.length co23)) (fun _ h_ => h_.1)))); (case side8 => exact (rR HO305.out).2.1); rintro e w29 ⟨rfl, hb⟩; refine ⟨_, rfl, ?_⟩; have n0_ := As.mk (rB (by (with_reducible repeat first | apply rA | apply rN | apply rD); exact (Kd.R_mono (Kd.R_far (p := ⟨gb324, 7, none⟩) (Kd.R_far (p := ⟨gb324, 6, none⟩) (Kd.R_far (p := ⟨gb324, 5, none⟩) (Kd.R_far (p := ⟨gb324, 4, none⟩) (Kd.R_far (p := ⟨gb324, 3, none⟩) (Kd.R_far (p := ⟨gb324, 2, none⟩) (Kd.R_far (p := ⟨gb324, 1, none⟩) (Kd.R_far (p := ⟨gb324, 0, none⟩) (Kd.R_types HO293.out BK324.out (by decide)) (fun _ hk => hk.2) (.int .i64 t311)) (fun _ hk => hk.2) (.int .i64 t312)) (fun _ hk => hk.2) (.int .i64 t313)) (fun _ hk => hk.2) (.int .i64 t314)) (fun _ hk => hk.2) (.int .i64 t315)) (fun _ hk => hk.2) (.slice Ao22 t316.length co22)) (fun _ hk => hk.2) (.int .i64 t319)) (fun _ hk => hk.2) (.slice Ao23 t320.length co23)) (fun _ h_ => h_.1))) hb); have n1_ := As.mk (rB (by (with_reducible repeat first | apply rA | apply rN | apply rD); exact (Kd.R_mono (Kd.R_far (p := ⟨gb324, 7, none⟩) (Kd.R_far (p := ⟨gb324, 6, none⟩) (Kd.R_far (p := ⟨gb324, 5, none⟩) (Kd.R_far (p := ⟨gb324, 4, none⟩) (Kd.R_far (p := ⟨gb324, 3, none⟩) (Kd.R_far (p := ⟨gb324, 2, none⟩) (Kd.R_far (p := ⟨gb324, 1, none⟩) (Kd.R_far (p := ⟨gb324, 0, none⟩) (Kd.R_types HO301.out BK324.out (by decide)) (fun _ hk => hk.2) (.int .i64 t311)) (fun _ hk => hk.2) (.int .i64 t312)) (fun _ hk => hk.2) (.int .i64 t313)) (fun _ hk => hk.2) (.int .i64 t314)) (fun _ hk => hk.2) (.int .i64 t315)) (fun _ hk => hk.2) (.slice Ao22 t316.length co22)) (fun _ hk => hk.2) (.int .i64 t319)) (fun _ hk => hk.2) (.slice Ao23 t320.length co23)) (fun _ h_ => h_.1))) hb); have n2_ := As.mk (rB (by (with_reducible repeat first | apply rA | apply rN | apply rD); exact (Kd.R_mono (Kd.R_far (p := ⟨gb324, 7, none⟩) (Kd.R_far (p := ⟨gb324, 6, none⟩) (Kd.R_far (p := ⟨gb324, 5, none⟩) (Kd.R_far (p := ⟨gb324, 4, none⟩) (Kd.R_far (p := ⟨gb324, 3, none⟩) (Kd.R_far (p := ⟨gb324, 2, none⟩) (Kd.R_far (p := ⟨gb324, 1, none⟩) (Kd.R_far (p := ⟨gb324, 0, none⟩) (Kd.R_types HO305.out BK324.out (by decide)) (fun _ hk => hk.2) (.int .i64 t311)) (fun _ hk => hk.2) (.int .i64 t312)) (fun _ hk => hk.2) (.int .i64 t313)) (fun _ hk => hk.2) (.int .i64 t314)) (fun _ hk => hk.2) (.int .i64 t315)) (fun _ hk => hk.2) (.slice Ao22 t316.length co22)) (fun _ hk => hk.2) (.int .i64 t319)) (fun _ hk => hk.2) (.slice Ao23 t320.length co23)) (fun _ h_ => h_.1))) hb); have n3_ := As.mk (rB (by (with_reducible repeat first | apply rA | apply rN | apply rD); exact (Kd.R_mono (Kd.R_far (p := ⟨gb324, 7, none⟩) (Kd.R_far (p := ⟨gb324, 6, none⟩) (Kd.R_far (p := ⟨gb324, 5, none⟩) (Kd.R_far (p := ⟨gb324, 4, none⟩) (Kd.R_far (p := ⟨gb324, 3, none⟩) (Kd.R_far (p := ⟨gb324, 2, none⟩) (Kd.R_far (p := ⟨gb324, 1, none⟩) (Kd.R_far (p := ⟨gb324, 0, none⟩) (Kd.R_types HO310.out BK324.out (by decide)) (fun _ hk => hk.2) (.int .i64 t311)) (fun _ hk => hk.2) (.int .i64 t312)) (fun _ hk => hk.2) (.int .i64 t313)) (fun _ hk => hk.2) (.int .i64 t314)) (fun _ hk => hk.2) (.int .i64 t315)) (fun _ hk => hk.2) (.slice Ao22 t316.length co22)) (fun _ hk => hk.2) (.int .i64 t319)) (fun _ hk => hk.2) (.slice Ao23 t320.length co23)) (fun _ h_ => h_.1))) hb); have n4_ := As.mk (rB (by (with_reducible repeat first | apply rA | apply rN | apply rD); exact (Kd.R_mono (Kd.R_far (p := ⟨gb324, 7, none⟩) (Kd.R_far (p := ⟨gb324, 6, none⟩) (Kd.R_far (p := ⟨gb324, 5, none⟩) (Kd.R_far (p := ⟨gb324, 4, none⟩) (Kd.R_far (p := ⟨gb324, 3, none⟩) (Kd.R_far (p := ⟨gb324, 2, none⟩) (Kd.R_far (p := ⟨gb324, 1, none⟩) (Kd.R_far (p := ⟨gb324, 0, none⟩) (Kd.R_types HO318.out BK324.out (by decide)) (fun _ hk => hk.2) (.int .i64 t311)) (fun _ hk => hk.2) (.int .i64 t312)) (fun _ hk => hk.2) (.int .i64 t313)) (fun _ hk => hk.2) (.int .i64 t314)) (fun _ hk => hk.2) (.int .i64 t315)) (fun _ hk => hk.2) (.slice Ao22 t316.length co22)) (fun _ hk => hk.2) (.int .i64 t319)) (fun _ hk => hk.2) (.slice Ao23 t320.length co23)) (fun _ h_ => h_.1))) hb); have n5_ := As.mk (rB (by (with_reducible repeat first | apply rA | apply rN | apply rD); exact (Kd.R_mono (Kd.R_far (p := ⟨gb324, 7, none⟩) (Kd.R_far (p := ⟨gb324, 6, none⟩) (Kd.R_far (p := ⟨gb324, 5, none⟩) (Kd.R_far (p := ⟨gb324, 4, none⟩) (Kd.R_far (p := ⟨gb324, 3, none⟩) (Kd.R_far (p := ⟨gb324, 2, none⟩) (Kd.R_far (p := ⟨gb324, 1, none⟩) (Kd.R_far (p := ⟨gb324, 0, none⟩) (Kd.R_types HO322.out BK324.out (by decide)) (fun _ hk => hk.2) (.int .i64 t311)) (fun _ hk => hk.2) (.int .i64 t312)) (fun _ hk => hk.2) (.int .i64 t313)) (fun _ hk => hk.2) (.int .i64 t314)) (fun _ hk => hk.2) (.int .i64 t315)) (fun _ hk => hk.2) (.slice Ao22 t316.length co22)) (fun _ hk => hk.2) (.int .i64 t319)) (fun _ hk => hk.2) (.slice Ao23 t320.length co23)) (fun _ h_ => h_.1))) hb); have n6_ := As.mk (bb (g := gb307) (o := .cells #[.int .i64 t294, .int .i64 t295, .int .i64 t296, .int .i64 t297, .int .i64 t298, .slice Ao14 t299.length co14, .int .i64 t302, .slice Ao15 t303.length co15] 51 (0, 0)) (by (with_reducible repeat first | apply bN | apply bD | apply bA); refine blk_far ?_ NB307_324.out _; (with_reducible repeat first | apply bN | apply bD | apply bA); refine blk_far ?_ NB307_324.out _; (with_reducible repeat first | apply bN | apply bD | apply bA); refine blk_far ?_ NB307_324.out _; (with_reducible repeat first | apply bN | apply bD | apply bA); refine blk_far ?_ NB307_324.out _; (with_reducible repeat first | apply bN | apply bD | apply bA); refine blk_far ?_ NB307_324.out _; (with_reducible repeat first | apply bN | apply bD | apply bA); refine blk_far ?_ NB307_324.out _; (with_reducible repeat first | apply bN | apply bD | apply bA); refine blk_far ?_ NB307_324.out _; (with_reducible repeat first | apply bN | apply bD | apply bA); refine blk_far ?_ NB307_324.out _; (with_reducible repeat first | apply bN | apply bD | apply bA); exact BK307.out) hb); have n7_ := As.mk (bb (g := gb324) (o := .cells #[.int .i64 t311, .int .i64 t312, .int .i64 t313, .int .i64 t314, .int .i64 t315, .slice Ao22 t316.length co22, .int .i64 t319, .slice Ao23 t320.length co23] 51 (0, 0)) (by (with_reducible repeat first | apply bN | apply bD | apply bA); refine blk_put (cs := #[.int .i64 t311, .int .i64 t312, .int .i64 t313, .int .i64 t314, .int .i64 t315, .slice Ao22 t316.length co22, .int .i64 t319, .slice none 0 0]) ?_ 7 _ rfl; (with_reducible repeat first | apply bN | apply bD | apply bA); refine blk_put (cs := #[.int .i64 t311, .int .i64 t312, .int .i64 t313, .int .i64 t314, .int .i64 t315, .slice Ao22 t316.length co22, .int .i64 0, .slice none 0 0]) ?_ 6 _ rfl; (with_reducible repeat first | apply bN | apply bD | apply bA); refine blk_put (cs := #[.int .i64 t311, .int .i64 t312, .int .i64 t313, .int .i64 t314, .int .i64 t315, .slice none 0 0, .int .i64 0, .slice none 0 0]) ?_ 5 _ rfl; (with_reducible repeat first | apply bN | apply bD | apply bA); refine blk_put (cs := #[.int .i64 t311, .int .i64 t312, .int .i64 t313, .int .i64 t314, .int .i64 0, .slice none 0 0, .int .i64 0, .slice none 0 0]) ?_ 4 _ rfl; (with_reducible repeat first | apply bN | apply bD | apply bA); refine blk_put (cs := #[.int .i64 t311, .int .i64 t312, .int .i64 t313, .int .i64 0, .int .i64 0, .slice none 0 0, .int .i64 0, .slice none 0 0]) ?_ 3 _ rfl; (with_reducible repeat first | apply bN | apply bD | apply bA); refine blk_put (cs := #[.int .i64 t311, .int .i64 t312, .int .i64 0, .int .i64 0, .int .i64 0, .slice none 0 0, .int .i64 0, .slice none 0 0]) ?_ 2 _ rfl; (with_reducible repeat first | apply bN | apply bD | apply bA); refine blk_put (cs := #[.int .i64 t311, .int .i64 0, .int .i64 0, .int .i64 0, .int .i64 0, .slice none 0 0, .int .i64 0, .slice none 0 0]) ?_ 1 _ rfl; (with_reducible repeat first | apply bN | apply bD | apply bA); refine blk_put (cs := #[.int .i64 0, .int .i64 0, .int .i64 0, .int .i64 0, .int .i64 0, .slice none 0 0, .int .i64 0, .slice none 0 0]) ?_ 0 _ rfl; (with_reducible repeat first | apply bN | apply bD | apply bA); exact BK324.out) hb); have n8_ := As.mk (bt (by repeat (first | (with_reducible first | exact HB.out | apply ba | apply bw | apply b1 | refine bs ?_ GE307.out | refine bs ?_ GE324.out) | exact HB.out)) hb); clear HO293; clear HO301; clear HO305; clear HO310; clear HO318; clear HO322; clear BK307; clear BK324; clear HB; have HO293 := n0_; have HO301 := n1_; have HO305 := n2_; have HO310 := n3_; have HO318 := n4_; have HO322 := n5_; have BK307 := n6_; have BK324 := n7_; have HB := n8_; clear n0_ n1_ n2_ n3_ n4_ n5_ n6_ n7_ n8_; (try clear hb); (try clear hb2); (try clear hk); (try clear hi)))
    go_meet
    case rel => exact ⟨_, ((t323 != t306)), (by first | rfl | (simp; done) | (simp [*]; done)), H', ⟨by first | omega | exact Nat.le_refl _⟩, ⟨by (with_reducible repeat first | apply rA | apply rN | apply rD); exact Kd.R_mono HO310.out (fun _ hk => trivial)⟩, ⟨by (with_reducible repeat first | apply rA | apply rN | apply rD); exact Kd.R_mono HO301.out (fun _ hk => ⟨hk.1.1, ⟨hk.1.2, hk.2⟩⟩)⟩, ⟨by (with_reducible repeat first | apply rA | apply rN | apply rD); exact Kd.R_mono HO305.out (fun _ hk => ⟨hk.1.1, ⟨hk.1.2, hk.2⟩⟩)⟩, ⟨by (with_reducible repeat first | apply rA | apply rN | apply rD); exact Kd.R_mono HO318.out (fun _ hk => ⟨hk.1.2, ⟨hk.2, hk.1.1⟩⟩)⟩, ⟨by (with_reducible repeat first | apply rA | apply rN | apply rD); exact Kd.R_mono HO322.out (fun _ hk => ⟨hk.1.2, ⟨hk.2, hk.1.1⟩⟩)⟩, ⟨by (with_reducible repeat first | apply bN | apply bD | apply bA); exact BK307.out⟩, ⟨by (with_reducible repeat first | apply bN | apply bD | apply bA); exact BK324.out⟩, ⟨by repeat (first | (with_reducible first | exact HB.out | apply ba | apply bw | apply b1 | refine bs ?_ GE307.out | refine bs ?_ GE324.out) | exact HB.out)⟩⟩
   ·replace c25 := Bool.eq_false_iff.mpr c25
    subst c25
    have H1 : (laws_FnExactSparseOf.j0 k l0 a1 t306 t308 t323 true t294 t295 t296 t297 t298 t299 t302 t303 t311 t312 t313 t314 t315 t316 t319 t320) = some r := by rw [if_neg (show ¬ (false = true) by decide)] at H; exact H
    clear H
    have H := H1
    clear H1
    have H' := As.mk H
    clear H
    have hnb30 := NB324_307.out
    have hnc30 := NB307_324.out
    have hcz31_0 : w19.cell? ⟨gb324, 0, none⟩ = some (.int .i64 0) := (blk_cell BK324.out 0).trans rfl
    have hcz31_1 : w19.cell? ⟨gb324, 1, none⟩ = some (.int .i64 0) := (blk_cell BK324.out 1).trans rfl
    have hcz31_2 : w19.cell? ⟨gb324, 2, none⟩ = some (.int .i64 0) := (blk_cell BK324.out 2).trans rfl
    have hcz31_3 : w19.cell? ⟨gb324, 3, none⟩ = some (.int .i64 0) := (blk_cell BK324.out 3).trans rfl
    have hcz31_4 : w19.cell? ⟨gb324, 4, none⟩ = some (.int .i64 0) := (blk_cell BK324.out 4).trans rfl
    have hcz31_5 : w19.cell? ⟨gb324, 5, none⟩ = some (.slice none 0 0) := (blk_cell BK324.out 5).trans rfl
    have hcz31_6 : w19.cell? ⟨gb324, 6, none⟩ = some (.int .i64 0) := (blk_cell BK324.out 6).trans rfl
    have hcz31_7 : w19.cell? ⟨gb324, 7, none⟩ = some (.slice none 0 0) := (blk_cell BK324.out 7).trans rfl
    have hfz31_0 := blk_frozen BK324.out 0
    have hfz31_1 := blk_frozen BK324.out 1
    have hfz31_2 := blk_frozen BK324.out 2
    have hfz31_3 := blk_frozen BK324.out 3
    have hfz31_4 := blk_frozen BK324.out 4
    have hfz31_5 := blk_frozen BK324.out 5
    have hfz31_6 := blk_frozen BK324.out 6
    have hfz31_7 := blk_frozen BK324.out 7
    have hcz32_0 : w19.cell? ⟨gb307, 0, none⟩ = some (.int .i64 t294) := (blk_cell BK307.out 0).trans rfl
    have hcz32_1 : w19.cell? ⟨gb307, 1, none⟩ = some (.int .i64 t295) := (blk_cell BK307.out 1).trans rfl
    have hcz32_2 : w19.cell? ⟨gb307, 2, none⟩ = some (.int .i64 t296) := (blk_cell BK307.out 2).trans rfl
    have hcz32_3 : w19.cell? ⟨gb307, 3, none⟩ = some (.int .i64 t297) := (blk_cell BK307.out 3).trans rfl
    have hcz32_4 : w19.cell? ⟨gb307, 4, none⟩ = some (.int .i64 t298) := (blk_cell BK307.out 4).trans rfl
    have hcz32_5 : w19.cell? ⟨gb307, 5, none⟩ = some (.slice Ao14 t299.length co14) := (blk_cell BK307.out 5).trans rfl
    have hcz32_6 : w19.cell? ⟨gb307, 6, none⟩ = some (.int .i64 t302) := (blk_cell BK307.out 6).trans rfl
    have hcz32_7 : w19.cell? ⟨gb307, 7, none⟩ = some (.slice Ao15 t303.length co15) := (blk_cell BK307.out 7).trans rfl
    have hfz32_0 := blk_frozen BK307.out 0
    have hfz32_1 := blk_frozen BK307.out 1
    have hfz32_2 := blk_frozen BK307.out 2
    have hfz32_3 := blk_frozen BK307.out 3
    have hfz32_4 := blk_frozen BK307.out 4
    have hfz32_5 := blk_frozen BK307.out 5
    have hfz32_6 := blk_frozen BK307.out 6
    have hfz32_7 := blk_frozen BK307.out 7
    go_wp2_with (first | ((with_reducible refine gc (f := 33) rfl ?_); refine goesL_ (some 35) rfl rfl Try.func33 (by kernel_rfl) rfl #[.agg #[.int .i64 t311, .int .i64 t312, .int .i64 t313, .int .i64 t314, .int .i64 t315, .slice Ao22 t316.length co22, .int .i64 t319, .slice Ao23 t320.length co23], .agg #[.int .i64 t294, .int .i64 t295, .int .i64 t296, .int .i64 t297, .int .i64 t298, .slice Ao14 t299.length co14, .int .i64 t302, .slice Ao15 t303.length co15]] rfl (by (try simp only [List.map_toArray, List.map_cons, List.map_nil]); first | done | rfl | (simp only [List.length_drop, List.length_take]; rfl)) ?_; (with_reducible refine (laws_eqSparse.calls k t311 t312 t313 t314 t315 _ _ t316 t319 _ _ t320 t294 t295 t296 t297 t298 _ _ t299 t302 _ _ t303 false _ ?side1 ?side2 ?side3 ?side4 ?side5 ?side6 ?side7 ?side8 A24.out).mono ?_); (case side1 => refine (rR (e := 86) (base := w.heap.size) (ok := fun k_ => ((some k_ ≠ (.slice Ao23 t320.length co23 : Value).ownBlock ∧ some k_ ≠ (.slice Ao14 t299.length co14 : Value).ownBlock) ∧ some k_ ≠ (.slice Ao15 t303.length co15 : Value).ownBlock)) (n := t316.length) (c := co22) ?_).2.2; exact (by (with_reducible repeat first | apply rA | apply rN | apply rD); exact (Kd.R_mono (Kd.R_far (p := ⟨gb324, 7, none⟩) (Kd.R_far (p := ⟨gb324, 6, none⟩) (Kd.R_far (p := ⟨gb324, 5, none⟩) (Kd.R_far (p := ⟨gb324, 4, none⟩) (Kd.R_far (p := ⟨gb324, 3, none⟩) (Kd.R_far (p := ⟨gb324, 2, none⟩) (Kd.R_far (p := ⟨gb324, 1, none⟩) (Kd.R_far (p := ⟨gb324, 0, none⟩) (Kd.R_types HO318.out BK324.out (by decide)) (fun _ hk => hk.2) (.int .i64 t311)) (fun _ hk => hk.2) (.int .i64 t312)) (fun _ hk => hk.2) (.int .i64 t313)) (fun _ hk => hk.2) (.int .i64 t314)) (fun _ hk => hk.2) (.int .i64 t315)) (fun _ hk => hk.2) (.slice Ao22 t316.length co22)) (fun _ hk => hk.2) (.int .i64 t319)) (fun _ hk => hk.2) (.slice Ao23 t320.length co23)) (fun _ h_ => h_.1)))); (case side2 => exact (rR HO318.out).2.1); (case side3 => refine (rR (e := 86) (base := w.heap.size) (ok := fun k_ => ((some k_ ≠ (.slice Ao22 t316.length co22 : Value).ownBlock ∧ some k_ ≠ (.slice Ao14 t299.length co14 : Value).ownBlock) ∧ some k_ ≠ (.slice Ao15 t303.length co15 : Value).ownBlock)) (n := t320.length) (c := co23) ?_).2.2; exact (by (with_reducible repeat first | apply rA | apply rN | apply rD); exact (Kd.R_mono (Kd.R_far (p := ⟨gb324, 7, none⟩) (Kd.R_far (p := ⟨gb324, 6, none⟩) (Kd.R_far (p := ⟨gb324, 5, none⟩) (Kd.R_far (p := ⟨gb324, 4, none⟩) (Kd.R_far (p := ⟨gb324, 3, none⟩) (Kd.R_far (p := ⟨gb324, 2, none⟩) (Kd.R_far (p := ⟨gb324, 1, none⟩) (Kd.R_far (p := ⟨gb324, 0, none⟩) (Kd.R_types HO322.out BK324.out (by decide)) (fun _ hk => hk.2) (.int .i64 t311)) (fun _ hk => hk.2) (.int .i64 t312)) (fun _ hk => hk.2) (.int .i64 t313)) (fun _ hk => hk.2) (.int .i64 t314)) (fun _ hk => hk.2) (.int .i64 t315)) (fun _ hk => hk.2) (.slice Ao22 t316.length co22)) (fun _ hk => hk.2) (.int .i64 t319)) (fun _ hk => hk.2) (.slice Ao23 t320.length co23)) (fun _ h_ => h_.1)))); (case side4 => exact (rR HO322.out).2.1); (case side5 => refine (rR (e := 86) (base := w.heap.size) (ok := fun k_ => ((some k_ ≠ (.slice Ao15 t303.length co15 : Value).ownBlock ∧ some k_ ≠ (.slice Ao22 t316.length co22 : Value).ownBlock) ∧ some k_ ≠ (.slice Ao23 t320.length co23 : Value).ownBlock)) (n := t299.length) (c := co14) ?_).2.2; exact (by (with_reducible repeat first | apply rA | apply rN | apply rD); exact (Kd.R_mono (Kd.R_far (p := ⟨gb324, 7, none⟩) (Kd.R_far (p := ⟨gb324, 6, none⟩) (Kd.R_far (p := ⟨gb324, 5, none⟩) (Kd.R_far (p := ⟨gb324, 4, none⟩) (Kd.R_far (p := ⟨gb324, 3, none⟩) (Kd.R_far (p := ⟨gb324, 2, none⟩) (Kd.R_far (p := ⟨gb324, 1, none⟩) (Kd.R_far (p := ⟨gb324, 0, none⟩) (Kd.R_types HO301.out BK324.out (by decide)) (fun _ hk => hk.2) (.int .i64 t311)) (fun _ hk => hk.2) (.int .i64 t312)) (fun _ hk => hk.2) (.int .i64 t313)) (fun _ hk => hk.2) (.int .i64 t314)) (fun _ hk => hk.2) (.int .i64 t315)) (fun _ hk => hk.2) (.slice Ao22 t316.length co22)) (fun _ hk => hk.2) (.int .i64 t319)) (fun _ hk => hk.2) (.slice Ao23 t320.length co23)) (fun _ h_ => h_.1)))); (case side6 => exact (rR HO301.out).2.1); (case side7 => refine (rR (e := 86) (base := w.heap.size) (ok := fun k_ => ((some k_ ≠ (.slice Ao14 t299.length co14 : Value).ownBlock ∧ some k_ ≠ (.slice Ao22 t316.length co22 : Value).ownBlock) ∧ some k_ ≠ (.slice Ao23 t320.length co23 : Value).ownBlock)) (n := t303.length) (c := co15) ?_).2.2; exact (by (with_reducible repeat first | apply rA | apply rN | apply rD); exact (Kd.R_mono (Kd.R_far (p := ⟨gb324, 7, none⟩) (Kd.R_far (p := ⟨gb324, 6, none⟩) (Kd.R_far (p := ⟨gb324, 5, none⟩) (Kd.R_far (p := ⟨gb324, 4, none⟩) (Kd.R_far (p := ⟨gb324, 3, none⟩) (Kd.R_far (p := ⟨gb324, 2, none⟩) (Kd.R_far (p := ⟨gb324, 1, none⟩) (Kd.R_far (p := ⟨gb324, 0, none⟩) (Kd.R_types HO305.out BK324.out (by decide)) (fun _ hk => hk.2) (.int .i64 t311)) (fun _ hk => hk.2) (.int .i64 t312)) (fun _ hk => hk.2) (.int .i64 t313)) (fun _ hk => hk.2) (.int .i64 t314)) (fun _ hk => hk.2) (.int .i64 t315)) (fun _ hk => hk.2) (.slice Ao22 t316.length co22)) (fun _ hk => hk.2) (.int .i64 t319)) (fun _ hk => hk.2) (.slice Ao23 t320.length co23)) (fun _ h_ => h_.1)))); (case side8 => exact (rR HO305.out).2.1); rintro e w33 ⟨rfl, hb⟩; refine ⟨_, rfl, ?_⟩; have n0_ := As.mk (rB (by (with_reducible repeat first | apply rA | apply rN | apply rD); exact (Kd.R_mono (Kd.R_far (p := ⟨gb324, 7, none⟩) (Kd.R_far (p := ⟨gb324, 6, none⟩) (Kd.R_far (p := ⟨gb324, 5, none⟩) (Kd.R_far (p := ⟨gb324, 4, none⟩) (Kd.R_far (p := ⟨gb324, 3, none⟩) (Kd.R_far (p := ⟨gb324, 2, none⟩) (Kd.R_far (p := ⟨gb324, 1, none⟩) (Kd.R_far (p := ⟨gb324, 0, none⟩) (Kd.R_types HO293.out BK324.out (by decide)) (fun _ hk => hk.2) (.int .i64 t311)) (fun _ hk => hk.2) (.int .i64 t312)) (fun _ hk => hk.2) (.int .i64 t313)) (fun _ hk => hk.2) (.int .i64 t314)) (fun _ hk => hk.2) (.int .i64 t315)) (fun _ hk => hk.2) (.slice Ao22 t316.length co22)) (fun _ hk => hk.2) (.int .i64 t319)) (fun _ hk => hk.2) (.slice Ao23 t320.length co23)) (fun _ h_ => h_.1))) hb); have n1_ := As.mk (rB (by (with_reducible repeat first | apply rA | apply rN | apply rD); exact (Kd.R_mono (Kd.R_far (p := ⟨gb324, 7, none⟩) (Kd.R_far (p := ⟨gb324, 6, none⟩) (Kd.R_far (p := ⟨gb324, 5, none⟩) (Kd.R_far (p := ⟨gb324, 4, none⟩) (Kd.R_far (p := ⟨gb324, 3, none⟩) (Kd.R_far (p := ⟨gb324, 2, none⟩) (Kd.R_far (p := ⟨gb324, 1, none⟩) (Kd.R_far (p := ⟨gb324, 0, none⟩) (Kd.R_types HO301.out BK324.out (by decide)) (fun _ hk => hk.2) (.int .i64 t311)) (fun _ hk => hk.2) (.int .i64 t312)) (fun _ hk => hk.2) (.int .i64 t313)) (fun _ hk => hk.2) (.int .i64 t314)) (fun _ hk => hk.2) (.int .i64 t315)) (fun _ hk => hk.2) (.slice Ao22 t316.length co22)) (fun _ hk => hk.2) (.int .i64 t319)) (fun _ hk => hk.2) (.slice Ao23 t320.length co23)) (fun _ h_ => h_.1))) hb); have n2_ := As.mk (rB (by (with_reducible repeat first | apply rA | apply rN | apply rD); exact (Kd.R_mono (Kd.R_far (p := ⟨gb324, 7, none⟩) (Kd.R_far (p := ⟨gb324, 6, none⟩) (Kd.R_far (p := ⟨gb324, 5, none⟩) (Kd.R_far (p := ⟨gb324, 4, none⟩) (Kd.R_far (p := ⟨gb324, 3, none⟩) (Kd.R_far (p := ⟨gb324, 2, none⟩) (Kd.R_far (p := ⟨gb324, 1, none⟩) (Kd.R_far (p := ⟨gb324, 0, none⟩) (Kd.R_types HO305.out BK324.out (by decide)) (fun _ hk => hk.2) (.int .i64 t311)) (fun _ hk => hk.2) (.int .i64 t312)) (fun _ hk => hk.2) (.int .i64 t313)) (fun _ hk => hk.2) (.int .i64 t314)) (fun _ hk => hk.2) (.int .i64 t315)) (fun _ hk => hk.2) (.slice Ao22 t316.length co22)) (fun _ hk => hk.2) (.int .i64 t319)) (fun _ hk => hk.2) (.slice Ao23 t320.length co23)) (fun _ h_ => h_.1))) hb); have n3_ := As.mk (rB (by (with_reducible repeat first | apply rA | apply rN | apply rD); exact (Kd.R_mono (Kd.R_far (p := ⟨gb324, 7, none⟩) (Kd.R_far (p := ⟨gb324, 6, none⟩) (Kd.R_far (p := ⟨gb324, 5, none⟩) (Kd.R_far (p := ⟨gb324, 4, none⟩) (Kd.R_far (p := ⟨gb324, 3, none⟩) (Kd.R_far (p := ⟨gb324, 2, none⟩) (Kd.R_far (p := ⟨gb324, 1, none⟩) (Kd.R_far (p := ⟨gb324, 0, none⟩) (Kd.R_types HO310.out BK324.out (by decide)) (fun _ hk => hk.2) (.int .i64 t311)) (fun _ hk => hk.2) (.int .i64 t312)) (fun _ hk => hk.2) (.int .i64 t313)) (fun _ hk => hk.2) (.int .i64 t314)) (fun _ hk => hk.2) (.int .i64 t315)) (fun _ hk => hk.2) (.slice Ao22 t316.length co22)) (fun _ hk => hk.2) (.int .i64 t319)) (fun _ hk => hk.2) (.slice Ao23 t320.length co23)) (fun _ h_ => h_.1))) hb); have n4_ := As.mk (rB (by (with_reducible repeat first | apply rA | apply rN | apply rD); exact (Kd.R_mono (Kd.R_far (p := ⟨gb324, 7, none⟩) (Kd.R_far (p := ⟨gb324, 6, none⟩) (Kd.R_far (p := ⟨gb324, 5, none⟩) (Kd.R_far (p := ⟨gb324, 4, none⟩) (Kd.R_far (p := ⟨gb324, 3, none⟩) (Kd.R_far (p := ⟨gb324, 2, none⟩) (Kd.R_far (p := ⟨gb324, 1, none⟩) (Kd.R_far (p := ⟨gb324, 0, none⟩) (Kd.R_types HO318.out BK324.out (by decide)) (fun _ hk => hk.2) (.int .i64 t311)) (fun _ hk => hk.2) (.int .i64 t312)) (fun _ hk => hk.2) (.int .i64 t313)) (fun _ hk => hk.2) (.int .i64 t314)) (fun _ hk => hk.2) (.int .i64 t315)) (fun _ hk => hk.2) (.slice Ao22 t316.length co22)) (fun _ hk => hk.2) (.int .i64 t319)) (fun _ hk => hk.2) (.slice Ao23 t320.length co23)) (fun _ h_ => h_.1))) hb); have n5_ := As.mk (rB (by (with_reducible repeat first | apply rA | apply rN | apply rD); exact (Kd.R_mono (Kd.R_far (p := ⟨gb324, 7, none⟩) (Kd.R_far (p := ⟨gb324, 6, none⟩) (Kd.R_far (p := ⟨gb324, 5, none⟩) (Kd.R_far (p := ⟨gb324, 4, none⟩) (Kd.R_far (p := ⟨gb324, 3, none⟩) (Kd.R_far (p := ⟨gb324, 2, none⟩) (Kd.R_far (p := ⟨gb324, 1, none⟩) (Kd.R_far (p := ⟨gb324, 0, none⟩) (Kd.R_types HO322.out BK324.out (by decide)) (fun _ hk => hk.2) (.int .i64 t311)) (fun _ hk => hk.2) (.int .i64 t312)) (fun _ hk => hk.2) (.int .i64 t313)) (fun _ hk => hk.2) (.int .i64 t314)) (fun _ hk => hk.2) (.int .i64 t315)) (fun _ hk => hk.2) (.slice Ao22 t316.length co22)) (fun _ hk => hk.2) (.int .i64 t319)) (fun _ hk => hk.2) (.slice Ao23 t320.length co23)) (fun _ h_ => h_.1))) hb); have n6_ := As.mk (bb (g := gb307) (o := .cells #[.int .i64 t294, .int .i64 t295, .int .i64 t296, .int .i64 t297, .int .i64 t298, .slice Ao14 t299.length co14, .int .i64 t302, .slice Ao15 t303.length co15] 51 (0, 0)) (by (with_reducible repeat first | apply bN | apply bD | apply bA); refine blk_far ?_ NB307_324.out _; (with_reducible repeat first | apply bN | apply bD | apply bA); refine blk_far ?_ NB307_324.out _; (with_reducible repeat first | apply bN | apply bD | apply bA); refine blk_far ?_ NB307_324.out _; (with_reducible repeat first | apply bN | apply bD | apply bA); refine blk_far ?_ NB307_324.out _; (with_reducible repeat first | apply bN | apply bD | apply bA); refine blk_far ?_ NB307_324.out _; (with_reducible repeat first | apply bN | apply bD | apply bA); refine blk_far ?_ NB307_324.out _; (with_reducible repeat first | apply bN | apply bD | apply bA); refine blk_far ?_ NB307_324.out _; (with_reducible repeat first | apply bN | apply bD | apply bA); refine blk_far ?_ NB307_324.out _; (with_reducible repeat first | apply bN | apply bD | apply bA); exact BK307.out) hb); have n7_ := As.mk (bb (g := gb324) (o := .cells #[.int .i64 t311, .int .i64 t312, .int .i64 t313, .int .i64 t314, .int .i64 t315, .slice Ao22 t316.length co22, .int .i64 t319, .slice Ao23 t320.length co23] 51 (0, 0)) (by (with_reducible repeat first | apply bN | apply bD | apply bA); refine blk_put (cs := #[.int .i64 t311, .int .i64 t312, .int .i64 t313, .int .i64 t314, .int .i64 t315, .slice Ao22 t316.length co22, .int .i64 t319, .slice none 0 0]) ?_ 7 _ rfl; (with_reducible repeat first | apply bN | apply bD | apply bA); refine blk_put (cs := #[.int .i64 t311, .int .i64 t312, .int .i64 t313, .int .i64 t314, .int .i64 t315, .slice Ao22 t316.length co22, .int .i64 0, .slice none 0 0]) ?_ 6 _ rfl; (with_reducible repeat first | apply bN | apply bD | apply bA); refine blk_put (cs := #[.int .i64 t311, .int .i64 t312, .int .i64 t313, .int .i64 t314, .int .i64 t315, .slice none 0 0, .int .i64 0, .slice none 0 0]) ?_ 5 _ rfl; (with_reducible repeat first | apply bN | apply bD | apply bA); refine blk_put (cs := #[.int .i64 t311, .int .i64 t312, .int .i64 t313, .int .i64 t314, .int .i64 0, .slice none 0 0, .int .i64 0, .slice none 0 0]) ?_ 4 _ rfl; (with_reducible repeat first | apply bN | apply bD | apply bA); refine blk_put (cs := #[.int .i64 t311, .int .i64 t312, .int .i64 t313, .int .i64 0, .int .i64 0, .slice none 0 0, .int .i64 0, .slice none 0 0]) ?_ 3 _ rfl; (with_reducible repeat first | apply bN | apply bD | apply bA); refine blk_put (cs := #[.int .i64 t311, .int .i64 t312, .int .i64 0, .int .i64 0, .int .i64 0, .slice none 0 0, .int .i64 0, .slice none 0 0]) ?_ 2 _ rfl; (with_reducible repeat first | apply bN | apply bD | apply bA); refine blk_put (cs := #[.int .i64 t311, .int .i64 0, .int .i64 0, .int .i64 0, .int .i64 0, .slice none 0 0, .int .i64 0, .slice none 0 0]) ?_ 1 _ rfl; (with_reducible repeat first | apply bN | apply bD | apply bA); refine blk_put (cs := #[.int .i64 0, .int .i64 0, .int .i64 0, .int .i64 0, .int .i64 0, .slice none 0 0, .int .i64 0, .slice none 0 0]) ?_ 0 _ rfl; (with_reducible repeat first | apply bN | apply bD | apply bA); exact BK324.out) hb); have n8_ := As.mk (bt (by repeat (first | (with_reducible first | exact HB.out | apply ba | apply bw | apply b1 | refine bs ?_ GE307.out | refine bs ?_ GE324.out) | exact HB.out)) hb); clear HO293; clear HO301; clear HO305; clear HO310; clear HO318; clear HO322; clear BK307; clear BK324; clear HB; have HO293 := n0_; have HO301 := n1_; have HO305 := n2_; have HO310 := n3_; have HO318 := n4_; have HO322 := n5_; have BK307 := n6_; have BK324 := n7_; have HB := n8_; clear n0_ n1_ n2_ n3_ n4_ n5_ n6_ n7_ n8_; (try clear hb); (try clear hb2); (try clear hk); (try clear hi)))
    go_meet
    case rel => exact ⟨_, (true), (by first | rfl | (simp; done) | (simp [*]; done)), H', ⟨by first | omega | exact Nat.le_refl _⟩, ⟨by (with_reducible repeat first | apply rA | apply rN | apply rD); exact Kd.R_mono HO310.out (fun _ hk => trivial)⟩, ⟨by (with_reducible repeat first | apply rA | apply rN | apply rD); exact Kd.R_mono HO301.out (fun _ hk => ⟨hk.1.1, ⟨hk.1.2, hk.2⟩⟩)⟩, ⟨by (with_reducible repeat first | apply rA | apply rN | apply rD); exact Kd.R_mono HO305.out (fun _ hk => ⟨hk.1.1, ⟨hk.1.2, hk.2⟩⟩)⟩, ⟨by (with_reducible repeat first | apply rA | apply rN | apply rD); exact Kd.R_mono HO318.out (fun _ hk => ⟨hk.1.2, ⟨hk.2, hk.1.1⟩⟩)⟩, ⟨by (with_reducible repeat first | apply rA | apply rN | apply rD); exact Kd.R_mono HO322.out (fun _ hk => ⟨hk.1.2, ⟨hk.2, hk.1.1⟩⟩)⟩, ⟨by (with_reducible repeat first | apply bN | apply bD | apply bA); exact BK307.out⟩, ⟨by (with_reducible repeat first | apply bN | apply bD | apply bA); exact BK324.out⟩, ⟨by repeat (first | (with_reducible first | exact HB.out | apply ba | apply bw | apply b1 | refine bs ?_ GE307.out | refine bs ?_ GE324.out) | exact HB.out)⟩⟩
  case rest =>
   clear HC8
   try clear c1
   try clear c2
   try clear p2
   try clear c3
   try clear c3b0
   try clear c3b1
   try clear c8
   try clear c18
   try clear c20
   try clear c25
   try clear c26
   try clear c30
   try clear c31
   try clear c32
   try clear c33
   try clear hcz13_0
   try clear hcz13_1
   try clear hcz13_2
   try clear hcz13_3
   try clear hcz13_4
   try clear hcz13_5
   try clear hcz13_6
   try clear hcz13_7
   try clear hcz21_0
   try clear hcz21_1
   try clear hcz21_2
   try clear hcz21_3
   try clear hcz21_4
   try clear hcz21_5
   try clear hcz21_6
   try clear hcz21_7
   try clear hcz27_0
   try clear hcz27_1
   try clear hcz27_2
   try clear hcz27_3
   try clear hcz27_4
   try clear hcz27_5
   try clear hcz27_6
   try clear hcz27_7
   try clear hcz28_0
   try clear hcz28_1
   try clear hcz28_2
   try clear hcz28_3
   try clear hcz28_4
   try clear hcz28_5
   try clear hcz28_6
   try clear hcz28_7
   try clear hcz31_0
   try clear hcz31_1
   try clear hcz31_2
   try clear hcz31_3
   try clear hcz31_4
   try clear hcz31_5
   try clear hcz31_6
   try clear hcz31_7
   try clear hcz32_0
   try clear hcz32_1
   try clear hcz32_2
   try clear hcz32_3
   try clear hcz32_4
   try clear hcz32_5
   try clear hcz32_6
   try clear hcz32_7
   try clear hfz13_0
   try clear hfz13_1
   try clear hfz13_2
   try clear hfz13_3
   try clear hfz13_4
   try clear hfz13_5
   try clear hfz13_6
   try clear hfz13_7
   try clear hfz21_0
   try clear hfz21_1
   try clear hfz21_2
   try clear hfz21_3
   try clear hfz21_4
   try clear hfz21_5
   try clear hfz21_6
   try clear hfz21_7
   try clear hfz27_0
   try clear hfz27_1
   try clear hfz27_2
   try clear hfz27_3
   try clear hfz27_4
   try clear hfz27_5
   try clear hfz27_6
   try clear hfz27_7
   try clear hfz28_0
   try clear hfz28_1
   try clear hfz28_2
   try clear hfz28_3
   try clear hfz28_4
   try clear hfz28_5
   try clear hfz28_6
   try clear hfz28_7
   try clear hfz31_0
   try clear hfz31_1
   try clear hfz31_2
   try clear hfz31_3
   try clear hfz31_4
   try clear hfz31_5
   try clear hfz31_6
   try clear hfz31_7
   try clear hfz32_0
   try clear hfz32_1
   try clear hfz32_2
   try clear hfz32_3
   try clear hfz32_4
   try clear hfz32_5
   try clear hfz32_6
   try clear hfz32_7
   obtain ⟨kq, x41_7, rfl, HA, HJ7, HO_7, HO_308005, HO_308007, HO_325005, HO_325007, BK307, BK324, HB⟩ := hcut
   cases kq with
   | zero => exact absurd HA.out (by simp [laws_FnExactSparseOf.j0])
   | succ kj7 =>
    have H := HA.out
    clear HA
    simp only [laws_FnExactSparseOf.j0] at H
    by_cases c34 : x41_7 = true
    ·subst c34
     have H1 : (some false) = some r := by rw [if_pos rfl] at H; exact H
     clear H
     have H := H1
     clear H1
     exact absurd ((Option.some.inj H).trans HRT_.out) (by decide)
    ·replace c34 := Bool.eq_false_iff.mpr c34
     subst c34
     have H1 : ((laws_toIntS.f kj7 l0).bind fun t326 => ((laws_eqIntS.f kj7 t308 t326).bind fun t329 => (if t329 = true then ((laws_markIntS.f kj7 t308 1).bind fun bt330 => (if bt330.1 < 0 then (laws_FnExactSparseOf.j1 kj7 l0 a1 t306 true t294 t295 t296 t297 t298 t299 t302 t303 t311 t312 t313 t314 t315 t316 t319 t320) else ((laws_eqSparse.f kj7 t311 t312 t313 t314 t315 t316 t319 t320 t294 t295 t296 t297 t298 t299 t302 t303).bind fun t332 => (if t332 = true then (laws_FnExactSparseOf.j1 kj7 l0 a1 t306 (t323 != t306) t294 t295 t296 t297 t298 t299 t302 t303 t311 t312 t313 t314 t315 t316 t319 t320) else (laws_FnExactSparseOf.j1 kj7 l0 a1 t306 true t294 t295 t296 t297 t298 t299 t302 t303 t311 t312 t313 t314 t315 t316 t319 t320))))) else (some false)))) = some r := by rw [if_neg (show ¬ (false = true) by decide)] at H; exact H
     clear H
     have H := H1
     clear H1
     replace H := Option.bind_eq_some_iff.mp H
     obtain ⟨t326, A350, H⟩ := H
     replace H : ((laws_eqIntS.f kj7 t308 t326).bind fun t329 => (if t329 = true then ((laws_markIntS.f kj7 t308 1).bind fun bt330 => (if bt330.1 < 0 then (laws_FnExactSparseOf.j1 kj7 l0 a1 t306 true t294 t295 t296 t297 t298 t299 t302 t303 t311 t312 t313 t314 t315 t316 t319 t320) else ((laws_eqSparse.f kj7 t311 t312 t313 t314 t315 t316 t319 t320 t294 t295 t296 t297 t298 t299 t302 t303).bind fun t332 => (if t332 = true then (laws_FnExactSparseOf.j1 kj7 l0 a1 t306 (t323 != t306) t294 t295 t296 t297 t298 t299 t302 t303 t311 t312 t313 t314 t315 t316 t319 t320) else (laws_FnExactSparseOf.j1 kj7 l0 a1 t306 true t294 t295 t296 t297 t298 t299 t302 t303 t311 t312 t313 t314 t315 t316 t319 t320))))) else (some false))) = some r := H
     have A35 := As.mk A350
     clear A350
     replace H := Option.bind_eq_some_iff.mp H
     obtain ⟨t329, A360, H⟩ := H
     replace H : (if t329 = true then ((laws_markIntS.f kj7 t308 1).bind fun bt330 => (if bt330.1 < 0 then (laws_FnExactSparseOf.j1 kj7 l0 a1 t306 true t294 t295 t296 t297 t298 t299 t302 t303 t311 t312 t313 t314 t315 t316 t319 t320) else ((laws_eqSparse.f kj7 t311 t312 t313 t314 t315 t316 t319 t320 t294 t295 t296 t297 t298 t299 t302 t303).bind fun t332 => (if t332 = true then (laws_FnExactSparseOf.j1 kj7 l0 a1 t306 (t323 != t306) t294 t295 t296 t297 t298 t299 t302 t303 t311 t312 t313 t314 t315 t316 t319 t320) else (laws_FnExactSparseOf.j1 kj7 l0 a1 t306 true t294 t295 t296 t297 t298 t299 t302 t303 t311 t312 t313 t314 t315 t316 t319 t320))))) else (some false)) = some r := H
     have A36 := As.mk A360
     clear A360
     by_cases c37 : t329 = true
     ·subst c37
      have H1 : ((laws_markIntS.f kj7 t308 1).bind fun bt330 => (if bt330.1 < 0 then (laws_FnExactSparseOf.j1 kj7 l0 a1 t306 true t294 t295 t296 t297 t298 t299 t302 t303 t311 t312 t313 t314 t315 t316 t319 t320) else ((laws_eqSparse.f kj7 t311 t312 t313 t314 t315 t316 t319 t320 t294 t295 t296 t297 t298 t299 t302 t303).bind fun t332 => (if t332 = true then (laws_FnExactSparseOf.j1 kj7 l0 a1 t306 (t323 != t306) t294 t295 t296 t297 t298 t299 t302 t303 t311 t312 t313 t314 t315 t316 t319 t320) else (laws_FnExactSparseOf.j1 kj7 l0 a1 t306 true t294 t295 t296 t297 t298 t299 t302 t303 t311 t312 t313 t314 t315 t316 t319 t320))))) = some r := by rw [if_pos rfl] at H; exact H
      clear H
      have H := H1
      clear H1
      replace H := Option.bind_eq_some_iff.mp H
      obtain ⟨⟨t330, t331⟩, A380, H⟩ := H
      replace H : (if t330 < 0 then (laws_FnExactSparseOf.j1 kj7 l0 a1 t306 true t294 t295 t296 t297 t298 t299 t302 t303 t311 t312 t313 t314 t315 t316 t319 t320) else ((laws_eqSparse.f kj7 t311 t312 t313 t314 t315 t316 t319 t320 t294 t295 t296 t297 t298 t299 t302 t303).bind fun t332 => (if t332 = true then (laws_FnExactSparseOf.j1 kj7 l0 a1 t306 (t323 != t306) t294 t295 t296 t297 t298 t299 t302 t303 t311 t312 t313 t314 t315 t316 t319 t320) else (laws_FnExactSparseOf.j1 kj7 l0 a1 t306 true t294 t295 t296 t297 t298 t299 t302 t303 t311 t312 t313 t314 t315 t316 t319 t320)))) = some r := H
      have A38 := As.mk A380
      clear A380
      have HC39 := As.mk H
      clear H
      go_upto_region 12 with (first | ((with_reducible refine gc (f := 18) rfl ?_); refine goesL_ (some 44) rfl rfl Try.func18 (by kernel_rfl) rfl #[.slice A0 l0.length c0] rfl (by (try simp only [List.map_toArray, List.map_cons, List.map_nil]); first | done | rfl | (simp only [List.length_drop, List.length_take]; rfl)) ?_; (with_reducible refine (laws_toIntS.calls kj7 _ _ l0 t326 _ ?side1 ?side2 A35.out).mono ?_); (case side1 => repeat (first | exact (cB HR0.out HB.out) | (with_reducible refine cA ?_ _) | (with_reducible refine cN ?_ _) | (with_reducible refine cD ?_))); (case side2 => exact HC0.out); rintro e w40 ⟨v327, rfl, ho0, hb⟩; refine ⟨_, rfl, ?_⟩; have n0_ := As.mk (rE (by (with_reducible repeat first | apply rA | apply rN | apply rD); exact HO_7.out) (Kd.R_base ho0) hb); have n1_ := As.mk (rB (by (with_reducible repeat first | apply rA | apply rN | apply rD); exact HO_308005.out) hb); have n2_ := As.mk (rB (by (with_reducible repeat first | apply rA | apply rN | apply rD); exact HO_308007.out) hb); have n3_ := As.mk (rB (by (with_reducible repeat first | apply rA | apply rN | apply rD); exact HO_325005.out) hb); have n4_ := As.mk (rB (by (with_reducible repeat first | apply rA | apply rN | apply rD); exact HO_325007.out) hb); have n5_ := As.mk (rL (rW ho0 (Kd.R_lt (by (with_reducible repeat first | apply rA | apply rN | apply rD); exact HO_7.out))) (bz (by repeat (first | (with_reducible first | exact HB.out | apply ba | apply bw | apply b1 | refine bs ?_ GE307.out | refine bs ?_ GE324.out) | exact HB.out)))); have n6_ := As.mk (bb (g := gb307) (o := .cells #[.int .i64 t294, .int .i64 t295, .int .i64 t296, .int .i64 t297, .int .i64 t298, .slice Ao14 t299.length co14, .int .i64 t302, .slice Ao15 t303.length co15] 51 (0, 0)) (by (with_reducible repeat first | apply bN | apply bD | apply bA); exact BK307.out) hb); have n7_ := As.mk (bb (g := gb324) (o := .cells #[.int .i64 t311, .int .i64 t312, .int .i64 t313, .int .i64 t314, .int .i64 t315, .slice Ao22 t316.length co22, .int .i64 t319, .slice Ao23 t320.length co23] 51 (0, 0)) (by (with_reducible repeat first | apply bN | apply bD | apply bA); exact BK324.out) hb); have n8_ := As.mk (bt (by repeat (first | (with_reducible first | exact HB.out | apply ba | apply bw | apply b1 | refine bs ?_ GE307.out | refine bs ?_ GE324.out) | exact HB.out)) hb); clear HO_7; clear HO_308005; clear HO_308007; clear HO_325005; clear HO_325007; clear BK307; clear BK324; clear HB; have HO_7 := n0_; have HO_308005 := n1_; have HO_308007 := n2_; have HO_325005 := n3_; have HO_325007 := n4_; have HO328 := n5_; have BK307 := n6_; have BK324 := n7_; have HB := n8_; clear n0_ n1_ n2_ n3_ n4_ n5_ n6_ n7_ n8_; (try clear hb); (try clear hb2); (try clear hk); (try clear hi); (try clear ho0); obtain ⟨Ao41, co41, eo41⟩ := rS HO328.out; subst eo41) | ((with_reducible refine gc (f := 20) rfl ?_); refine goesL_ (some 45) rfl rfl Try.func20 (by kernel_rfl) rfl #[.slice Ao17 t308.length co17, .slice Ao41 t326.length co41] rfl (by (try simp only [List.map_toArray, List.map_cons, List.map_nil]); first | done | rfl | (simp only [List.length_drop, List.length_take]; rfl)) ?_; (with_reducible refine (laws_eqIntS.calls kj7 _ _ t308 _ _ t326 true _ ?side1 ?side2 ?side3 ?side4 A36.out).mono ?_); (case side1 => repeat (first | exact (rR HO_7.out).2.2 | (with_reducible refine cA ?_ _) | (with_reducible refine cN ?_ _) | (with_reducible refine cD ?_))); (case side2 => exact (rR HO_7.out).2.1); (case side3 => repeat (first | exact (rR HO328.out).2.2 | (with_reducible refine cA ?_ _) | (with_reducible refine cN ?_ _) | (with_reducible refine cD ?_))); (case side4 => exact (rR HO328.out).2.1); rintro e w' ⟨rfl, ⟨nd, rfl⟩⟩; refine ⟨_, rfl, ?_⟩) | ((with_reducible refine gc (f := 21) rfl ?_); refine goesL_ (some 49) rfl rfl Try.func21 (by kernel_rfl) rfl #[.slice Ao17 t308.length co17, .int .i64 1] rfl (by (try simp only [List.map_toArray, List.map_cons, List.map_nil]); first | done | rfl | (simp only [List.length_drop, List.length_take]; rfl)) ?_; (with_reducible refine (laws_markIntS.calls kj7 (fun k_ => some k_ = (.slice Ao17 t308.length co17 : Value).ownBlock) (.slice Ao17 t308.length co17) t308 1 t330 t331 w _ ?side1 ?side2 A38.out).mono ?_); (case side1 => repeat (first | (with_reducible first | exact HB.out | apply ba | apply bw | apply b1 | refine bs ?_ GE307.out | refine bs ?_ GE324.out) | exact HB.out)); (case side2 => exact Kd.R_tight rfl HO_7.out); rintro e w42 ⟨rfl, hy0, hb, hkp⟩; refine ⟨_, rfl, ?_⟩; have n0_ := As.mk (Kd.R_reok rfl hy0 (fun k_ e_ => HO_7.out.1 k_ e_)); have n1_ := As.mk (Kd.R_mono (ok' := fun k_ => some k_ ≠ (.slice Ao15 t303.length co15 : Value).ownBlock ∧ some k_ ≠ (.slice Ao22 t316.length co22 : Value).ownBlock ∧ some k_ ≠ (.slice Ao23 t320.length co23 : Value).ownBlock) (Kd.R_keptB ((Kd.R_apart' HO_308005.out (Kd.R_typed HO_7.out) (by decide))) hkp (by first | exact (fun k_ hk_ hs_ => (hk_.2) hs_) | (intro k_ hk_ hs_; exact absurd hs_ (by simp [hk_])))) (by first | exact (fun k_ hk_ => ⟨hk_.1.1.1, hk_.1.1.2.1, hk_.1.1.2.2⟩) | (intro k_ hk_; simp [hk_]))); have n2_ := As.mk (Kd.R_mono (ok' := fun k_ => some k_ ≠ (.slice Ao14 t299.length co14 : Value).ownBlock ∧ some k_ ≠ (.slice Ao22 t316.length co22 : Value).ownBlock ∧ some k_ ≠ (.slice Ao23 t320.length co23 : Value).ownBlock) (Kd.R_keptB ((Kd.R_apart' HO_308007.out (Kd.R_typed HO_7.out) (by decide))) hkp (by first | exact (fun k_ hk_ hs_ => (hk_.2) hs_) | (intro k_ hk_ hs_; exact absurd hs_ (by simp [hk_])))) (by first | exact (fun k_ hk_ => ⟨hk_.1.1.1, hk_.1.1.2.1, hk_.1.1.2.2⟩) | (intro k_ hk_; simp [hk_]))); have n3_ := As.mk (Kd.R_mono (ok' := fun k_ => some k_ ≠ (.slice Ao14 t299.length co14 : Value).ownBlock ∧ some k_ ≠ (.slice Ao15 t303.length co15 : Value).ownBlock ∧ some k_ ≠ (.slice Ao23 t320.length co23 : Value).ownBlock) (Kd.R_keptB ((Kd.R_apart' HO_325005.out (Kd.R_typed HO_7.out) (by decide))) hkp (by first | exact (fun k_ hk_ hs_ => (hk_.2) hs_) | (intro k_ hk_ hs_; exact absurd hs_ (by simp [hk_])))) (by first | exact (fun k_ hk_ => ⟨hk_.1.1.1, hk_.1.1.2.1, hk_.1.1.2.2⟩) | (intro k_ hk_; simp [hk_]))); have n4_ := As.mk (Kd.R_mono (ok' := fun k_ => some k_ ≠ (.slice Ao14 t299.length co14 : Value).ownBlock ∧ some k_ ≠ (.slice Ao15 t303.length co15 : Value).ownBlock ∧ some k_ ≠ (.slice Ao22 t316.length co22 : Value).ownBlock) (Kd.R_keptB ((Kd.R_apart' HO_325007.out (Kd.R_typed HO_7.out) (by decide))) hkp (by first | exact (fun k_ hk_ hs_ => (hk_.2) hs_) | (intro k_ hk_ hs_; exact absurd hs_ (by simp [hk_])))) (by first | exact (fun k_ hk_ => ⟨hk_.1.1.1, hk_.1.1.2.1, hk_.1.1.2.2⟩) | (intro k_ hk_; simp [hk_]))); have n5_ := As.mk (blk_kept (by (with_reducible repeat first | apply bN | apply bD | apply bA); exact BK307.out) hkp (fun hs_ => (fun e_ => (Kd.R_ne HO_7.out BK307.out (by decide)) e_) hs_)); have n6_ := As.mk (blk_kept (by (with_reducible repeat first | apply bN | apply bD | apply bA); exact BK324.out) hkp (fun hs_ => (fun e_ => (Kd.R_ne HO_7.out BK324.out (by decide)) e_) hs_)); have n7_ := As.mk (Kd.R_mono (ok' := fun k_ => some k_ ≠ (.slice Ao17 t308.length co17 : Value).ownBlock) (Kd.R_keptB (HO328.out) hkp (by first | exact (fun k_ hk_ hs_ => (hk_.2) hs_) | (intro k_ hk_ hs_; exact absurd hs_ (by simp [hk_])))) (by first | exact (fun k_ hk_ => hk_.1.2) | (intro k_ hk_; simp [hk_]))); have n8_ := As.mk (hb); clear HO_7; clear HO_308005; clear HO_308007; clear HO_325005; clear HO_325007; clear BK307; clear BK324; clear HO328; clear HB; have HO_7 := n0_; have HO_308005 := n1_; have HO_308007 := n2_; have HO_325005 := n3_; have HO_325007 := n4_; have BK307 := n5_; have BK324 := n6_; have HO328 := n7_; have HB := n8_; clear n0_ n1_ n2_ n3_ n4_ n5_ n6_ n7_ n8_; (try clear hb); (try clear hkp); (try clear hy0)))
      (try simp only [Act.put, List.setIfInBounds_toArray, List.set_cons_zero, List.set_cons_succ])
      go_cut [62] (fun v62 wc => ∃ (kq : Nat) (x62_38 : Bool), v62 = .bool x62_38 ∧ As (laws_FnExactSparseOf.j1 kq l0 a1 t306 x62_38 t294 t295 t296 t297 t298 t299 t302 t303 t311 t312 t313 t314 t315 t316 t319 t320 = some r) ∧ As (kq ≤ kj7) ∧ As (Kd.R (Kd.int .u64) 86 wc w.heap.size (fun k_ => some k_ ≠ ((.slice Ao15 t303.length co15) : Value).ownBlock ∧ some k_ ≠ ((.slice Ao22 t316.length co22) : Value).ownBlock ∧ some k_ ≠ ((.slice Ao23 t320.length co23) : Value).ownBlock) (.slice Ao14 t299.length co14) t299) ∧ As (Kd.R (Kd.int .u64) 86 wc w.heap.size (fun k_ => some k_ ≠ ((.slice Ao14 t299.length co14) : Value).ownBlock ∧ some k_ ≠ ((.slice Ao22 t316.length co22) : Value).ownBlock ∧ some k_ ≠ ((.slice Ao23 t320.length co23) : Value).ownBlock) (.slice Ao15 t303.length co15) t303) ∧ As (Kd.R (Kd.int .u64) 86 wc w.heap.size (fun k_ => some k_ ≠ ((.slice Ao14 t299.length co14) : Value).ownBlock ∧ some k_ ≠ ((.slice Ao15 t303.length co15) : Value).ownBlock ∧ some k_ ≠ ((.slice Ao23 t320.length co23) : Value).ownBlock) (.slice Ao22 t316.length co22) t316) ∧ As (Kd.R (Kd.int .u64) 86 wc w.heap.size (fun k_ => some k_ ≠ ((.slice Ao14 t299.length co14) : Value).ownBlock ∧ some k_ ≠ ((.slice Ao15 t303.length co15) : Value).ownBlock ∧ some k_ ≠ ((.slice Ao22 t316.length co22) : Value).ownBlock) (.slice Ao23 t320.length co23) t320) ∧ As (wc.heap[gb307]? = some (.cells #[.int .i64 t294, .int .i64 t295, .int .i64 t296, .int .i64 t297, .int .i64 t298, (.slice Ao14 t299.length co14), .int .i64 t302, (.slice Ao15 t303.length co15)] 51 (0, 0))) ∧ As (wc.heap[gb324]? = some (.cells #[.int .i64 t311, .int .i64 t312, .int .i64 t313, .int .i64 t314, .int .i64 t315, (.slice Ao22 t316.length co22), .int .i64 t319, (.slice Ao23 t320.length co23)] 51 (0, 0))) ∧ As (Below w.heap.size w wc))
      case first =>
       have H := HC39.out
       clear HC39
       by_cases c43 : t330 < 0
       ·rw [if_pos c43] at H
        have c43b0 : decide (t330 < 0) = true := decide_eq_true c43
        clear c43
        (first | rw [c43b0] | (simp only [i64_w, i32_w]; rw [c43b0]) | skip)
        have H' := As.mk H
        clear H
        go_wp2
        go_meet
        case rel => exact ⟨_, (true), (by first | rfl | (simp; done) | (simp [*]; done)), H', ⟨by have := HJ7.out; first | omega | exact Nat.le_refl _⟩, ⟨by (with_reducible repeat first | apply rA | apply rN | apply rD); exact HO_308005.out⟩, ⟨by (with_reducible repeat first | apply rA | apply rN | apply rD); exact HO_308007.out⟩, ⟨by (with_reducible repeat first | apply rA | apply rN | apply rD); exact HO_325005.out⟩, ⟨by (with_reducible repeat first | apply rA | apply rN | apply rD); exact HO_325007.out⟩, ⟨by (with_reducible repeat first | apply bN | apply bD | apply bA); exact BK307.out⟩, ⟨by (with_reducible repeat first | apply bN | apply bD | apply bA); exact BK324.out⟩, ⟨by repeat (first | (with_reducible first | exact HB.out | apply ba | apply bw | apply b1 | refine bs ?_ GE307.out | refine bs ?_ GE324.out) | exact HB.out)⟩⟩
       ·rw [if_neg c43] at H
        have c43b0 : decide (t330 < 0) = false := decide_eq_false c43
        clear c43
        (first | rw [c43b0] | (simp only [i64_w, i32_w]; rw [c43b0]) | skip)
        replace H := Option.bind_eq_some_iff.mp H
        obtain ⟨t332, A440, H⟩ := H
        replace H : (if t332 = true then (laws_FnExactSparseOf.j1 kj7 l0 a1 t306 (t323 != t306) t294 t295 t296 t297 t298 t299 t302 t303 t311 t312 t313 t314 t315 t316 t319 t320) else (laws_FnExactSparseOf.j1 kj7 l0 a1 t306 true t294 t295 t296 t297 t298 t299 t302 t303 t311 t312 t313 t314 t315 t316 t319 t320)) = some r := H
        have A44 := As.mk A440
        clear A440
        by_cases c45 : t332 = true
        ·subst c45
         have H1 : (laws_FnExactSparseOf.j1 kj7 l0 a1 t306 (t323 != t306) t294 t295 t296 t297 t298 t299 t302 t303 t311 t312 t313 t314 t315 t316 t319 t320) = some r := by rw [if_pos rfl] at H; exact H
         clear H
         have H := H1
         clear H1
         have H' := As.mk H
         clear H
         have hnb46 := NB324_307.out
         have hnc46 := NB307_324.out
         have hcz47_0 : w42.cell? ⟨gb324, 0, none⟩ = some (.int .i64 t311) := (blk_cell BK324.out 0).trans rfl
         have hcz47_1 : w42.cell? ⟨gb324, 1, none⟩ = some (.int .i64 t312) := (blk_cell BK324.out 1).trans rfl
         have hcz47_2 : w42.cell? ⟨gb324, 2, none⟩ = some (.int .i64 t313) := (blk_cell BK324.out 2).trans rfl
         have hcz47_3 : w42.cell? ⟨gb324, 3, none⟩ = some (.int .i64 t314) := (blk_cell BK324.out 3).trans rfl
         have hcz47_4 : w42.cell? ⟨gb324, 4, none⟩ = some (.int .i64 t315) := (blk_cell BK324.out 4).trans rfl
         have hcz47_5 : w42.cell? ⟨gb324, 5, none⟩ = some (.slice Ao22 t316.length co22) := (blk_cell BK324.out 5).trans rfl
         have hcz47_6 : w42.cell? ⟨gb324, 6, none⟩ = some (.int .i64 t319) := (blk_cell BK324.out 6).trans rfl
         have hcz47_7 : w42.cell? ⟨gb324, 7, none⟩ = some (.slice Ao23 t320.length co23) := (blk_cell BK324.out 7).trans rfl
         have hfz47_0 := blk_frozen BK324.out 0
         have hfz47_1 := blk_frozen BK324.out 1
         have hfz47_2 := blk_frozen BK324.out 2
         have hfz47_3 := blk_frozen BK324.out 3
         have hfz47_4 := blk_frozen BK324.out 4
         have hfz47_5 := blk_frozen BK324.out 5
         have hfz47_6 := blk_frozen BK324.out 6
         have hfz47_7 := blk_frozen BK324.out 7
         have hcz48_0 : w42.cell? ⟨gb307, 0, none⟩ = some (.int .i64 t294) := (blk_cell BK307.out 0).trans rfl
         have hcz48_1 : w42.cell? ⟨gb307, 1, none⟩ = some (.int .i64 t295) := (blk_cell BK307.out 1).trans rfl
         have hcz48_2 : w42.cell? ⟨gb307, 2, none⟩ = some (.int .i64 t296) := (blk_cell BK307.out 2).trans rfl
         have hcz48_3 : w42.cell? ⟨gb307, 3, none⟩ = some (.int .i64 t297) := (blk_cell BK307.out 3).trans rfl
         have hcz48_4 : w42.cell? ⟨gb307, 4, none⟩ = some (.int .i64 t298) := (blk_cell BK307.out 4).trans rfl
         have hcz48_5 : w42.cell? ⟨gb307, 5, none⟩ = some (.slice Ao14 t299.length co14) := (blk_cell BK307.out 5).trans rfl
         have hcz48_6 : w42.cell? ⟨gb307, 6, none⟩ = some (.int .i64 t302) := (blk_cell BK307.out 6).trans rfl
         have hcz48_7 : w42.cell? ⟨gb307, 7, none⟩ = some (.slice Ao15 t303.length co15) := (blk_cell BK307.out 7).trans rfl
         have hfz48_0 := blk_frozen BK307.out 0
         have hfz48_1 := blk_frozen BK307.out 1
         have hfz48_2 := blk_frozen BK307.out 2
         have hfz48_3 := blk_frozen BK307.out 3
         have hfz48_4 := blk_frozen BK307.out 4
         have hfz48_5 := blk_frozen BK307.out 5
         have hfz48_6 := blk_frozen BK307.out 6
         have hfz48_7 := blk_frozen BK307.out 7
         go_wp2_with (first | (go_at_call 33; (with_reducible refine (laws_eqSparse.calls kj7 t311 t312 t313 t314 t315 _ _ t316 t319 _ _ t320 t294 t295 t296 t297 t298 _ _ t299 t302 _ _ t303 true _ ?side1 ?side2 ?side3 ?side4 ?side5 ?side6 ?side7 ?side8 A44.out).mono ?_); (case side1 => repeat (first | exact (rR HO_325005.out).2.2 | (with_reducible refine cA ?_ _) | (with_reducible refine cN ?_ _) | (with_reducible refine cD ?_))); (case side2 => exact (rR HO_325005.out).2.1); (case side3 => repeat (first | exact (rR HO_325007.out).2.2 | (with_reducible refine cA ?_ _) | (with_reducible refine cN ?_ _) | (with_reducible refine cD ?_))); (case side4 => exact (rR HO_325007.out).2.1); (case side5 => repeat (first | exact (rR HO_308005.out).2.2 | (with_reducible refine cA ?_ _) | (with_reducible refine cN ?_ _) | (with_reducible refine cD ?_))); (case side6 => exact (rR HO_308005.out).2.1); (case side7 => repeat (first | exact (rR HO_308007.out).2.2 | (with_reducible refine cA ?_ _) | (with_reducible refine cN ?_ _) | (with_reducible refine cD ?_))); (case side8 => exact (rR HO_308007.out).2.1); rintro e w49 ⟨rfl, hb⟩; have n0_ := As.mk (rB (by (with_reducible repeat first | apply rA | apply rN | apply rD); exact HO_7.out) hb); have n1_ := As.mk (rB (by (with_reducible repeat first | apply rA | apply rN | apply rD); exact HO_308005.out) hb); have n2_ := As.mk (rB (by (with_reducible repeat first | apply rA | apply rN | apply rD); exact HO_308007.out) hb); have n3_ := As.mk (rB (by (with_reducible repeat first | apply rA | apply rN | apply rD); exact HO_325005.out) hb); have n4_ := As.mk (rB (by (with_reducible repeat first | apply rA | apply rN | apply rD); exact HO_325007.out) hb); have n5_ := As.mk (rB (by (with_reducible repeat first | apply rA | apply rN | apply rD); exact HO328.out) hb); have n6_ := As.mk (bb (g := gb307) (o := .cells #[.int .i64 t294, .int .i64 t295, .int .i64 t296, .int .i64 t297, .int .i64 t298, .slice Ao14 t299.length co14, .int .i64 t302, .slice Ao15 t303.length co15] 51 (0, 0)) (by (with_reducible repeat first | apply bN | apply bD | apply bA); exact BK307.out) hb); have n7_ := As.mk (bb (g := gb324) (o := .cells #[.int .i64 t311, .int .i64 t312, .int .i64 t313, .int .i64 t314, .int .i64 t315, .slice Ao22 t316.length co22, .int .i64 t319, .slice Ao23 t320.length co23] 51 (0, 0)) (by (with_reducible repeat first | apply bN | apply bD | apply bA); exact BK324.out) hb); have n8_ := As.mk (bt (by repeat (first | (with_reducible first | exact HB.out | apply ba | apply bw | apply b1 | refine bs ?_ GE307.out | refine bs ?_ GE324.out) | exact HB.out)) hb); clear HO_7; clear HO_308005; clear HO_308007; clear HO_325005; clear HO_325007; clear HO328; clear BK307; clear BK324; clear HB; have HO_7 := n0_; have HO_308005 := n1_; have HO_308007 := n2_; have HO_325005 := n3_; have HO_325007 := n4_; have HO328 := n5_; have BK307 := n6_; have BK324 := n7_; have HB := n8_; clear n0_ n1_ n2_ n3_ n4_ n5_ n6_ n7_ n8_; (try clear hb); (try clear hb2); (try clear hk); (try clear hi)))
         go_meet
         case rel => exact ⟨_, ((t323 != t306)), (by first | rfl | (simp; done) | (simp [*]; done)), H', ⟨by have := HJ7.out; first | omega | exact Nat.le_refl _⟩, ⟨by (with_reducible repeat first | apply rA | apply rN | apply rD); exact HO_308005.out⟩, ⟨by (with_reducible repeat first | apply rA | apply rN | apply rD); exact HO_308007.out⟩, ⟨by (with_reducible repeat first | apply rA | apply rN | apply rD); exact HO_325005.out⟩, ⟨by (with_reducible repeat first | apply rA | apply rN | apply rD); exact HO_325007.out⟩, ⟨by (with_reducible repeat first | apply bN | apply bD | apply bA); exact BK307.out⟩, ⟨by (with_reducible repeat first | apply bN | apply bD | apply bA); exact BK324.out⟩, ⟨by repeat (first | (with_reducible first | exact HB.out | apply ba | apply bw | apply b1 | refine bs ?_ GE307.out | refine bs ?_ GE324.out) | exact HB.out)⟩⟩
        ·replace c45 := Bool.eq_false_iff.mpr c45
         subst c45
         have H1 : (laws_FnExactSparseOf.j1 kj7 l0 a1 t306 true t294 t295 t296 t297 t298 t299 t302 t303 t311 t312 t313 t314 t315 t316 t319 t320) = some r := by rw [if_neg (show ¬ (false = true) by decide)] at H; exact H
         clear H
         have H := H1
         clear H1
         have H' := As.mk H
         clear H
         have hnb50 := NB324_307.out
         have hnc50 := NB307_324.out
         have hcz51_0 : w42.cell? ⟨gb324, 0, none⟩ = some (.int .i64 t311) := (blk_cell BK324.out 0).trans rfl
         have hcz51_1 : w42.cell? ⟨gb324, 1, none⟩ = some (.int .i64 t312) := (blk_cell BK324.out 1).trans rfl
         have hcz51_2 : w42.cell? ⟨gb324, 2, none⟩ = some (.int .i64 t313) := (blk_cell BK324.out 2).trans rfl
         have hcz51_3 : w42.cell? ⟨gb324, 3, none⟩ = some (.int .i64 t314) := (blk_cell BK324.out 3).trans rfl
         have hcz51_4 : w42.cell? ⟨gb324, 4, none⟩ = some (.int .i64 t315) := (blk_cell BK324.out 4).trans rfl
         have hcz51_5 : w42.cell? ⟨gb324, 5, none⟩ = some (.slice Ao22 t316.length co22) := (blk_cell BK324.out 5).trans rfl
         have hcz51_6 : w42.cell? ⟨gb324, 6, none⟩ = some (.int .i64 t319) := (blk_cell BK324.out 6).trans rfl
         have hcz51_7 : w42.cell? ⟨gb324, 7, none⟩ = some (.slice Ao23 t320.length co23) := (blk_cell BK324.out 7).trans rfl
         have hfz51_0 := blk_frozen BK324.out 0
         have hfz51_1 := blk_frozen BK324.out 1
         have hfz51_2 := blk_frozen BK324.out 2
         have hfz51_3 := blk_frozen BK324.out 3
         have hfz51_4 := blk_frozen BK324.out 4
         have hfz51_5 := blk_frozen BK324.out 5
         have hfz51_6 := blk_frozen BK324.out 6
         have hfz51_7 := blk_frozen BK324.out 7
         have hcz52_0 : w42.cell? ⟨gb307, 0, none⟩ = some (.int .i64 t294) := (blk_cell BK307.out 0).trans rfl
         have hcz52_1 : w42.cell? ⟨gb307, 1, none⟩ = some (.int .i64 t295) := (blk_cell BK307.out 1).trans rfl
         have hcz52_2 : w42.cell? ⟨gb307, 2, none⟩ = some (.int .i64 t296) := (blk_cell BK307.out 2).trans rfl
         have hcz52_3 : w42.cell? ⟨gb307, 3, none⟩ = some (.int .i64 t297) := (blk_cell BK307.out 3).trans rfl
         have hcz52_4 : w42.cell? ⟨gb307, 4, none⟩ = some (.int .i64 t298) := (blk_cell BK307.out 4).trans rfl
         have hcz52_5 : w42.cell? ⟨gb307, 5, none⟩ = some (.slice Ao14 t299.length co14) := (blk_cell BK307.out 5).trans rfl
         have hcz52_6 : w42.cell? ⟨gb307, 6, none⟩ = some (.int .i64 t302) := (blk_cell BK307.out 6).trans rfl
         have hcz52_7 : w42.cell? ⟨gb307, 7, none⟩ = some (.slice Ao15 t303.length co15) := (blk_cell BK307.out 7).trans rfl
         have hfz52_0 := blk_frozen BK307.out 0
         have hfz52_1 := blk_frozen BK307.out 1
         have hfz52_2 := blk_frozen BK307.out 2
         have hfz52_3 := blk_frozen BK307.out 3
         have hfz52_4 := blk_frozen BK307.out 4
         have hfz52_5 := blk_frozen BK307.out 5
         have hfz52_6 := blk_frozen BK307.out 6
         have hfz52_7 := blk_frozen BK307.out 7
         go_wp2_with (first | (go_at_call 33; (with_reducible refine (laws_eqSparse.calls kj7 t311 t312 t313 t314 t315 _ _ t316 t319 _ _ t320 t294 t295 t296 t297 t298 _ _ t299 t302 _ _ t303 false _ ?side1 ?side2 ?side3 ?side4 ?side5 ?side6 ?side7 ?side8 A44.out).mono ?_); (case side1 => repeat (first | exact (rR HO_325005.out).2.2 | (with_reducible refine cA ?_ _) | (with_reducible refine cN ?_ _) | (with_reducible refine cD ?_))); (case side2 => exact (rR HO_325005.out).2.1); (case side3 => repeat (first | exact (rR HO_325007.out).2.2 | (with_reducible refine cA ?_ _) | (with_reducible refine cN ?_ _) | (with_reducible refine cD ?_))); (case side4 => exact (rR HO_325007.out).2.1); (case side5 => repeat (first | exact (rR HO_308005.out).2.2 | (with_reducible refine cA ?_ _) | (with_reducible refine cN ?_ _) | (with_reducible refine cD ?_))); (case side6 => exact (rR HO_308005.out).2.1); (case side7 => repeat (first | exact (rR HO_308007.out).2.2 | (with_reducible refine cA ?_ _) | (with_reducible refine cN ?_ _) | (with_reducible refine cD ?_))); (case side8 => exact (rR HO_308007.out).2.1); rintro e w53 ⟨rfl, hb⟩; have n0_ := As.mk (rB (by (with_reducible repeat first | apply rA | apply rN | apply rD); exact HO_7.out) hb); have n1_ := As.mk (rB (by (with_reducible repeat first | apply rA | apply rN | apply rD); exact HO_308005.out) hb); have n2_ := As.mk (rB (by (with_reducible repeat first | apply rA | apply rN | apply rD); exact HO_308007.out) hb); have n3_ := As.mk (rB (by (with_reducible repeat first | apply rA | apply rN | apply rD); exact HO_325005.out) hb); have n4_ := As.mk (rB (by (with_reducible repeat first | apply rA | apply rN | apply rD); exact HO_325007.out) hb); have n5_ := As.mk (rB (by (with_reducible repeat first | apply rA | apply rN | apply rD); exact HO328.out) hb); have n6_ := As.mk (bb (g := gb307) (o := .cells #[.int .i64 t294, .int .i64 t295, .int .i64 t296, .int .i64 t297, .int .i64 t298, .slice Ao14 t299.length co14, .int .i64 t302, .slice Ao15 t303.length co15] 51 (0, 0)) (by (with_reducible repeat first | apply bN | apply bD | apply bA); exact BK307.out) hb); have n7_ := As.mk (bb (g := gb324) (o := .cells #[.int .i64 t311, .int .i64 t312, .int .i64 t313, .int .i64 t314, .int .i64 t315, .slice Ao22 t316.length co22, .int .i64 t319, .slice Ao23 t320.length co23] 51 (0, 0)) (by (with_reducible repeat first | apply bN | apply bD | apply bA); exact BK324.out) hb); have n8_ := As.mk (bt (by repeat (first | (with_reducible first | exact HB.out | apply ba | apply bw | apply b1 | refine bs ?_ GE307.out | refine bs ?_ GE324.out) | exact HB.out)) hb); clear HO_7; clear HO_308005; clear HO_308007; clear HO_325005; clear HO_325007; clear HO328; clear BK307; clear BK324; clear HB; have HO_7 := n0_; have HO_308005 := n1_; have HO_308007 := n2_; have HO_325005 := n3_; have HO_325007 := n4_; have HO328 := n5_; have BK307 := n6_; have BK324 := n7_; have HB := n8_; clear n0_ n1_ n2_ n3_ n4_ n5_ n6_ n7_ n8_; (try clear hb); (try clear hb2); (try clear hk); (try clear hi)))
         go_meet
         case rel => exact ⟨_, (true), (by first | rfl | (simp; done) | (simp [*]; done)), H', ⟨by have := HJ7.out; first | omega | exact Nat.le_refl _⟩, ⟨by (with_reducible repeat first | apply rA | apply rN | apply rD); exact HO_308005.out⟩, ⟨by (with_reducible repeat first | apply rA | apply rN | apply rD); exact HO_308007.out⟩, ⟨by (with_reducible repeat first | apply rA | apply rN | apply rD); exact HO_325005.out⟩, ⟨by (with_reducible repeat first | apply rA | apply rN | apply rD); exact HO_325007.out⟩, ⟨by (with_reducible repeat first | apply bN | apply bD | apply bA); exact BK307.out⟩, ⟨by (with_reducible repeat first | apply bN | apply bD | apply bA); exact BK324.out⟩, ⟨by repeat (first | (with_reducible first | exact HB.out | apply ba | apply bw | apply b1 | refine bs ?_ GE307.out | refine bs ?_ GE324.out) | exact HB.out)⟩⟩
      case rest =>
       clear HC39
       try clear c1
       try clear c2
       try clear p2
       try clear c3
       try clear c3b0
       try clear c3b1
       try clear c4
       try clear c5
       try clear c8
       try clear c18
       try clear c20
       try clear c21
       try clear c25
       try clear c26
       try clear c30
       try clear c31
       try clear c32
       try clear c33
       try clear c34
       try clear c37
       try clear c43
       try clear c43b0
       try clear c45
       try clear c46
       try clear c50
       try clear hcz13_0
       try clear hcz13_1
       try clear hcz13_2
       try clear hcz13_3
       try clear hcz13_4
       try clear hcz13_5
       try clear hcz13_6
       try clear hcz13_7
       try clear hcz21_0
       try clear hcz21_1
       try clear hcz21_2
       try clear hcz21_3
       try clear hcz21_4
       try clear hcz21_5
       try clear hcz21_6
       try clear hcz21_7
       try clear hcz27_0
       try clear hcz27_1
       try clear hcz27_2
       try clear hcz27_3
       try clear hcz27_4
       try clear hcz27_5
       try clear hcz27_6
       try clear hcz27_7
       try clear hcz28_0
       try clear hcz28_1
       try clear hcz28_2
       try clear hcz28_3
       try clear hcz28_4
       try clear hcz28_5
       try clear hcz28_6
       try clear hcz28_7
       try clear hcz31_0
       try clear hcz31_1
       try clear hcz31_2
       try clear hcz31_3
       try clear hcz31_4
       try clear hcz31_5
       try clear hcz31_6
       try clear hcz31_7
       try clear hcz32_0
       try clear hcz32_1
       try clear hcz32_2
       try clear hcz32_3
       try clear hcz32_4
       try clear hcz32_5
       try clear hcz32_6
       try clear hcz32_7
       try clear hcz47_0
       try clear hcz47_1
       try clear hcz47_2
       try clear hcz47_3
       try clear hcz47_4
       try clear hcz47_5
       try clear hcz47_6
       try clear hcz47_7
       try clear hcz48_0
       try clear hcz48_1
       try clear hcz48_2
       try clear hcz48_3
       try clear hcz48_4
       try clear hcz48_5
       try clear hcz48_6
       try clear hcz48_7
       try clear hcz51_0
       try clear hcz51_1
       try clear hcz51_2
       try clear hcz51_3
       try clear hcz51_4
       try clear hcz51_5
       try clear hcz51_6
       try clear hcz51_7
       try clear hcz52_0
       try clear hcz52_1
       try clear hcz52_2
       try clear hcz52_3
       try clear hcz52_4
       try clear hcz52_5
       try clear hcz52_6
       try clear hcz52_7
       try clear hfz13_0
       try clear hfz13_1
       try clear hfz13_2
       try clear hfz13_3
       try clear hfz13_4
       try clear hfz13_5
       try clear hfz13_6
       try clear hfz13_7
       try clear hfz21_0
       try clear hfz21_1
       try clear hfz21_2
       try clear hfz21_3
       try clear hfz21_4
       try clear hfz21_5
       try clear hfz21_6
       try clear hfz21_7
       try clear hfz27_0
       try clear hfz27_1
       try clear hfz27_2
       try clear hfz27_3
       try clear hfz27_4
       try clear hfz27_5
       try clear hfz27_6
       try clear hfz27_7
       try clear hfz28_0
       try clear hfz28_1
       try clear hfz28_2
       try clear hfz28_3
       try clear hfz28_4
       try clear hfz28_5
       try clear hfz28_6
       try clear hfz28_7
       try clear hfz31_0
       try clear hfz31_1
       try clear hfz31_2
       try clear hfz31_3
       try clear hfz31_4
       try clear hfz31_5
       try clear hfz31_6
       try clear hfz31_7
       try clear hfz32_0
       try clear hfz32_1
       try clear hfz32_2
       try clear hfz32_3
       try clear hfz32_4
       try clear hfz32_5
       try clear hfz32_6
       try clear hfz32_7
       try clear hfz47_0
       try clear hfz47_1
       try clear hfz47_2
       try clear hfz47_3
       try clear hfz47_4
       try clear hfz47_5
       try clear hfz47_6
       try clear hfz47_7
       try clear hfz48_0
       try clear hfz48_1
       try clear hfz48_2
       try clear hfz48_3
       try clear hfz48_4
       try clear hfz48_5
       try clear hfz48_6
       try clear hfz48_7
       try clear hfz51_0
       try clear hfz51_1
       try clear hfz51_2
       try clear hfz51_3
       try clear hfz51_4
       try clear hfz51_5
       try clear hfz51_6
       try clear hfz51_7
       try clear hfz52_0
       try clear hfz52_1
       try clear hfz52_2
       try clear hfz52_3
       try clear hfz52_4
       try clear hfz52_5
       try clear hfz52_6
       try clear hfz52_7
       try clear p2
       obtain ⟨kq, x62_38, rfl, HA, HJ38, HO_308005, HO_308007, HO_325005, HO_325007, BK307, BK324, HB⟩ := hcut
       cases kq with
       | zero => exact absurd HA.out (by simp [laws_FnExactSparseOf.j1])
       | succ kj38 =>
        have H := HA.out
        clear HA
        simp only [laws_FnExactSparseOf.j1] at H
        by_cases c54 : x62_38 = true
        ·subst c54
         have H1 : (some false) = some r := by rw [if_pos rfl] at H; exact H
         clear H
         have H := H1
         clear H1
         exact absurd ((Option.some.inj H).trans HRT_.out) (by decide)
        ·replace c54 := Bool.eq_false_iff.mpr c54
         subst c54
         have H1 : ((laws_markSparse.f kj38 t311 t312 t313 t314 t315 t316 t319 t320 1).bind fun bt333 => ((laws_heldSparse.f kj38 t311 t312 t313 t314 t315 bt333.2.1 t319 bt333.2.2 1).bind fun t336 => (if t336 < 0 then (some false) else (if t336 = bt333.1 then ((laws_toIntS.f kj38 l0).bind fun t337 => ((impl_SparseOf.f kj38 t337 a1).bind fun bt340 => ((laws_eqSparse.f kj38 bt340.1 bt340.2.1 bt340.2.2.1 bt340.2.2.2.1 bt340.2.2.2.2.1 bt340.2.2.2.2.2.1 bt340.2.2.2.2.2.2.1 bt340.2.2.2.2.2.2.2.1 t294 t295 t296 t297 t298 t299 t302 t303).bind fun t354 => (if t354 = true then (laws_FnExactSparseOf.j2 kj38 bt333.1 (bt340.2.2.2.2.2.2.2.2 != t306) t311 t312 t313 t314 t315 bt333.2.1 t319 bt333.2.2) else (laws_FnExactSparseOf.j2 kj38 bt333.1 true t311 t312 t313 t314 t315 bt333.2.1 t319 bt333.2.2))))) else (some false))))) = some r := by rw [if_neg (show ¬ (false = true) by decide)] at H; exact H
         clear H
         have H := H1
         clear H1
         replace H := Option.bind_eq_some_iff.mp H
         obtain ⟨⟨t333, t334, t335⟩, A550, H⟩ := H
         replace H : ((laws_heldSparse.f kj38 t311 t312 t313 t314 t315 t334 t319 t335 1).bind fun t336 => (if t336 < 0 then (some false) else (if t336 = t333 then ((laws_toIntS.f kj38 l0).bind fun t337 => ((impl_SparseOf.f kj38 t337 a1).bind fun bt340 => ((laws_eqSparse.f kj38 bt340.1 bt340.2.1 bt340.2.2.1 bt340.2.2.2.1 bt340.2.2.2.2.1 bt340.2.2.2.2.2.1 bt340.2.2.2.2.2.2.1 bt340.2.2.2.2.2.2.2.1 t294 t295 t296 t297 t298 t299 t302 t303).bind fun t354 => (if t354 = true then (laws_FnExactSparseOf.j2 kj38 t333 (bt340.2.2.2.2.2.2.2.2 != t306) t311 t312 t313 t314 t315 t334 t319 t335) else (laws_FnExactSparseOf.j2 kj38 t333 true t311 t312 t313 t314 t315 t334 t319 t335))))) else (some false)))) = some r := H
         have A55 := As.mk A550
         clear A550
         replace H := Option.bind_eq_some_iff.mp H
         obtain ⟨t336, A560, H⟩ := H
         replace H : (if t336 < 0 then (some false) else (if t336 = t333 then ((laws_toIntS.f kj38 l0).bind fun t337 => ((impl_SparseOf.f kj38 t337 a1).bind fun bt340 => ((laws_eqSparse.f kj38 bt340.1 bt340.2.1 bt340.2.2.1 bt340.2.2.2.1 bt340.2.2.2.2.1 bt340.2.2.2.2.2.1 bt340.2.2.2.2.2.2.1 bt340.2.2.2.2.2.2.2.1 t294 t295 t296 t297 t298 t299 t302 t303).bind fun t354 => (if t354 = true then (laws_FnExactSparseOf.j2 kj38 t333 (bt340.2.2.2.2.2.2.2.2 != t306) t311 t312 t313 t314 t315 t334 t319 t335) else (laws_FnExactSparseOf.j2 kj38 t333 true t311 t312 t313 t314 t315 t334 t319 t335))))) else (some false))) = some r := H
         have A56 := As.mk A560
         clear A560
         by_cases c57 : t336 < 0
         ·rw [if_pos c57] at H
          have c57b0 : decide (t336 < 0) = true := decide_eq_true c57
          clear c57
          exact absurd ((Option.some.inj H).trans HRT_.out) (by decide)
         ·rw [if_neg c57] at H
          have c57b0 : decide (t336 < 0) = false := decide_eq_false c57
          clear c57
          by_cases c63 : t336 = t333
          ·rw [if_pos c63] at H
           have c63b0 : (t336 == t333) = true := beq_iff_eq.mpr c63
           have c63b1 : (t336 != t333) = false := bne_eq_false_iff_eq.mpr c63
           clear c63
           replace H := Option.bind_eq_some_iff.mp H
           obtain ⟨t337, A640, H⟩ := H
           replace H : ((impl_SparseOf.f kj38 t337 a1).bind fun bt340 => ((laws_eqSparse.f kj38 bt340.1 bt340.2.1 bt340.2.2.1 bt340.2.2.2.1 bt340.2.2.2.2.1 bt340.2.2.2.2.2.1 bt340.2.2.2.2.2.2.1 bt340.2.2.2.2.2.2.2.1 t294 t295 t296 t297 t298 t299 t302 t303).bind fun t354 => (if t354 = true then (laws_FnExactSparseOf.j2 kj38 t333 (bt340.2.2.2.2.2.2.2.2 != t306) t311 t312 t313 t314 t315 t334 t319 t335) else (laws_FnExactSparseOf.j2 kj38 t333 true t311 t312 t313 t314 t315 t334 t319 t335)))) = some r := H
           have A64 := As.mk A640
           clear A640
           replace H := Option.bind_eq_some_iff.mp H
           obtain ⟨⟨t340, t341, t342, t343, t344, t345, t348, t349, t352⟩, A650, H⟩ := H
           replace H : ((laws_eqSparse.f kj38 t340 t341 t342 t343 t344 t345 t348 t349 t294 t295 t296 t297 t298 t299 t302 t303).bind fun t354 => (if t354 = true then (laws_FnExactSparseOf.j2 kj38 t333 (t352 != t306) t311 t312 t313 t314 t315 t334 t319 t335) else (laws_FnExactSparseOf.j2 kj38 t333 true t311 t312 t313 t314 t315 t334 t319 t335))) = some r := H
           have A65 := As.mk A650
           clear A650
           have HC66 := As.mk H
           clear H
           have hnb67 := NB324_307.out
           have hnc67 := NB307_324.out
           have hcz68_0 : wc.cell? ⟨gb324, 0, none⟩ = some (.int .i64 t311) := (blk_cell BK324.out 0).trans rfl
           have hcz68_1 : wc.cell? ⟨gb324, 1, none⟩ = some (.int .i64 t312) := (blk_cell BK324.out 1).trans rfl
           have hcz68_2 : wc.cell? ⟨gb324, 2, none⟩ = some (.int .i64 t313) := (blk_cell BK324.out 2).trans rfl
           have hcz68_3 : wc.cell? ⟨gb324, 3, none⟩ = some (.int .i64 t314) := (blk_cell BK324.out 3).trans rfl
           have hcz68_4 : wc.cell? ⟨gb324, 4, none⟩ = some (.int .i64 t315) := (blk_cell BK324.out 4).trans rfl
           have hcz68_5 : wc.cell? ⟨gb324, 5, none⟩ = some (.slice Ao22 t316.length co22) := (blk_cell BK324.out 5).trans rfl
           have hcz68_6 : wc.cell? ⟨gb324, 6, none⟩ = some (.int .i64 t319) := (blk_cell BK324.out 6).trans rfl
           have hcz68_7 : wc.cell? ⟨gb324, 7, none⟩ = some (.slice Ao23 t320.length co23) := (blk_cell BK324.out 7).trans rfl
           have hfz68_0 := blk_frozen BK324.out 0
           have hfz68_1 := blk_frozen BK324.out 1
           have hfz68_2 := blk_frozen BK324.out 2
           have hfz68_3 := blk_frozen BK324.out 3
           have hfz68_4 := blk_frozen BK324.out 4
           have hfz68_5 := blk_frozen BK324.out 5
           have hfz68_6 := blk_frozen BK324.out 6
           have hfz68_7 := blk_frozen BK324.out 7
           go_upto_region 23 with (first | ((with_reducible refine gc (f := 34) rfl ?_); refine goesL_ (some 65) rfl rfl Try.func34 (by kernel_rfl) rfl #[.agg #[.int .i64 t311, .int .i64 t312, .int .i64 t313, .int .i64 t314, .int .i64 t315, .slice Ao22 t316.length co22, .int .i64 t319, .slice Ao23 t320.length co23], .int .i64 1] rfl (by (try simp only [List.map_toArray, List.map_cons, List.map_nil]); first | done | rfl | (simp only [List.length_drop, List.length_take]; rfl)) ?_; (with_reducible refine (laws_markSparse.calls kj38 t311 t312 t313 t314 t315 (fun k_ => some k_ = (.slice Ao22 t316.length co22 : Value).ownBlock) (.slice Ao22 t316.length co22) t316 t319 (fun k_ => some k_ = (.slice Ao23 t320.length co23 : Value).ownBlock) (.slice Ao23 t320.length co23) t320 1 t333 t334 t335 w _ ?side1 ?side2 ?side3 ?side4 ?side5 A55.out).mono ?_); (case side1 => repeat (first | (with_reducible first | exact HB.out | apply ba | apply bw | apply b1 | refine bs ?_ GE307.out | refine bs ?_ GE324.out) | exact HB.out)); (case side2 => exact Kd.R_tight rfl HO_325005.out); (case side3 => exact fun k_ e_ => (HO_325005.out.1 k_ e_.symm).2.2); (case side4 => exact Kd.R_tight rfl HO_325007.out); (case side5 => exact fun k_ e_ => (HO_325007.out.1 k_ e_.symm).2.2); rintro e w69 ⟨rfl, hy0, hy1, hb, hkp⟩; refine ⟨_, rfl, ?_⟩; have n0_ := As.mk (Kd.R_mono (ok' := fun k_ => some k_ ≠ (.slice Ao15 t303.length co15 : Value).ownBlock ∧ some k_ ≠ (.slice Ao22 t316.length co22 : Value).ownBlock ∧ some k_ ≠ (.slice Ao23 t320.length co23 : Value).ownBlock) (Kd.R_keptB (HO_308005.out) hkp (fun k_ hk_ hs_ => Or.elim hs_ (fun e_ => (hk_.2.1) e_) (fun e_ => (hk_.2.2) e_))) (by first | exact (fun k_ hk_ => ⟨hk_.1.1, hk_.1.2.1, hk_.1.2.2⟩) | (intro k_ hk_; simp [hk_]))); have n1_ := As.mk (Kd.R_mono (ok' := fun k_ => some k_ ≠ (.slice Ao14 t299.length co14 : Value).ownBlock ∧ some k_ ≠ (.slice Ao22 t316.length co22 : Value).ownBlock ∧ some k_ ≠ (.slice Ao23 t320.length co23 : Value).ownBlock) (Kd.R_keptB (HO_308007.out) hkp (fun k_ hk_ hs_ => Or.elim hs_ (fun e_ => (hk_.2.1) e_) (fun e_ => (hk_.2.2) e_))) (by first | exact (fun k_ hk_ => ⟨hk_.1.1, hk_.1.2.1, hk_.1.2.2⟩) | (intro k_ hk_; simp [hk_]))); have n2_ := As.mk (Kd.R_reok rfl hy0 (fun k_ e_ => HO_325005.out.1 k_ e_)); have n3_ := As.mk (Kd.R_reok rfl hy1 (fun k_ e_ => HO_325007.out.1 k_ e_)); have n4_ := As.mk (blk_kept (by (with_reducible repeat first | apply bN | apply bD | apply bA); exact BK307.out) hkp (fun hs_ => Or.elim hs_ (fun e_ => (fun e_ => (Kd.R_ne HO_325005.out BK307.out (by decide)) e_) e_) (fun e_ => (fun e_ => (Kd.R_ne HO_325007.out BK307.out (by decide)) e_) e_))); have n5_ := As.mk (blk_kept (by (with_reducible repeat first | apply bN | apply bD | apply bA); exact BK324.out) hkp (fun hs_ => Or.elim hs_ (fun e_ => (fun e_ => (Kd.R_ne HO_325005.out BK324.out (by decide)) e_) e_) (fun e_ => (fun e_ => (Kd.R_ne HO_325007.out BK324.out (by decide)) e_) e_))); have n6_ := As.mk (hb); clear HO_308005; clear HO_308007; clear HO_325005; clear HO_325007; clear BK307; clear BK324; clear HB; have HO_308005 := n0_; have HO_308007 := n1_; have HO_325005 := n2_; have HO_325007 := n3_; have BK307 := n4_; have BK324 := n5_; have HB := n6_; clear n0_ n1_ n2_ n3_ n4_ n5_ n6_; (try clear hb); (try clear hkp); (try clear hy0); (try clear hy1); have hcz70_0 : w69.cell? ⟨gb324, 0, none⟩ = some (.int .i64 t311) := (blk_cell BK324.out 0).trans rfl; have hcz70_1 : w69.cell? ⟨gb324, 1, none⟩ = some (.int .i64 t312) := (blk_cell BK324.out 1).trans rfl; have hcz70_2 : w69.cell? ⟨gb324, 2, none⟩ = some (.int .i64 t313) := (blk_cell BK324.out 2).trans rfl; have hcz70_3 : w69.cell? ⟨gb324, 3, none⟩ = some (.int .i64 t314) := (blk_cell BK324.out 3).trans rfl; have hcz70_4 : w69.cell? ⟨gb324, 4, none⟩ = some (.int .i64 t315) := (blk_cell BK324.out 4).trans rfl; have hcz70_5 : w69.cell? ⟨gb324, 5, none⟩ = some (.slice Ao22 t316.length co22) := (blk_cell BK324.out 5).trans rfl; have hcz70_6 : w69.cell? ⟨gb324, 6, none⟩ = some (.int .i64 t319) := (blk_cell BK324.out 6).trans rfl; have hcz70_7 : w69.cell? ⟨gb324, 7, none⟩ = some (.slice Ao23 t320.length co23) := (blk_cell BK324.out 7).trans rfl; have hfz70_0 := blk_frozen BK324.out 0; have hfz70_1 := blk_frozen BK324.out 1; have hfz70_2 := blk_frozen BK324.out 2; have hfz70_3 := blk_frozen BK324.out 3; have hfz70_4 := blk_frozen BK324.out 4; have hfz70_5 := blk_frozen BK324.out 5; have hfz70_6 := blk_frozen BK324.out 6; have hfz70_7 := blk_frozen BK324.out 7) | ((with_reducible refine gc (f := 35) rfl ?_); refine goesL_ (some 68) rfl rfl Try.func35 (by kernel_rfl) rfl #[.agg #[.int .i64 t311, .int .i64 t312, .int .i64 t313, .int .i64 t314, .int .i64 t315, .slice Ao22 t334.length co22, .int .i64 t319, .slice Ao23 t335.length co23], .int .i64 1] rfl (by (try simp only [List.map_toArray, List.map_cons, List.map_nil]); first | done | (rw [show t334.length = t316.length from (rR HO_325005.out).1.symm, show t335.length = t320.length from (rR HO_325007.out).1.symm] <;> rfl) | rfl | (simp only [List.length_drop, List.length_take]; rfl)) ?_; (with_reducible refine (laws_heldSparse.calls kj38 t311 t312 t313 t314 t315 _ _ t334 t319 _ _ t335 1 t336 _ ?side1 ?side2 ?side3 ?side4 A56.out).mono ?_); (case side1 => repeat (first | exact (rR HO_325005.out).2.2 | (with_reducible refine cA ?_ _) | (with_reducible refine cN ?_ _) | (with_reducible refine cD ?_))); (case side2 => rw [show t334.length = t316.length from (rR HO_325005.out).1.symm]; exact (rR HO_325005.out).2.1); (case side3 => repeat (first | exact (rR HO_325007.out).2.2 | (with_reducible refine cA ?_ _) | (with_reducible refine cN ?_ _) | (with_reducible refine cD ?_))); (case side4 => rw [show t335.length = t320.length from (rR HO_325007.out).1.symm]; exact (rR HO_325007.out).2.1); rintro e w71 ⟨rfl, hb⟩; refine ⟨_, rfl, ?_⟩; have n0_ := As.mk (rB (by (with_reducible repeat first | apply rA | apply rN | apply rD); exact HO_308005.out) hb); have n1_ := As.mk (rB (by (with_reducible repeat first | apply rA | apply rN | apply rD); exact HO_308007.out) hb); have n2_ := As.mk (rB (by (with_reducible repeat first | apply rA | apply rN | apply rD); exact HO_325005.out) hb); have n3_ := As.mk (rB (by (with_reducible repeat first | apply rA | apply rN | apply rD); exact HO_325007.out) hb); have n4_ := As.mk (bb (g := gb307) (o := .cells #[.int .i64 t294, .int .i64 t295, .int .i64 t296, .int .i64 t297, .int .i64 t298, .slice Ao14 t299.length co14, .int .i64 t302, .slice Ao15 t303.length co15] 51 (0, 0)) (by (with_reducible repeat first | apply bN | apply bD | apply bA); exact BK307.out) hb); have n5_ := As.mk (bb (g := gb324) (o := .cells #[.int .i64 t311, .int .i64 t312, .int .i64 t313, .int .i64 t314, .int .i64 t315, .slice Ao22 t316.length co22, .int .i64 t319, .slice Ao23 t320.length co23] 51 (0, 0)) (by (with_reducible repeat first | apply bN | apply bD | apply bA); exact BK324.out) hb); have n6_ := As.mk (bt (by repeat (first | (with_reducible first | exact HB.out | apply ba | apply bw | apply b1 | refine bs ?_ GE307.out | refine bs ?_ GE324.out) | exact HB.out)) hb); clear HO_308005; clear HO_308007; clear HO_325005; clear HO_325007; clear BK307; clear BK324; clear HB; have HO_308005 := n0_; have HO_308007 := n1_; have HO_325005 := n2_; have HO_325007 := n3_; have BK307 := n4_; have BK324 := n5_; have HB := n6_; clear n0_ n1_ n2_ n3_ n4_ n5_ n6_; (try clear hb); (try clear hb2); (try clear hk); (try clear hi)) | ((with_reducible refine gc (f := 18) rfl ?_); refine goesL_ (some 76) rfl rfl Try.func18 (by kernel_rfl) rfl #[.slice A0 l0.length c0] rfl (by (try simp only [List.map_toArray, List.map_cons, List.map_nil]); first | done | rfl | (simp only [List.length_drop, List.length_take]; rfl)) ?_; (with_reducible refine (laws_toIntS.calls kj38 _ _ l0 t337 _ ?side1 ?side2 A64.out).mono ?_); (case side1 => repeat (first | exact (cB HR0.out HB.out) | (with_reducible refine cA ?_ _) | (with_reducible refine cN ?_ _) | (with_reducible refine cD ?_))); (case side2 => exact HC0.out); rintro e w72 ⟨v338, rfl, ho0, hb⟩; refine ⟨_, rfl, ?_⟩; have n0_ := As.mk (rB (by (with_reducible repeat first | apply rA | apply rN | apply rD); exact HO_308005.out) hb); have n1_ := As.mk (rB (by (with_reducible repeat first | apply rA | apply rN | apply rD); exact HO_308007.out) hb); have n2_ := As.mk (rB (by (with_reducible repeat first | apply rA | apply rN | apply rD); exact HO_325005.out) hb); have n3_ := As.mk (rB (by (with_reducible repeat first | apply rA | apply rN | apply rD); exact HO_325007.out) hb); have n4_ := As.mk (rL ho0 (bz (by repeat (first | (with_reducible first | exact HB.out | apply ba | apply bw | apply b1 | refine bs ?_ GE307.out | refine bs ?_ GE324.out) | exact HB.out)))); have n5_ := As.mk (bb (g := gb307) (o := .cells #[.int .i64 t294, .int .i64 t295, .int .i64 t296, .int .i64 t297, .int .i64 t298, .slice Ao14 t299.length co14, .int .i64 t302, .slice Ao15 t303.length co15] 51 (0, 0)) (by (with_reducible repeat first | apply bN | apply bD | apply bA); exact BK307.out) hb); have n6_ := As.mk (bb (g := gb324) (o := .cells #[.int .i64 t311, .int .i64 t312, .int .i64 t313, .int .i64 t314, .int .i64 t315, .slice Ao22 t316.length co22, .int .i64 t319, .slice Ao23 t320.length co23] 51 (0, 0)) (by (with_reducible repeat first | apply bN | apply bD | apply bA); exact BK324.out) hb); have n7_ := As.mk (bt (by repeat (first | (with_reducible first | exact HB.out | apply ba | apply bw | apply b1 | refine bs ?_ GE307.out | refine bs ?_ GE324.out) | exact HB.out)) hb); clear HO_308005; clear HO_308007; clear HO_325005; clear HO_325007; clear BK307; clear BK324; clear HB; have HO_308005 := n0_; have HO_308007 := n1_; have HO_325005 := n2_; have HO_325007 := n3_; have HO339 := n4_; have BK307 := n5_; have BK324 := n6_; have HB := n7_; clear n0_ n1_ n2_ n3_ n4_ n5_ n6_ n7_; (try clear hb); (try clear hb2); (try clear hk); (try clear hi); (try clear ho0); obtain ⟨Ao73, co73, eo73⟩ := rS HO339.out; subst eo73) | ((with_reducible refine gc (f := 32) rfl ?_); refine goesL_ (some 78) rfl rfl Try.func32 (by kernel_rfl) rfl #[.slice Ao73 t337.length co73, .int .i64 a1] rfl (by (try simp only [List.map_toArray, List.map_cons, List.map_nil]); first | done | rfl | (simp only [List.length_drop, List.length_take]; rfl)) ?_; (with_reducible refine (impl_SparseOf.calls kj38 _ _ t337 a1 t340 t341 t342 t343 t344 t345 t348 t349 t352 _ ?side1 ?side2 A65.out).mono ?_); (case side1 => repeat (first | exact (rR HO339.out).2.2 | (with_reducible refine cA ?_ _) | (with_reducible refine cN ?_ _) | (with_reducible refine cD ?_))); (case side2 => exact (rR HO339.out).2.1); rintro e w74 ⟨v346, v350, rfl, ho0, ho1, hb⟩; refine ⟨_, rfl, ?_⟩; have n0_ := As.mk (Kd.R_mono (Kd.R_told (Kd.R_told (Kd.R_old (by (with_reducible repeat first | apply rA | apply rN | apply rD); exact HO_308005.out) hb) (Kd.R_base ho0)) (Kd.R_base ho1)) (fun _ h_ => h_.1)); have n1_ := As.mk (Kd.R_mono (Kd.R_told (Kd.R_told (Kd.R_old (by (with_reducible repeat first | apply rA | apply rN | apply rD); exact HO_308007.out) hb) (Kd.R_base ho0)) (Kd.R_base ho1)) (fun _ h_ => h_.1)); have n2_ := As.mk (Kd.R_mono (Kd.R_told (Kd.R_told (Kd.R_old (by (with_reducible repeat first | apply rA | apply rN | apply rD); exact HO_325005.out) hb) (Kd.R_base ho0)) (Kd.R_base ho1)) (fun _ h_ => h_.1)); have n3_ := As.mk (Kd.R_mono (Kd.R_told (Kd.R_told (Kd.R_old (by (with_reducible repeat first | apply rA | apply rN | apply rD); exact HO_325007.out) hb) (Kd.R_base ho0)) (Kd.R_base ho1)) (fun _ h_ => h_.1)); have n4_ := As.mk (rB (by (with_reducible repeat first | apply rA | apply rN | apply rD); exact HO339.out) hb); have n5_ := As.mk (rL (rW (rW (rW (rW ho0 (Kd.R_lt (by (with_reducible repeat first | apply rA | apply rN | apply rD); exact HO_308005.out))) (Kd.R_lt (by (with_reducible repeat first | apply rA | apply rN | apply rD); exact HO_308007.out))) (Kd.R_lt (by (with_reducible repeat first | apply rA | apply rN | apply rD); exact HO_325005.out))) (Kd.R_lt (by (with_reducible repeat first | apply rA | apply rN | apply rD); exact HO_325007.out))) (bz (by repeat (first | (with_reducible first | exact HB.out | apply ba | apply bw | apply b1 | refine bs ?_ GE307.out | refine bs ?_ GE324.out) | exact HB.out)))); have n6_ := As.mk (rL (rW (rW (rW (rW ho1 (Kd.R_lt (by (with_reducible repeat first | apply rA | apply rN | apply rD); exact HO_308005.out))) (Kd.R_lt (by (with_reducible repeat first | apply rA | apply rN | apply rD); exact HO_308007.out))) (Kd.R_lt (by (with_reducible repeat first | apply rA | apply rN | apply rD); exact HO_325005.out))) (Kd.R_lt (by (with_reducible repeat first | apply rA | apply rN | apply rD); exact HO_325007.out))) (bz (by repeat (first | (with_reducible first | exact HB.out | apply ba | apply bw | apply b1 | refine bs ?_ GE307.out | refine bs ?_ GE324.out) | exact HB.out)))); have n7_ := As.mk (bb (g := gb307) (o := .cells #[.int .i64 t294, .int .i64 t295, .int .i64 t296, .int .i64 t297, .int .i64 t298, .slice Ao14 t299.length co14, .int .i64 t302, .slice Ao15 t303.length co15] 51 (0, 0)) (by (with_reducible repeat first | apply bN | apply bD | apply bA); exact BK307.out) hb); have n8_ := As.mk (bb (g := gb324) (o := .cells #[.int .i64 t311, .int .i64 t312, .int .i64 t313, .int .i64 t314, .int .i64 t315, .slice Ao22 t316.length co22, .int .i64 t319, .slice Ao23 t320.length co23] 51 (0, 0)) (by (with_reducible repeat first | apply bN | apply bD | apply bA); exact BK324.out) hb); have n9_ := As.mk (bt (by repeat (first | (with_reducible first | exact HB.out | apply ba | apply bw | apply b1 | refine bs ?_ GE307.out | refine bs ?_ GE324.out) | exact HB.out)) hb); clear HO_308005; clear HO_308007; clear HO_325005; clear HO_325007; clear HO339; clear BK307; clear BK324; clear HB; have HO_308005 := n0_; have HO_308007 := n1_; have HO_325005 := n2_; have HO_325007 := n3_; have HO339 := n4_; have HO347 := n5_; have HO351 := n6_; have BK307 := n7_; have BK324 := n8_; have HB := n9_; clear n0_ n1_ n2_ n3_ n4_ n5_ n6_ n7_ n8_ n9_; (try clear hb); (try clear hb2); (try clear hk); (try clear hi); (try clear ho0); (try clear ho1)) | ((with_reducible refine gd (N := 13) rfl ?_); refine box_event ?hg (N := 13) ?hd (cs := #[.int .i64 0, .int .i64 0, .int .i64 0, .int .i64 0, .int .i64 0, .slice none 0 0, .int .i64 0, .slice none 0 0]) (t := 51) ?hr ?_; (case hd => rfl); (case hg => rfl); (case hr => first | (go_simp; done) | (go_simp; rfl)); intro gb353 hg w75 hbox hb; have n0_ := As.mk (rB (by (with_reducible repeat first | apply rA | apply rN | apply rD); exact HO_308005.out) hb); have n1_ := As.mk (rB (by (with_reducible repeat first | apply rA | apply rN | apply rD); exact HO_308007.out) hb); have n2_ := As.mk (rB (by (with_reducible repeat first | apply rA | apply rN | apply rD); exact HO_325005.out) hb); have n3_ := As.mk (rB (by (with_reducible repeat first | apply rA | apply rN | apply rD); exact HO_325007.out) hb); have n4_ := As.mk (rB (by (with_reducible repeat first | apply rA | apply rN | apply rD); exact HO339.out) hb); have n5_ := As.mk (rB (by (with_reducible repeat first | apply rA | apply rN | apply rD); exact HO347.out) hb); have n6_ := As.mk (rB (by (with_reducible repeat first | apply rA | apply rN | apply rD); exact HO351.out) hb); have n7_ := As.mk (bb (g := gb307) (o := .cells #[.int .i64 t294, .int .i64 t295, .int .i64 t296, .int .i64 t297, .int .i64 t298, .slice Ao14 t299.length co14, .int .i64 t302, .slice Ao15 t303.length co15] 51 (0, 0)) (by (with_reducible repeat first | apply bN | apply bD | apply bA); exact BK307.out) hb); have n8_ := As.mk (bb (g := gb324) (o := .cells #[.int .i64 t311, .int .i64 t312, .int .i64 t313, .int .i64 t314, .int .i64 t315, .slice Ao22 t316.length co22, .int .i64 t319, .slice Ao23 t320.length co23] 51 (0, 0)) (by (with_reducible repeat first | apply bN | apply bD | apply bA); exact BK324.out) hb); have n9_ := As.mk (bt (by repeat (first | (with_reducible first | exact HB.out | apply ba | apply bw | apply b1 | refine bs ?_ GE307.out | refine bs ?_ GE324.out) | exact HB.out)) hb); have n10_ := As.mk (hbox); have n11_ := As.mk ((by rw [hg]; exact (bz (by repeat (first | (with_reducible first | exact HB.out | apply ba | apply bw | apply b1 | refine bs ?_ GE307.out | refine bs ?_ GE324.out) | exact HB.out))) : w.heap.size ≤ gb353)); have n12_ := n11_; have n13_ := As.mk ((by rw [hg]; exact Nat.ne_of_lt (blk_lt (g := gb307) (o := .cells #[.int .i64 t294, .int .i64 t295, .int .i64 t296, .int .i64 t297, .int .i64 t298, .slice Ao14 t299.length co14, .int .i64 t302, .slice Ao15 t303.length co15] 51 (0, 0)) (by (with_reducible repeat first | apply bN | apply bD | apply bA); exact BK307.out)) : gb307 ≠ gb353)); have n14_ := As.mk n13_.out.symm; have n15_ := As.mk ((by rw [hg]; exact Nat.ne_of_lt (blk_lt (g := gb324) (o := .cells #[.int .i64 t311, .int .i64 t312, .int .i64 t313, .int .i64 t314, .int .i64 t315, .slice Ao22 t316.length co22, .int .i64 t319, .slice Ao23 t320.length co23] 51 (0, 0)) (by (with_reducible repeat first | apply bN | apply bD | apply bA); exact BK324.out)) : gb324 ≠ gb353)); have n16_ := As.mk n15_.out.symm; clear HO_308005; clear HO_308007; clear HO_325005; clear HO_325007; clear HO339; clear HO347; clear HO351; clear BK307; clear BK324; clear HB; have HO_308005 := n0_; have HO_308007 := n1_; have HO_325005 := n2_; have HO_325007 := n3_; have HO339 := n4_; have HO347 := n5_; have HO351 := n6_; have BK307 := n7_; have BK324 := n8_; have HB := n9_; have BK353 := n10_; have GW353 := n11_; have GE353 := n12_; have NB307_353 := n13_; have NB353_307 := n14_; have NB324_353 := n15_; have NB353_324 := n16_; clear n0_ n1_ n2_ n3_ n4_ n5_ n6_ n7_ n8_ n9_ n10_ n11_ n12_ n13_ n14_ n15_ n16_; clear hb hbox hg; have hnb76 := NB353_307.out; have hnc76 := NB307_353.out; have hnb77 := NB353_324.out; have hnc77 := NB324_353.out; have hcz78_0 : w75.cell? ⟨gb353, 0, none⟩ = some (.int .i64 0) := (blk_cell BK353.out 0).trans rfl; have hcz78_1 : w75.cell? ⟨gb353, 1, none⟩ = some (.int .i64 0) := (blk_cell BK353.out 1).trans rfl; have hcz78_2 : w75.cell? ⟨gb353, 2, none⟩ = some (.int .i64 0) := (blk_cell BK353.out 2).trans rfl; have hcz78_3 : w75.cell? ⟨gb353, 3, none⟩ = some (.int .i64 0) := (blk_cell BK353.out 3).trans rfl; have hcz78_4 : w75.cell? ⟨gb353, 4, none⟩ = some (.int .i64 0) := (blk_cell BK353.out 4).trans rfl; have hcz78_5 : w75.cell? ⟨gb353, 5, none⟩ = some (.slice none 0 0) := (blk_cell BK353.out 5).trans rfl; have hcz78_6 : w75.cell? ⟨gb353, 6, none⟩ = some (.int .i64 0) := (blk_cell BK353.out 6).trans rfl; have hcz78_7 : w75.cell? ⟨gb353, 7, none⟩ = some (.slice none 0 0) := (blk_cell BK353.out 7).trans rfl; have hfz78_0 := blk_frozen BK353.out 0; have hfz78_1 := blk_frozen BK353.out 1; have hfz78_2 := blk_frozen BK353.out 2; have hfz78_3 := blk_frozen BK353.out 3; have hfz78_4 := blk_frozen BK353.out 4; have hfz78_5 := blk_frozen BK353.out 5; have hfz78_6 := blk_frozen BK353.out 6; have hfz78_7 := blk_frozen BK353.out 7; obtain ⟨Ao79, co79, eo79⟩ := rS HO347.out; subst eo79; obtain ⟨Ao80, co80, eo80⟩ := rS HO351.out; subst eo80))
           (try simp only [Act.put, List.setIfInBounds_toArray, List.set_cons_zero, List.set_cons_succ])
           go_cut [89] (fun v89 wc => ∃ (kq : Nat) (x89_65 : Bool), v89 = .bool x89_65 ∧ As (laws_FnExactSparseOf.j2 kq t333 x89_65 t311 t312 t313 t314 t315 t334 t319 t335 = some r) ∧ As (kq ≤ kj38) ∧ As (Kd.R (Kd.int .u64) 86 wc w.heap.size (fun k_ => some k_ ≠ ((.slice Ao15 t303.length co15) : Value).ownBlock ∧ some k_ ≠ ((.slice Ao22 t316.length co22) : Value).ownBlock ∧ some k_ ≠ ((.slice Ao23 t320.length co23) : Value).ownBlock ∧ some k_ ≠ ((.slice Ao79 t345.length co79) : Value).ownBlock ∧ some k_ ≠ ((.slice Ao80 t349.length co80) : Value).ownBlock) (.slice Ao14 t299.length co14) t299) ∧ As (Kd.R (Kd.int .u64) 86 wc w.heap.size (fun k_ => some k_ ≠ ((.slice Ao14 t299.length co14) : Value).ownBlock ∧ some k_ ≠ ((.slice Ao22 t316.length co22) : Value).ownBlock ∧ some k_ ≠ ((.slice Ao23 t320.length co23) : Value).ownBlock ∧ some k_ ≠ ((.slice Ao79 t345.length co79) : Value).ownBlock ∧ some k_ ≠ ((.slice Ao80 t349.length co80) : Value).ownBlock) (.slice Ao15 t303.length co15) t303) ∧ As (Kd.R (Kd.int .u64) 86 wc w.heap.size (fun k_ => some k_ ≠ ((.slice Ao14 t299.length co14) : Value).ownBlock ∧ some k_ ≠ ((.slice Ao15 t303.length co15) : Value).ownBlock ∧ some k_ ≠ ((.slice Ao23 t320.length co23) : Value).ownBlock ∧ some k_ ≠ ((.slice Ao79 t345.length co79) : Value).ownBlock ∧ some k_ ≠ ((.slice Ao80 t349.length co80) : Value).ownBlock) (.slice Ao22 t316.length co22) t334) ∧ As (Kd.R (Kd.int .u64) 86 wc w.heap.size (fun k_ => some k_ ≠ ((.slice Ao14 t299.length co14) : Value).ownBlock ∧ some k_ ≠ ((.slice Ao15 t303.length co15) : Value).ownBlock ∧ some k_ ≠ ((.slice Ao22 t316.length co22) : Value).ownBlock ∧ some k_ ≠ ((.slice Ao79 t345.length co79) : Value).ownBlock ∧ some k_ ≠ ((.slice Ao80 t349.length co80) : Value).ownBlock) (.slice Ao23 t320.length co23) t335) ∧ As (Kd.R (Kd.int .u64) 86 wc w.heap.size (fun k_ => some k_ ≠ ((.slice Ao14 t299.length co14) : Value).ownBlock ∧ some k_ ≠ ((.slice Ao15 t303.length co15) : Value).ownBlock ∧ some k_ ≠ ((.slice Ao22 t316.length co22) : Value).ownBlock ∧ some k_ ≠ ((.slice Ao23 t320.length co23) : Value).ownBlock ∧ some k_ ≠ ((.slice Ao80 t349.length co80) : Value).ownBlock) (.slice Ao79 t345.length co79) t345) ∧ As (Kd.R (Kd.int .u64) 86 wc w.heap.size (fun k_ => some k_ ≠ ((.slice Ao14 t299.length co14) : Value).ownBlock ∧ some k_ ≠ ((.slice Ao15 t303.length co15) : Value).ownBlock ∧ some k_ ≠ ((.slice Ao22 t316.length co22) : Value).ownBlock ∧ some k_ ≠ ((.slice Ao23 t320.length co23) : Value).ownBlock ∧ some k_ ≠ ((.slice Ao79 t345.length co79) : Value).ownBlock) (.slice Ao80 t349.length co80) t349) ∧ As (wc.heap[gb307]? = some (.cells #[.int .i64 t294, .int .i64 t295, .int .i64 t296, .int .i64 t297, .int .i64 t298, (.slice Ao14 t299.length co14), .int .i64 t302, (.slice Ao15 t303.length co15)] 51 (0, 0))) ∧ As (wc.heap[gb324]? = some (.cells #[.int .i64 t311, .int .i64 t312, .int .i64 t313, .int .i64 t314, .int .i64 t315, (.slice Ao22 t316.length co22), .int .i64 t319, (.slice Ao23 t320.length co23)] 51 (0, 0))) ∧ As (wc.heap[gb353]? = some (.cells #[.int .i64 t340, .int .i64 t341, .int .i64 t342, .int .i64 t343, .int .i64 t344, (.slice Ao79 t345.length co79), .int .i64 t348, (.slice Ao80 t349.length co80)] 51 (0, 0))) ∧ As (Below w.heap.size w wc))
           case first =>
            have H := HC66.out
            clear HC66
            replace H := Option.bind_eq_some_iff.mp H
            obtain ⟨t354, A810, H⟩ := H
            replace H : (if t354 = true then (laws_FnExactSparseOf.j2 kj38 t333 (t352 != t306) t311 t312 t313 t314 t315 t334 t319 t335) else (laws_FnExactSparseOf.j2 kj38 t333 true t311 t312 t313 t314 t315 t334 t319 t335)) = some r := H
            have A81 := As.mk A810
            clear A810
            by_cases c82 : t354 = true
            ·subst c82
             have H1 : (laws_FnExactSparseOf.j2 kj38 t333 (t352 != t306) t311 t312 t313 t314 t315 t334 t319 t335) = some r := by rw [if_pos rfl] at H; exact H
             clear H
             have H := H1
             clear H1
             have H' := As.mk H
             clear H
             have hnb83 := NB353_307.out
             have hnc83 := NB307_353.out
             have hnb84 := NB353_324.out
             have hnc84 := NB324_353.out
             have hcz85_0 : w75.cell? ⟨gb353, 0, none⟩ = some (.int .i64 0) := (blk_cell BK353.out 0).trans rfl
             have hcz85_1 : w75.cell? ⟨gb353, 1, none⟩ = some (.int .i64 0) := (blk_cell BK353.out 1).trans rfl
             have hcz85_2 : w75.cell? ⟨gb353, 2, none⟩ = some (.int .i64 0) := (blk_cell BK353.out 2).trans rfl
             have hcz85_3 : w75.cell? ⟨gb353, 3, none⟩ = some (.int .i64 0) := (blk_cell BK353.out 3).trans rfl
             have hcz85_4 : w75.cell? ⟨gb353, 4, none⟩ = some (.int .i64 0) := (blk_cell BK353.out 4).trans rfl
             have hcz85_5 : w75.cell? ⟨gb353, 5, none⟩ = some (.slice none 0 0) := (blk_cell BK353.out 5).trans rfl
             have hcz85_6 : w75.cell? ⟨gb353, 6, none⟩ = some (.int .i64 0) := (blk_cell BK353.out 6).trans rfl
             have hcz85_7 : w75.cell? ⟨gb353, 7, none⟩ = some (.slice none 0 0) := (blk_cell BK353.out 7).trans rfl
             have hfz85_0 := blk_frozen BK353.out 0
             have hfz85_1 := blk_frozen BK353.out 1
             have hfz85_2 := blk_frozen BK353.out 2
             have hfz85_3 := blk_frozen BK353.out 3
             have hfz85_4 := blk_frozen BK353.out 4
             have hfz85_5 := blk_frozen BK353.out 5
             have hfz85_6 := blk_frozen BK353.out 6
             have hfz85_7 := blk_frozen BK353.out 7
             have hnb86 := NB307_324.out
             have hnc86 := NB324_307.out
             have hcz87_0 : w75.cell? ⟨gb307, 0, none⟩ = some (.int .i64 t294) := (blk_cell BK307.out 0).trans rfl
             have hcz87_1 : w75.cell? ⟨gb307, 1, none⟩ = some (.int .i64 t295) := (blk_cell BK307.out 1).trans rfl
             have hcz87_2 : w75.cell? ⟨gb307, 2, none⟩ = some (.int .i64 t296) := (blk_cell BK307.out 2).trans rfl
             have hcz87_3 : w75.cell? ⟨gb307, 3, none⟩ = some (.int .i64 t297) := (blk_cell BK307.out 3).trans rfl
             have hcz87_4 : w75.cell? ⟨gb307, 4, none⟩ = some (.int .i64 t298) := (blk_cell BK307.out 4).trans rfl
             have hcz87_5 : w75.cell? ⟨gb307, 5, none⟩ = some (.slice Ao14 t299.length co14) := (blk_cell BK307.out 5).trans rfl
             have hcz87_6 : w75.cell? ⟨gb307, 6, none⟩ = some (.int .i64 t302) := (blk_cell BK307.out 6).trans rfl
             have hcz87_7 : w75.cell? ⟨gb307, 7, none⟩ = some (.slice Ao15 t303.length co15) := (blk_cell BK307.out 7).trans rfl
             have hfz87_0 := blk_frozen BK307.out 0
             have hfz87_1 := blk_frozen BK307.out 1
             have hfz87_2 := blk_frozen BK307.out 2
             have hfz87_3 := blk_frozen BK307.out 3
             have hfz87_4 := blk_frozen BK307.out 4
             have hfz87_5 := blk_frozen BK307.out 5
             have hfz87_6 := blk_frozen BK307.out 6
             have hfz87_7 := blk_frozen BK307.out 7
             go_wp2_with (first | ((with_reducible refine gc (f := 33) rfl ?_); refine goesL_ (some 83) rfl rfl Try.func33 (by kernel_rfl) rfl #[.agg #[.int .i64 t340, .int .i64 t341, .int .i64 t342, .int .i64 t343, .int .i64 t344, .slice Ao79 t345.length co79, .int .i64 t348, .slice Ao80 t349.length co80], .agg #[.int .i64 t294, .int .i64 t295, .int .i64 t296, .int .i64 t297, .int .i64 t298, .slice Ao14 t299.length co14, .int .i64 t302, .slice Ao15 t303.length co15]] rfl (by (try simp only [List.map_toArray, List.map_cons, List.map_nil]); first | done | rfl | (simp only [List.length_drop, List.length_take]; rfl)) ?_; (with_reducible refine (laws_eqSparse.calls kj38 t340 t341 t342 t343 t344 _ _ t345 t348 _ _ t349 t294 t295 t296 t297 t298 _ _ t299 t302 _ _ t303 true _ ?side1 ?side2 ?side3 ?side4 ?side5 ?side6 ?side7 ?side8 A81.out).mono ?_); (case side1 => refine (rR (e := 86) (base := w.heap.size) (ok := fun k_ => ((((some k_ ≠ (.slice Ao80 t349.length co80 : Value).ownBlock ∧ some k_ ≠ (.slice Ao14 t299.length co14 : Value).ownBlock) ∧ some k_ ≠ (.slice Ao15 t303.length co15 : Value).ownBlock) ∧ some k_ ≠ (.slice Ao22 t316.length co22 : Value).ownBlock) ∧ some k_ ≠ (.slice Ao23 t320.length co23 : Value).ownBlock)) (n := t345.length) (c := co79) ?_).2.2; exact (by (with_reducible repeat first | apply rA | apply rN | apply rD); exact (Kd.R_mono (Kd.R_far (p := ⟨gb353, 7, none⟩) (Kd.R_far (p := ⟨gb353, 6, none⟩) (Kd.R_far (p := ⟨gb353, 5, none⟩) (Kd.R_far (p := ⟨gb353, 4, none⟩) (Kd.R_far (p := ⟨gb353, 3, none⟩) (Kd.R_far (p := ⟨gb353, 2, none⟩) (Kd.R_far (p := ⟨gb353, 1, none⟩) (Kd.R_far (p := ⟨gb353, 0, none⟩) (Kd.R_types HO347.out BK353.out (by decide)) (fun _ hk => hk.2) (.int .i64 t340)) (fun _ hk => hk.2) (.int .i64 t341)) (fun _ hk => hk.2) (.int .i64 t342)) (fun _ hk => hk.2) (.int .i64 t343)) (fun _ hk => hk.2) (.int .i64 t344)) (fun _ hk => hk.2) (.slice Ao79 t345.length co79)) (fun _ hk => hk.2) (.int .i64 t348)) (fun _ hk => hk.2) (.slice Ao80 t349.length co80)) (fun _ h_ => h_.1)))); (case side2 => exact (rR HO347.out).2.1); (case side3 => refine (rR (e := 86) (base := w.heap.size) (ok := fun k_ => ((((some k_ ≠ (.slice Ao79 t345.length co79 : Value).ownBlock ∧ some k_ ≠ (.slice Ao14 t299.length co14 : Value).ownBlock) ∧ some k_ ≠ (.slice Ao15 t303.length co15 : Value).ownBlock) ∧ some k_ ≠ (.slice Ao22 t316.length co22 : Value).ownBlock) ∧ some k_ ≠ (.slice Ao23 t320.length co23 : Value).ownBlock)) (n := t349.length) (c := co80) ?_).2.2; exact (by (with_reducible repeat first | apply rA | apply rN | apply rD); exact (Kd.R_mono (Kd.R_far (p := ⟨gb353, 7, none⟩) (Kd.R_far (p := ⟨gb353, 6, none⟩) (Kd.R_far (p := ⟨gb353, 5, none⟩) (Kd.R_far (p := ⟨gb353, 4, none⟩) (Kd.R_far (p := ⟨gb353, 3, none⟩) (Kd.R_far (p := ⟨gb353, 2, none⟩) (Kd.R_far (p := ⟨gb353, 1, none⟩) (Kd.R_far (p := ⟨gb353, 0, none⟩) (Kd.R_types HO351.out BK353.out (by decide)) (fun _ hk => hk.2) (.int .i64 t340)) (fun _ hk => hk.2) (.int .i64 t341)) (fun _ hk => hk.2) (.int .i64 t342)) (fun _ hk => hk.2) (.int .i64 t343)) (fun _ hk => hk.2) (.int .i64 t344)) (fun _ hk => hk.2) (.slice Ao79 t345.length co79)) (fun _ hk => hk.2) (.int .i64 t348)) (fun _ hk => hk.2) (.slice Ao80 t349.length co80)) (fun _ h_ => h_.1)))); (case side4 => exact (rR HO351.out).2.1); (case side5 => refine (rR (e := 86) (base := w.heap.size) (ok := fun k_ => (((some k_ ≠ (.slice Ao15 t303.length co15 : Value).ownBlock ∧ (some k_ ≠ (.slice Ao22 t316.length co22 : Value).ownBlock ∧ some k_ ≠ (.slice Ao23 t320.length co23 : Value).ownBlock)) ∧ some k_ ≠ (.slice Ao79 t345.length co79 : Value).ownBlock) ∧ some k_ ≠ (.slice Ao80 t349.length co80 : Value).ownBlock)) (n := t299.length) (c := co14) ?_).2.2; exact (by (with_reducible repeat first | apply rA | apply rN | apply rD); exact (Kd.R_mono (Kd.R_far (p := ⟨gb353, 7, none⟩) (Kd.R_far (p := ⟨gb353, 6, none⟩) (Kd.R_far (p := ⟨gb353, 5, none⟩) (Kd.R_far (p := ⟨gb353, 4, none⟩) (Kd.R_far (p := ⟨gb353, 3, none⟩) (Kd.R_far (p := ⟨gb353, 2, none⟩) (Kd.R_far (p := ⟨gb353, 1, none⟩) (Kd.R_far (p := ⟨gb353, 0, none⟩) (Kd.R_types HO_308005.out BK353.out (by decide)) (fun _ hk => hk.2) (.int .i64 t340)) (fun _ hk => hk.2) (.int .i64 t341)) (fun _ hk => hk.2) (.int .i64 t342)) (fun _ hk => hk.2) (.int .i64 t343)) (fun _ hk => hk.2) (.int .i64 t344)) (fun _ hk => hk.2) (.slice Ao79 t345.length co79)) (fun _ hk => hk.2) (.int .i64 t348)) (fun _ hk => hk.2) (.slice Ao80 t349.length co80)) (fun _ h_ => h_.1)))); (case side6 => exact (rR HO_308005.out).2.1); (case side7 => refine (rR (e := 86) (base := w.heap.size) (ok := fun k_ => (((some k_ ≠ (.slice Ao14 t299.length co14 : Value).ownBlock ∧ (some k_ ≠ (.slice Ao22 t316.length co22 : Value).ownBlock ∧ some k_ ≠ (.slice Ao23 t320.length co23 : Value).ownBlock)) ∧ some k_ ≠ (.slice Ao79 t345.length co79 : Value).ownBlock) ∧ some k_ ≠ (.slice Ao80 t349.length co80 : Value).ownBlock)) (n := t303.length) (c := co15) ?_).2.2; exact (by (with_reducible repeat first | apply rA | apply rN | apply rD); exact (Kd.R_mono (Kd.R_far (p := ⟨gb353, 7, none⟩) (Kd.R_far (p := ⟨gb353, 6, none⟩) (Kd.R_far (p := ⟨gb353, 5, none⟩) (Kd.R_far (p := ⟨gb353, 4, none⟩) (Kd.R_far (p := ⟨gb353, 3, none⟩) (Kd.R_far (p := ⟨gb353, 2, none⟩) (Kd.R_far (p := ⟨gb353, 1, none⟩) (Kd.R_far (p := ⟨gb353, 0, none⟩) (Kd.R_types HO_308007.out BK353.out (by decide)) (fun _ hk => hk.2) (.int .i64 t340)) (fun _ hk => hk.2) (.int .i64 t341)) (fun _ hk => hk.2) (.int .i64 t342)) (fun _ hk => hk.2) (.int .i64 t343)) (fun _ hk => hk.2) (.int .i64 t344)) (fun _ hk => hk.2) (.slice Ao79 t345.length co79)) (fun _ hk => hk.2) (.int .i64 t348)) (fun _ hk => hk.2) (.slice Ao80 t349.length co80)) (fun _ h_ => h_.1)))); (case side8 => exact (rR HO_308007.out).2.1); rintro e w88 ⟨rfl, hb⟩; refine ⟨_, rfl, ?_⟩; have n0_ := As.mk (rB (by (with_reducible repeat first | apply rA | apply rN | apply rD); exact (Kd.R_mono (Kd.R_far (p := ⟨gb353, 7, none⟩) (Kd.R_far (p := ⟨gb353, 6, none⟩) (Kd.R_far (p := ⟨gb353, 5, none⟩) (Kd.R_far (p := ⟨gb353, 4, none⟩) (Kd.R_far (p := ⟨gb353, 3, none⟩) (Kd.R_far (p := ⟨gb353, 2, none⟩) (Kd.R_far (p := ⟨gb353, 1, none⟩) (Kd.R_far (p := ⟨gb353, 0, none⟩) (Kd.R_types HO_308005.out BK353.out (by decide)) (fun _ hk => hk.2) (.int .i64 t340)) (fun _ hk => hk.2) (.int .i64 t341)) (fun _ hk => hk.2) (.int .i64 t342)) (fun _ hk => hk.2) (.int .i64 t343)) (fun _ hk => hk.2) (.int .i64 t344)) (fun _ hk => hk.2) (.slice Ao79 t345.length co79)) (fun _ hk => hk.2) (.int .i64 t348)) (fun _ hk => hk.2) (.slice Ao80 t349.length co80)) (fun _ h_ => h_.1))) hb); have n1_ := As.mk (rB (by (with_reducible repeat first | apply rA | apply rN | apply rD); exact (Kd.R_mono (Kd.R_far (p := ⟨gb353, 7, none⟩) (Kd.R_far (p := ⟨gb353, 6, none⟩) (Kd.R_far (p := ⟨gb353, 5, none⟩) (Kd.R_far (p := ⟨gb353, 4, none⟩) (Kd.R_far (p := ⟨gb353, 3, none⟩) (Kd.R_far (p := ⟨gb353, 2, none⟩) (Kd.R_far (p := ⟨gb353, 1, none⟩) (Kd.R_far (p := ⟨gb353, 0, none⟩) (Kd.R_types HO_308007.out BK353.out (by decide)) (fun _ hk => hk.2) (.int .i64 t340)) (fun _ hk => hk.2) (.int .i64 t341)) (fun _ hk => hk.2) (.int .i64 t342)) (fun _ hk => hk.2) (.int .i64 t343)) (fun _ hk => hk.2) (.int .i64 t344)) (fun _ hk => hk.2) (.slice Ao79 t345.length co79)) (fun _ hk => hk.2) (.int .i64 t348)) (fun _ hk => hk.2) (.slice Ao80 t349.length co80)) (fun _ h_ => h_.1))) hb); have n2_ := As.mk (rB (by (with_reducible repeat first | apply rA | apply rN | apply rD); exact (Kd.R_mono (Kd.R_far (p := ⟨gb353, 7, none⟩) (Kd.R_far (p := ⟨gb353, 6, none⟩) (Kd.R_far (p := ⟨gb353, 5, none⟩) (Kd.R_far (p := ⟨gb353, 4, none⟩) (Kd.R_far (p := ⟨gb353, 3, none⟩) (Kd.R_far (p := ⟨gb353, 2, none⟩) (Kd.R_far (p := ⟨gb353, 1, none⟩) (Kd.R_far (p := ⟨gb353, 0, none⟩) (Kd.R_types HO_325005.out BK353.out (by decide)) (fun _ hk => hk.2) (.int .i64 t340)) (fun _ hk => hk.2) (.int .i64 t341)) (fun _ hk => hk.2) (.int .i64 t342)) (fun _ hk => hk.2) (.int .i64 t343)) (fun _ hk => hk.2) (.int .i64 t344)) (fun _ hk => hk.2) (.slice Ao79 t345.length co79)) (fun _ hk => hk.2) (.int .i64 t348)) (fun _ hk => hk.2) (.slice Ao80 t349.length co80)) (fun _ h_ => h_.1))) hb); have n3_ := As.mk (rB (by (with_reducible repeat first | apply rA | apply rN | apply rD); exact (Kd.R_mono (Kd.R_far (p := ⟨gb353, 7, none⟩) (Kd.R_far (p := ⟨gb353, 6, none⟩) (Kd.R_far (p := ⟨gb353, 5, none⟩) (Kd.R_far (p := ⟨gb353, 4, none⟩) (Kd.R_far (p := ⟨gb353, 3, none⟩) (Kd.R_far (p := ⟨gb353, 2, none⟩) (Kd.R_far (p := ⟨gb353, 1, none⟩) (Kd.R_far (p := ⟨gb353, 0, none⟩) (Kd.R_types HO_325007.out BK353.out (by decide)) (fun _ hk => hk.2) (.int .i64 t340)) (fun _ hk => hk.2) (.int .i64 t341)) (fun _ hk => hk.2) (.int .i64 t342)) (fun _ hk => hk.2) (.int .i64 t343)) (fun _ hk => hk.2) (.int .i64 t344)) (fun _ hk => hk.2) (.slice Ao79 t345.length co79)) (fun _ hk => hk.2) (.int .i64 t348)) (fun _ hk => hk.2) (.slice Ao80 t349.length co80)) (fun _ h_ => h_.1))) hb); have n4_ := As.mk (rB (by (with_reducible repeat first | apply rA | apply rN | apply rD); exact (Kd.R_mono (Kd.R_far (p := ⟨gb353, 7, none⟩) (Kd.R_far (p := ⟨gb353, 6, none⟩) (Kd.R_far (p := ⟨gb353, 5, none⟩) (Kd.R_far (p := ⟨gb353, 4, none⟩) (Kd.R_far (p := ⟨gb353, 3, none⟩) (Kd.R_far (p := ⟨gb353, 2, none⟩) (Kd.R_far (p := ⟨gb353, 1, none⟩) (Kd.R_far (p := ⟨gb353, 0, none⟩) (Kd.R_types HO339.out BK353.out (by decide)) (fun _ hk => hk.2) (.int .i64 t340)) (fun _ hk => hk.2) (.int .i64 t341)) (fun _ hk => hk.2) (.int .i64 t342)) (fun _ hk => hk.2) (.int .i64 t343)) (fun _ hk => hk.2) (.int .i64 t344)) (fun _ hk => hk.2) (.slice Ao79 t345.length co79)) (fun _ hk => hk.2) (.int .i64 t348)) (fun _ hk => hk.2) (.slice Ao80 t349.length co80)) (fun _ h_ => h_.1))) hb); have n5_ := As.mk (rB (by (with_reducible repeat first | apply rA | apply rN | apply rD); exact (Kd.R_mono (Kd.R_far (p := ⟨gb353, 7, none⟩) (Kd.R_far (p := ⟨gb353, 6, none⟩) (Kd.R_far (p := ⟨gb353, 5, none⟩) (Kd.R_far (p := ⟨gb353, 4, none⟩) (Kd.R_far (p := ⟨gb353, 3, none⟩) (Kd.R_far (p := ⟨gb353, 2, none⟩) (Kd.R_far (p := ⟨gb353, 1, none⟩) (Kd.R_far (p := ⟨gb353, 0, none⟩) (Kd.R_types HO347.out BK353.out (by decide)) (fun _ hk => hk.2) (.int .i64 t340)) (fun _ hk => hk.2) (.int .i64 t341)) (fun _ hk => hk.2) (.int .i64 t342)) (fun _ hk => hk.2) (.int .i64 t343)) (fun _ hk => hk.2) (.int .i64 t344)) (fun _ hk => hk.2) (.slice Ao79 t345.length co79)) (fun _ hk => hk.2) (.int .i64 t348)) (fun _ hk => hk.2) (.slice Ao80 t349.length co80)) (fun _ h_ => h_.1))) hb); have n6_ := As.mk (rB (by (with_reducible repeat first | apply rA | apply rN | apply rD); exact (Kd.R_mono (Kd.R_far (p := ⟨gb353, 7, none⟩) (Kd.R_far (p := ⟨gb353, 6, none⟩) (Kd.R_far (p := ⟨gb353, 5, none⟩) (Kd.R_far (p := ⟨gb353, 4, none⟩) (Kd.R_far (p := ⟨gb353, 3, none⟩) (Kd.R_far (p := ⟨gb353, 2, none⟩) (Kd.R_far (p := ⟨gb353, 1, none⟩) (Kd.R_far (p := ⟨gb353, 0, none⟩) (Kd.R_types HO351.out BK353.out (by decide)) (fun _ hk => hk.2) (.int .i64 t340)) (fun _ hk => hk.2) (.int .i64 t341)) (fun _ hk => hk.2) (.int .i64 t342)) (fun _ hk => hk.2) (.int .i64 t343)) (fun _ hk => hk.2) (.int .i64 t344)) (fun _ hk => hk.2) (.slice Ao79 t345.length co79)) (fun _ hk => hk.2) (.int .i64 t348)) (fun _ hk => hk.2) (.slice Ao80 t349.length co80)) (fun _ h_ => h_.1))) hb); have n7_ := As.mk (bb (g := gb307) (o := .cells #[.int .i64 t294, .int .i64 t295, .int .i64 t296, .int .i64 t297, .int .i64 t298, .slice Ao14 t299.length co14, .int .i64 t302, .slice Ao15 t303.length co15] 51 (0, 0)) (by (with_reducible repeat first | apply bN | apply bD | apply bA); refine blk_far ?_ NB307_353.out _; (with_reducible repeat first | apply bN | apply bD | apply bA); refine blk_far ?_ NB307_353.out _; (with_reducible repeat first | apply bN | apply bD | apply bA); refine blk_far ?_ NB307_353.out _; (with_reducible repeat first | apply bN | apply bD | apply bA); refine blk_far ?_ NB307_353.out _; (with_reducible repeat first | apply bN | apply bD | apply bA); refine blk_far ?_ NB307_353.out _; (with_reducible repeat first | apply bN | apply bD | apply bA); refine blk_far ?_ NB307_353.out _; (with_reducible repeat first | apply bN | apply bD | apply bA); refine blk_far ?_ NB307_353.out _; (with_reducible repeat first | apply bN | apply bD | apply bA); refine blk_far ?_ NB307_353.out _; (with_reducible repeat first | apply bN | apply bD | apply bA); exact BK307.out) hb); have n8_ := As.mk (bb (g := gb324) (o := .cells #[.int .i64 t311, .int .i64 t312, .int .i64 t313, .int .i64 t314, .int .i64 t315, .slice Ao22 t316.length co22, .int .i64 t319, .slice Ao23 t320.length co23] 51 (0, 0)) (by (with_reducible repeat first | apply bN | apply bD | apply bA); refine blk_far ?_ NB324_353.out _; (with_reducible repeat first | apply bN | apply bD | apply bA); refine blk_far ?_ NB324_353.out _; (with_reducible repeat first | apply bN | apply bD | apply bA); refine blk_far ?_ NB324_353.out _; (with_reducible repeat first | apply bN | apply bD | apply bA); refine blk_far ?_ NB324_353.out _; (with_reducible repeat first | apply bN | apply bD | apply bA); refine blk_far ?_ NB324_353.out _; (with_reducible repeat first | apply bN | apply bD | apply bA); refine blk_far ?_ NB324_353.out _; (with_reducible repeat first | apply bN | apply bD | apply bA); refine blk_far ?_ NB324_353.out _; (with_reducible repeat first | apply bN | apply bD | apply bA); refine blk_far ?_ NB324_353.out _; (with_reducible repeat first | apply bN | apply bD | apply bA); exact BK324.out) hb); have n9_ := As.mk (bb (g := gb353) (o := .cells #[.int .i64 t340, .int .i64 t341, .int .i64 t342, .int .i64 t343, .int .i64 t344, .slice Ao79 t345.length co79, .int .i64 t348, .slice Ao80 t349.length co80] 51 (0, 0)) (by (with_reducible repeat first | apply bN | apply bD | apply bA); refine blk_put (cs := #[.int .i64 t340, .int .i64 t341, .int .i64 t342, .int .i64 t343, .int .i64 t344, .slice Ao79 t345.length co79, .int .i64 t348, .slice none 0 0]) ?_ 7 _ rfl; (with_reducible repeat first | apply bN | apply bD | apply bA); refine blk_put (cs := #[.int .i64 t340, .int .i64 t341, .int .i64 t342, .int .i64 t343, .int .i64 t344, .slice Ao79 t345.length co79, .int .i64 0, .slice none 0 0]) ?_ 6 _ rfl; (with_reducible repeat first | apply bN | apply bD | apply bA); refine blk_put (cs := #[.int .i64 t340, .int .i64 t341, .int .i64 t342, .int .i64 t343, .int .i64 t344, .slice none 0 0, .int .i64 0, .slice none 0 0]) ?_ 5 _ rfl; (with_reducible repeat first | apply bN | apply bD | apply bA); refine blk_put (cs := #[.int .i64 t340, .int .i64 t341, .int .i64 t342, .int .i64 t343, .int .i64 0, .slice none 0 0, .int .i64 0, .slice none 0 0]) ?_ 4 _ rfl; (with_reducible repeat first | apply bN | apply bD | apply bA); refine blk_put (cs := #[.int .i64 t340, .int .i64 t341, .int .i64 t342, .int .i64 0, .int .i64 0, .slice none 0 0, .int .i64 0, .slice none 0 0]) ?_ 3 _ rfl; (with_reducible repeat first | apply bN | apply bD | apply bA); refine blk_put (cs := #[.int .i64 t340, .int .i64 t341, .int .i64 0, .int .i64 0, .int .i64 0, .slice none 0 0, .int .i64 0, .slice none 0 0]) ?_ 2 _ rfl; (with_reducible repeat first | apply bN | apply bD | apply bA); refine blk_put (cs := #[.int .i64 t340, .int .i64 0, .int .i64 0, .int .i64 0, .int .i64 0, .slice none 0 0, .int .i64 0, .slice none 0 0]) ?_ 1 _ rfl; (with_reducible repeat first | apply bN | apply bD | apply bA); refine blk_put (cs := #[.int .i64 0, .int .i64 0, .int .i64 0, .int .i64 0, .int .i64 0, .slice none 0 0, .int .i64 0, .slice none 0 0]) ?_ 0 _ rfl; (with_reducible repeat first | apply bN | apply bD | apply bA); exact BK353.out) hb); have n10_ := As.mk (bt (by repeat (first | (with_reducible first | exact HB.out | apply ba | apply bw | apply b1 | refine bs ?_ GE307.out | refine bs ?_ GE324.out | refine bs ?_ GE353.out) | exact HB.out)) hb); clear HO_308005; clear HO_308007; clear HO_325005; clear HO_325007; clear HO339; clear HO347; clear HO351; clear BK307; clear BK324; clear BK353; clear HB; have HO_308005 := n0_; have HO_308007 := n1_; have HO_325005 := n2_; have HO_325007 := n3_; have HO339 := n4_; have HO347 := n5_; have HO351 := n6_; have BK307 := n7_; have BK324 := n8_; have BK353 := n9_; have HB := n10_; clear n0_ n1_ n2_ n3_ n4_ n5_ n6_ n7_ n8_ n9_ n10_; (try clear hb); (try clear hb2); (try clear hk); (try clear hi)))
             go_meet
             case rel => exact ⟨_, ((t352 != t306)), (by first | rfl | (simp; done) | (simp [*]; done)), H', ⟨by have := HJ7.out; have := HJ38.out; first | omega | exact Nat.le_refl _⟩, ⟨by (with_reducible repeat first | apply rA | apply rN | apply rD); exact Kd.R_mono HO_308005.out (fun _ hk => ⟨hk.1.1.1, ⟨hk.1.1.2.1, ⟨hk.1.1.2.2, ⟨hk.1.2, hk.2⟩⟩⟩⟩)⟩, ⟨by (with_reducible repeat first | apply rA | apply rN | apply rD); exact Kd.R_mono HO_308007.out (fun _ hk => ⟨hk.1.1.1, ⟨hk.1.1.2.1, ⟨hk.1.1.2.2, ⟨hk.1.2, hk.2⟩⟩⟩⟩)⟩, ⟨by (with_reducible repeat first | apply rA | apply rN | apply rD); exact Kd.R_mono HO_325005.out (fun _ hk => ⟨hk.1.1.1, ⟨hk.1.1.2.1, ⟨hk.1.1.2.2, ⟨hk.1.2, hk.2⟩⟩⟩⟩)⟩, ⟨by (with_reducible repeat first | apply rA | apply rN | apply rD); exact Kd.R_mono HO_325007.out (fun _ hk => ⟨hk.1.1.1, ⟨hk.1.1.2.1, ⟨hk.1.1.2.2, ⟨hk.1.2, hk.2⟩⟩⟩⟩)⟩, ⟨by (with_reducible repeat first | apply rA | apply rN | apply rD); exact Kd.R_mono HO347.out (fun _ hk => ⟨hk.1.1.1.2, ⟨hk.1.1.2, ⟨hk.1.2, ⟨hk.2, hk.1.1.1.1⟩⟩⟩⟩)⟩, ⟨by (with_reducible repeat first | apply rA | apply rN | apply rD); exact Kd.R_mono HO351.out (fun _ hk => ⟨hk.1.1.1.2, ⟨hk.1.1.2, ⟨hk.1.2, ⟨hk.2, hk.1.1.1.1⟩⟩⟩⟩)⟩, ⟨by (with_reducible repeat first | apply bN | apply bD | apply bA); exact BK307.out⟩, ⟨by (with_reducible repeat first | apply bN | apply bD | apply bA); exact BK324.out⟩, ⟨by (with_reducible repeat first | apply bN | apply bD | apply bA); exact BK353.out⟩, ⟨by repeat (first | (with_reducible first | exact HB.out | apply ba | apply bw | apply b1 | refine bs ?_ GE307.out | refine bs ?_ GE324.out | refine bs ?_ GE353.out) | exact HB.out)⟩⟩
            ·replace c82 := Bool.eq_false_iff.mpr c82
             subst c82
             have H1 : (laws_FnExactSparseOf.j2 kj38 t333 true t311 t312 t313 t314 t315 t334 t319 t335) = some r := by rw [if_neg (show ¬ (false = true) by decide)] at H; exact H
             clear H
             have H := H1
             clear H1
             have H' := As.mk H
             clear H
             have hnb89 := NB353_307.out
             have hnc89 := NB307_353.out
             have hnb90 := NB353_324.out
             have hnc90 := NB324_353.out
             have hcz91_0 : w75.cell? ⟨gb353, 0, none⟩ = some (.int .i64 0) := (blk_cell BK353.out 0).trans rfl
             have hcz91_1 : w75.cell? ⟨gb353, 1, none⟩ = some (.int .i64 0) := (blk_cell BK353.out 1).trans rfl
             have hcz91_2 : w75.cell? ⟨gb353, 2, none⟩ = some (.int .i64 0) := (blk_cell BK353.out 2).trans rfl
             have hcz91_3 : w75.cell? ⟨gb353, 3, none⟩ = some (.int .i64 0) := (blk_cell BK353.out 3).trans rfl
             have hcz91_4 : w75.cell? ⟨gb353, 4, none⟩ = some (.int .i64 0) := (blk_cell BK353.out 4).trans rfl
             have hcz91_5 : w75.cell? ⟨gb353, 5, none⟩ = some (.slice none 0 0) := (blk_cell BK353.out 5).trans rfl
             have hcz91_6 : w75.cell? ⟨gb353, 6, none⟩ = some (.int .i64 0) := (blk_cell BK353.out 6).trans rfl
             have hcz91_7 : w75.cell? ⟨gb353, 7, none⟩ = some (.slice none 0 0) := (blk_cell BK353.out 7).trans rfl
             have hfz91_0 := blk_frozen BK353.out 0
             have hfz91_1 := blk_frozen BK353.out 1
             have hfz91_2 := blk_frozen BK353.out 2
             have hfz91_3 := blk_frozen BK353.out 3
             have hfz91_4 := blk_frozen BK353.out 4
             have hfz91_5 := blk_frozen BK353.out 5
             have hfz91_6 := blk_frozen BK353.out 6
             have hfz91_7 := blk_frozen BK353.out 7
             have hnb92 := NB307_324.out
             have hnc92 := NB324_307.out
             have hcz93_0 : w75.cell? ⟨gb307, 0, none⟩ = some (.int .i64 t294) := (blk_cell BK307.out 0).trans rfl
             have hcz93_1 : w75.cell? ⟨gb307, 1, none⟩ = some (.int .i64 t295) := (blk_cell BK307.out 1).trans rfl
             have hcz93_2 : w75.cell? ⟨gb307, 2, none⟩ = some (.int .i64 t296) := (blk_cell BK307.out 2).trans rfl
             have hcz93_3 : w75.cell? ⟨gb307, 3, none⟩ = some (.int .i64 t297) := (blk_cell BK307.out 3).trans rfl
             have hcz93_4 : w75.cell? ⟨gb307, 4, none⟩ = some (.int .i64 t298) := (blk_cell BK307.out 4).trans rfl
             have hcz93_5 : w75.cell? ⟨gb307, 5, none⟩ = some (.slice Ao14 t299.length co14) := (blk_cell BK307.out 5).trans rfl
             have hcz93_6 : w75.cell? ⟨gb307, 6, none⟩ = some (.int .i64 t302) := (blk_cell BK307.out 6).trans rfl
             have hcz93_7 : w75.cell? ⟨gb307, 7, none⟩ = some (.slice Ao15 t303.length co15) := (blk_cell BK307.out 7).trans rfl
             have hfz93_0 := blk_frozen BK307.out 0
             have hfz93_1 := blk_frozen BK307.out 1
             have hfz93_2 := blk_frozen BK307.out 2
             have hfz93_3 := blk_frozen BK307.out 3
             have hfz93_4 := blk_frozen BK307.out 4
             have hfz93_5 := blk_frozen BK307.out 5
             have hfz93_6 := blk_frozen BK307.out 6
             have hfz93_7 := blk_frozen BK307.out 7
             go_wp2_with (first | ((with_reducible refine gc (f := 33) rfl ?_); refine goesL_ (some 83) rfl rfl Try.func33 (by kernel_rfl) rfl #[.agg #[.int .i64 t340, .int .i64 t341, .int .i64 t342, .int .i64 t343, .int .i64 t344, .slice Ao79 t345.length co79, .int .i64 t348, .slice Ao80 t349.length co80], .agg #[.int .i64 t294, .int .i64 t295, .int .i64 t296, .int .i64 t297, .int .i64 t298, .slice Ao14 t299.length co14, .int .i64 t302, .slice Ao15 t303.length co15]] rfl (by (try simp only [List.map_toArray, List.map_cons, List.map_nil]); first | done | rfl | (simp only [List.length_drop, List.length_take]; rfl)) ?_; (with_reducible refine (laws_eqSparse.calls kj38 t340 t341 t342 t343 t344 _ _ t345 t348 _ _ t349 t294 t295 t296 t297 t298 _ _ t299 t302 _ _ t303 false _ ?side1 ?side2 ?side3 ?side4 ?side5 ?side6 ?side7 ?side8 A81.out).mono ?_); (case side1 => refine (rR (e := 86) (base := w.heap.size) (ok := fun k_ => ((((some k_ ≠ (.slice Ao80 t349.length co80 : Value).ownBlock ∧ some k_ ≠ (.slice Ao14 t299.length co14 : Value).ownBlock) ∧ some k_ ≠ (.slice Ao15 t303.length co15 : Value).ownBlock) ∧ some k_ ≠ (.slice Ao22 t316.length co22 : Value).ownBlock) ∧ some k_ ≠ (.slice Ao23 t320.length co23 : Value).ownBlock)) (n := t345.length) (c := co79) ?_).2.2; exact (by (with_reducible repeat first | apply rA | apply rN | apply rD); exact (Kd.R_mono (Kd.R_far (p := ⟨gb353, 7, none⟩) (Kd.R_far (p := ⟨gb353, 6, none⟩) (Kd.R_far (p := ⟨gb353, 5, none⟩) (Kd.R_far (p := ⟨gb353, 4, none⟩) (Kd.R_far (p := ⟨gb353, 3, none⟩) (Kd.R_far (p := ⟨gb353, 2, none⟩) (Kd.R_far (p := ⟨gb353, 1, none⟩) (Kd.R_far (p := ⟨gb353, 0, none⟩) (Kd.R_types HO347.out BK353.out (by decide)) (fun _ hk => hk.2) (.int .i64 t340)) (fun _ hk => hk.2) (.int .i64 t341)) (fun _ hk => hk.2) (.int .i64 t342)) (fun _ hk => hk.2) (.int .i64 t343)) (fun _ hk => hk.2) (.int .i64 t344)) (fun _ hk => hk.2) (.slice Ao79 t345.length co79)) (fun _ hk => hk.2) (.int .i64 t348)) (fun _ hk => hk.2) (.slice Ao80 t349.length co80)) (fun _ h_ => h_.1)))); (case side2 => exact (rR HO347.out).2.1); (case side3 => refine (rR (e := 86) (base := w.heap.size) (ok := fun k_ => ((((some k_ ≠ (.slice Ao79 t345.length co79 : Value).ownBlock ∧ some k_ ≠ (.slice Ao14 t299.length co14 : Value).ownBlock) ∧ some k_ ≠ (.slice Ao15 t303.length co15 : Value).ownBlock) ∧ some k_ ≠ (.slice Ao22 t316.length co22 : Value).ownBlock) ∧ some k_ ≠ (.slice Ao23 t320.length co23 : Value).ownBlock)) (n := t349.length) (c := co80) ?_).2.2; exact (by (with_reducible repeat first | apply rA | apply rN | apply rD); exact (Kd.R_mono (Kd.R_far (p := ⟨gb353, 7, none⟩) (Kd.R_far (p := ⟨gb353, 6, none⟩) (Kd.R_far (p := ⟨gb353, 5, none⟩) (Kd.R_far (p := ⟨gb353, 4, none⟩) (Kd.R_far (p := ⟨gb353, 3, none⟩) (Kd.R_far (p := ⟨gb353, 2, none⟩) (Kd.R_far (p := ⟨gb353, 1, none⟩) (Kd.R_far (p := ⟨gb353, 0, none⟩) (Kd.R_types HO351.out BK353.out (by decide)) (fun _ hk => hk.2) (.int .i64 t340)) (fun _ hk => hk.2) (.int .i64 t341)) (fun _ hk => hk.2) (.int .i64 t342)) (fun _ hk => hk.2) (.int .i64 t343)) (fun _ hk => hk.2) (.int .i64 t344)) (fun _ hk => hk.2) (.slice Ao79 t345.length co79)) (fun _ hk => hk.2) (.int .i64 t348)) (fun _ hk => hk.2) (.slice Ao80 t349.length co80)) (fun _ h_ => h_.1)))); (case side4 => exact (rR HO351.out).2.1); (case side5 => refine (rR (e := 86) (base := w.heap.size) (ok := fun k_ => (((some k_ ≠ (.slice Ao15 t303.length co15 : Value).ownBlock ∧ (some k_ ≠ (.slice Ao22 t316.length co22 : Value).ownBlock ∧ some k_ ≠ (.slice Ao23 t320.length co23 : Value).ownBlock)) ∧ some k_ ≠ (.slice Ao79 t345.length co79 : Value).ownBlock) ∧ some k_ ≠ (.slice Ao80 t349.length co80 : Value).ownBlock)) (n := t299.length) (c := co14) ?_).2.2; exact (by (with_reducible repeat first | apply rA | apply rN | apply rD); exact (Kd.R_mono (Kd.R_far (p := ⟨gb353, 7, none⟩) (Kd.R_far (p := ⟨gb353, 6, none⟩) (Kd.R_far (p := ⟨gb353, 5, none⟩) (Kd.R_far (p := ⟨gb353, 4, none⟩) (Kd.R_far (p := ⟨gb353, 3, none⟩) (Kd.R_far (p := ⟨gb353, 2, none⟩) (Kd.R_far (p := ⟨gb353, 1, none⟩) (Kd.R_far (p := ⟨gb353, 0, none⟩) (Kd.R_types HO_308005.out BK353.out (by decide)) (fun _ hk => hk.2) (.int .i64 t340)) (fun _ hk => hk.2) (.int .i64 t341)) (fun _ hk => hk.2) (.int .i64 t342)) (fun _ hk => hk.2) (.int .i64 t343)) (fun _ hk => hk.2) (.int .i64 t344)) (fun _ hk => hk.2) (.slice Ao79 t345.length co79)) (fun _ hk => hk.2) (.int .i64 t348)) (fun _ hk => hk.2) (.slice Ao80 t349.length co80)) (fun _ h_ => h_.1)))); (case side6 => exact (rR HO_308005.out).2.1); (case side7 => refine (rR (e := 86) (base := w.heap.size) (ok := fun k_ => (((some k_ ≠ (.slice Ao14 t299.length co14 : Value).ownBlock ∧ (some k_ ≠ (.slice Ao22 t316.length co22 : Value).ownBlock ∧ some k_ ≠ (.slice Ao23 t320.length co23 : Value).ownBlock)) ∧ some k_ ≠ (.slice Ao79 t345.length co79 : Value).ownBlock) ∧ some k_ ≠ (.slice Ao80 t349.length co80 : Value).ownBlock)) (n := t303.length) (c := co15) ?_).2.2; exact (by (with_reducible repeat first | apply rA | apply rN | apply rD); exact (Kd.R_mono (Kd.R_far (p := ⟨gb353, 7, none⟩) (Kd.R_far (p := ⟨gb353, 6, none⟩) (Kd.R_far (p := ⟨gb353, 5, none⟩) (Kd.R_far (p := ⟨gb353, 4, none⟩) (Kd.R_far (p := ⟨gb353, 3, none⟩) (Kd.R_far (p := ⟨gb353, 2, none⟩) (Kd.R_far (p := ⟨gb353, 1, none⟩) (Kd.R_far (p := ⟨gb353, 0, none⟩) (Kd.R_types HO_308007.out BK353.out (by decide)) (fun _ hk => hk.2) (.int .i64 t340)) (fun _ hk => hk.2) (.int .i64 t341)) (fun _ hk => hk.2) (.int .i64 t342)) (fun _ hk => hk.2) (.int .i64 t343)) (fun _ hk => hk.2) (.int .i64 t344)) (fun _ hk => hk.2) (.slice Ao79 t345.length co79)) (fun _ hk => hk.2) (.int .i64 t348)) (fun _ hk => hk.2) (.slice Ao80 t349.length co80)) (fun _ h_ => h_.1)))); (case side8 => exact (rR HO_308007.out).2.1); rintro e w94 ⟨rfl, hb⟩; refine ⟨_, rfl, ?_⟩; have n0_ := As.mk (rB (by (with_reducible repeat first | apply rA | apply rN | apply rD); exact (Kd.R_mono (Kd.R_far (p := ⟨gb353, 7, none⟩) (Kd.R_far (p := ⟨gb353, 6, none⟩) (Kd.R_far (p := ⟨gb353, 5, none⟩) (Kd.R_far (p := ⟨gb353, 4, none⟩) (Kd.R_far (p := ⟨gb353, 3, none⟩) (Kd.R_far (p := ⟨gb353, 2, none⟩) (Kd.R_far (p := ⟨gb353, 1, none⟩) (Kd.R_far (p := ⟨gb353, 0, none⟩) (Kd.R_types HO_308005.out BK353.out (by decide)) (fun _ hk => hk.2) (.int .i64 t340)) (fun _ hk => hk.2) (.int .i64 t341)) (fun _ hk => hk.2) (.int .i64 t342)) (fun _ hk => hk.2) (.int .i64 t343)) (fun _ hk => hk.2) (.int .i64 t344)) (fun _ hk => hk.2) (.slice Ao79 t345.length co79)) (fun _ hk => hk.2) (.int .i64 t348)) (fun _ hk => hk.2) (.slice Ao80 t349.length co80)) (fun _ h_ => h_.1))) hb); have n1_ := As.mk (rB (by (with_reducible repeat first | apply rA | apply rN | apply rD); exact (Kd.R_mono (Kd.R_far (p := ⟨gb353, 7, none⟩) (Kd.R_far (p := ⟨gb353, 6, none⟩) (Kd.R_far (p := ⟨gb353, 5, none⟩) (Kd.R_far (p := ⟨gb353, 4, none⟩) (Kd.R_far (p := ⟨gb353, 3, none⟩) (Kd.R_far (p := ⟨gb353, 2, none⟩) (Kd.R_far (p := ⟨gb353, 1, none⟩) (Kd.R_far (p := ⟨gb353, 0, none⟩) (Kd.R_types HO_308007.out BK353.out (by decide)) (fun _ hk => hk.2) (.int .i64 t340)) (fun _ hk => hk.2) (.int .i64 t341)) (fun _ hk => hk.2) (.int .i64 t342)) (fun _ hk => hk.2) (.int .i64 t343)) (fun _ hk => hk.2) (.int .i64 t344)) (fun _ hk => hk.2) (.slice Ao79 t345.length co79)) (fun _ hk => hk.2) (.int .i64 t348)) (fun _ hk => hk.2) (.slice Ao80 t349.length co80)) (fun _ h_ => h_.1))) hb); have n2_ := As.mk (rB (by (with_reducible repeat first | apply rA | apply rN | apply rD); exact (Kd.R_mono (Kd.R_far (p := ⟨gb353, 7, none⟩) (Kd.R_far (p := ⟨gb353, 6, none⟩) (Kd.R_far (p := ⟨gb353, 5, none⟩) (Kd.R_far (p := ⟨gb353, 4, none⟩) (Kd.R_far (p := ⟨gb353, 3, none⟩) (Kd.R_far (p := ⟨gb353, 2, none⟩) (Kd.R_far (p := ⟨gb353, 1, none⟩) (Kd.R_far (p := ⟨gb353, 0, none⟩) (Kd.R_types HO_325005.out BK353.out (by decide)) (fun _ hk => hk.2) (.int .i64 t340)) (fun _ hk => hk.2) (.int .i64 t341)) (fun _ hk => hk.2) (.int .i64 t342)) (fun _ hk => hk.2) (.int .i64 t343)) (fun _ hk => hk.2) (.int .i64 t344)) (fun _ hk => hk.2) (.slice Ao79 t345.length co79)) (fun _ hk => hk.2) (.int .i64 t348)) (fun _ hk => hk.2) (.slice Ao80 t349.length co80)) (fun _ h_ => h_.1))) hb); have n3_ := As.mk (rB (by (with_reducible repeat first | apply rA | apply rN | apply rD); exact (Kd.R_mono (Kd.R_far (p := ⟨gb353, 7, none⟩) (Kd.R_far (p := ⟨gb353, 6, none⟩) (Kd.R_far (p := ⟨gb353, 5, none⟩) (Kd.R_far (p := ⟨gb353, 4, none⟩) (Kd.R_far (p := ⟨gb353, 3, none⟩) (Kd.R_far (p := ⟨gb353, 2, none⟩) (Kd.R_far (p := ⟨gb353, 1, none⟩) (Kd.R_far (p := ⟨gb353, 0, none⟩) (Kd.R_types HO_325007.out BK353.out (by decide)) (fun _ hk => hk.2) (.int .i64 t340)) (fun _ hk => hk.2) (.int .i64 t341)) (fun _ hk => hk.2) (.int .i64 t342)) (fun _ hk => hk.2) (.int .i64 t343)) (fun _ hk => hk.2) (.int .i64 t344)) (fun _ hk => hk.2) (.slice Ao79 t345.length co79)) (fun _ hk => hk.2) (.int .i64 t348)) (fun _ hk => hk.2) (.slice Ao80 t349.length co80)) (fun _ h_ => h_.1))) hb); have n4_ := As.mk (rB (by (with_reducible repeat first | apply rA | apply rN | apply rD); exact (Kd.R_mono (Kd.R_far (p := ⟨gb353, 7, none⟩) (Kd.R_far (p := ⟨gb353, 6, none⟩) (Kd.R_far (p := ⟨gb353, 5, none⟩) (Kd.R_far (p := ⟨gb353, 4, none⟩) (Kd.R_far (p := ⟨gb353, 3, none⟩) (Kd.R_far (p := ⟨gb353, 2, none⟩) (Kd.R_far (p := ⟨gb353, 1, none⟩) (Kd.R_far (p := ⟨gb353, 0, none⟩) (Kd.R_types HO339.out BK353.out (by decide)) (fun _ hk => hk.2) (.int .i64 t340)) (fun _ hk => hk.2) (.int .i64 t341)) (fun _ hk => hk.2) (.int .i64 t342)) (fun _ hk => hk.2) (.int .i64 t343)) (fun _ hk => hk.2) (.int .i64 t344)) (fun _ hk => hk.2) (.slice Ao79 t345.length co79)) (fun _ hk => hk.2) (.int .i64 t348)) (fun _ hk => hk.2) (.slice Ao80 t349.length co80)) (fun _ h_ => h_.1))) hb); have n5_ := As.mk (rB (by (with_reducible repeat first | apply rA | apply rN | apply rD); exact (Kd.R_mono (Kd.R_far (p := ⟨gb353, 7, none⟩) (Kd.R_far (p := ⟨gb353, 6, none⟩) (Kd.R_far (p := ⟨gb353, 5, none⟩) (Kd.R_far (p := ⟨gb353, 4, none⟩) (Kd.R_far (p := ⟨gb353, 3, none⟩) (Kd.R_far (p := ⟨gb353, 2, none⟩) (Kd.R_far (p := ⟨gb353, 1, none⟩) (Kd.R_far (p := ⟨gb353, 0, none⟩) (Kd.R_types HO347.out BK353.out (by decide)) (fun _ hk => hk.2) (.int .i64 t340)) (fun _ hk => hk.2) (.int .i64 t341)) (fun _ hk => hk.2) (.int .i64 t342)) (fun _ hk => hk.2) (.int .i64 t343)) (fun _ hk => hk.2) (.int .i64 t344)) (fun _ hk => hk.2) (.slice Ao79 t345.length co79)) (fun _ hk => hk.2) (.int .i64 t348)) (fun _ hk => hk.2) (.slice Ao80 t349.length co80)) (fun _ h_ => h_.1))) hb); have n6_ := As.mk (rB (by (with_reducible repeat first | apply rA | apply rN | apply rD); exact (Kd.R_mono (Kd.R_far (p := ⟨gb353, 7, none⟩) (Kd.R_far (p := ⟨gb353, 6, none⟩) (Kd.R_far (p := ⟨gb353, 5, none⟩) (Kd.R_far (p := ⟨gb353, 4, none⟩) (Kd.R_far (p := ⟨gb353, 3, none⟩) (Kd.R_far (p := ⟨gb353, 2, none⟩) (Kd.R_far (p := ⟨gb353, 1, none⟩) (Kd.R_far (p := ⟨gb353, 0, none⟩) (Kd.R_types HO351.out BK353.out (by decide)) (fun _ hk => hk.2) (.int .i64 t340)) (fun _ hk => hk.2) (.int .i64 t341)) (fun _ hk => hk.2) (.int .i64 t342)) (fun _ hk => hk.2) (.int .i64 t343)) (fun _ hk => hk.2) (.int .i64 t344)) (fun _ hk => hk.2) (.slice Ao79 t345.length co79)) (fun _ hk => hk.2) (.int .i64 t348)) (fun _ hk => hk.2) (.slice Ao80 t349.length co80)) (fun _ h_ => h_.1))) hb); have n7_ := As.mk (bb (g := gb307) (o := .cells #[.int .i64 t294, .int .i64 t295, .int .i64 t296, .int .i64 t297, .int .i64 t298, .slice Ao14 t299.length co14, .int .i64 t302, .slice Ao15 t303.length co15] 51 (0, 0)) (by (with_reducible repeat first | apply bN | apply bD | apply bA); refine blk_far ?_ NB307_353.out _; (with_reducible repeat first | apply bN | apply bD | apply bA); refine blk_far ?_ NB307_353.out _; (with_reducible repeat first | apply bN | apply bD | apply bA); refine blk_far ?_ NB307_353.out _; (with_reducible repeat first | apply bN | apply bD | apply bA); refine blk_far ?_ NB307_353.out _; (with_reducible repeat first | apply bN | apply bD | apply bA); refine blk_far ?_ NB307_353.out _; (with_reducible repeat first | apply bN | apply bD | apply bA); refine blk_far ?_ NB307_353.out _; (with_reducible repeat first | apply bN | apply bD | apply bA); refine blk_far ?_ NB307_353.out _; (with_reducible repeat first | apply bN | apply bD | apply bA); refine blk_far ?_ NB307_353.out _; (with_reducible repeat first | apply bN | apply bD | apply bA); exact BK307.out) hb); have n8_ := As.mk (bb (g := gb324) (o := .cells #[.int .i64 t311, .int .i64 t312, .int .i64 t313, .int .i64 t314, .int .i64 t315, .slice Ao22 t316.length co22, .int .i64 t319, .slice Ao23 t320.length co23] 51 (0, 0)) (by (with_reducible repeat first | apply bN | apply bD | apply bA); refine blk_far ?_ NB324_353.out _; (with_reducible repeat first | apply bN | apply bD | apply bA); refine blk_far ?_ NB324_353.out _; (with_reducible repeat first | apply bN | apply bD | apply bA); refine blk_far ?_ NB324_353.out _; (with_reducible repeat first | apply bN | apply bD | apply bA); refine blk_far ?_ NB324_353.out _; (with_reducible repeat first | apply bN | apply bD | apply bA); refine blk_far ?_ NB324_353.out _; (with_reducible repeat first | apply bN | apply bD | apply bA); refine blk_far ?_ NB324_353.out _; (with_reducible repeat first | apply bN | apply bD | apply bA); refine blk_far ?_ NB324_353.out _; (with_reducible repeat first | apply bN | apply bD | apply bA); refine blk_far ?_ NB324_353.out _; (with_reducible repeat first | apply bN | apply bD | apply bA); exact BK324.out) hb); have n9_ := As.mk (bb (g := gb353) (o := .cells #[.int .i64 t340, .int .i64 t341, .int .i64 t342, .int .i64 t343, .int .i64 t344, .slice Ao79 t345.length co79, .int .i64 t348, .slice Ao80 t349.length co80] 51 (0, 0)) (by (with_reducible repeat first | apply bN | apply bD | apply bA); refine blk_put (cs := #[.int .i64 t340, .int .i64 t341, .int .i64 t342, .int .i64 t343, .int .i64 t344, .slice Ao79 t345.length co79, .int .i64 t348, .slice none 0 0]) ?_ 7 _ rfl; (with_reducible repeat first | apply bN | apply bD | apply bA); refine blk_put (cs := #[.int .i64 t340, .int .i64 t341, .int .i64 t342, .int .i64 t343, .int .i64 t344, .slice Ao79 t345.length co79, .int .i64 0, .slice none 0 0]) ?_ 6 _ rfl; (with_reducible repeat first | apply bN | apply bD | apply bA); refine blk_put (cs := #[.int .i64 t340, .int .i64 t341, .int .i64 t342, .int .i64 t343, .int .i64 t344, .slice none 0 0, .int .i64 0, .slice none 0 0]) ?_ 5 _ rfl; (with_reducible repeat first | apply bN | apply bD | apply bA); refine blk_put (cs := #[.int .i64 t340, .int .i64 t341, .int .i64 t342, .int .i64 t343, .int .i64 0, .slice none 0 0, .int .i64 0, .slice none 0 0]) ?_ 4 _ rfl; (with_reducible repeat first | apply bN | apply bD | apply bA); refine blk_put (cs := #[.int .i64 t340, .int .i64 t341, .int .i64 t342, .int .i64 0, .int .i64 0, .slice none 0 0, .int .i64 0, .slice none 0 0]) ?_ 3 _ rfl; (with_reducible repeat first | apply bN | apply bD | apply bA); refine blk_put (cs := #[.int .i64 t340, .int .i64 t341, .int .i64 0, .int .i64 0, .int .i64 0, .slice none 0 0, .int .i64 0, .slice none 0 0]) ?_ 2 _ rfl; (with_reducible repeat first | apply bN | apply bD | apply bA); refine blk_put (cs := #[.int .i64 t340, .int .i64 0, .int .i64 0, .int .i64 0, .int .i64 0, .slice none 0 0, .int .i64 0, .slice none 0 0]) ?_ 1 _ rfl; (with_reducible repeat first | apply bN | apply bD | apply bA); refine blk_put (cs := #[.int .i64 0, .int .i64 0, .int .i64 0, .int .i64 0, .int .i64 0, .slice none 0 0, .int .i64 0, .slice none 0 0]) ?_ 0 _ rfl; (with_reducible repeat first | apply bN | apply bD | apply bA); exact BK353.out) hb); have n10_ := As.mk (bt (by repeat (first | (with_reducible first | exact HB.out | apply ba | apply bw | apply b1 | refine bs ?_ GE307.out | refine bs ?_ GE324.out | refine bs ?_ GE353.out) | exact HB.out)) hb); clear HO_308005; clear HO_308007; clear HO_325005; clear HO_325007; clear HO339; clear HO347; clear HO351; clear BK307; clear BK324; clear BK353; clear HB; have HO_308005 := n0_; have HO_308007 := n1_; have HO_325005 := n2_; have HO_325007 := n3_; have HO339 := n4_; have HO347 := n5_; have HO351 := n6_; have BK307 := n7_; have BK324 := n8_; have BK353 := n9_; have HB := n10_; clear n0_ n1_ n2_ n3_ n4_ n5_ n6_ n7_ n8_ n9_ n10_; (try clear hb); (try clear hb2); (try clear hk); (try clear hi)))
             go_meet
             case rel => exact ⟨_, (true), (by first | rfl | (simp; done) | (simp [*]; done)), H', ⟨by have := HJ7.out; have := HJ38.out; first | omega | exact Nat.le_refl _⟩, ⟨by (with_reducible repeat first | apply rA | apply rN | apply rD); exact Kd.R_mono HO_308005.out (fun _ hk => ⟨hk.1.1.1, ⟨hk.1.1.2.1, ⟨hk.1.1.2.2, ⟨hk.1.2, hk.2⟩⟩⟩⟩)⟩, ⟨by (with_reducible repeat first | apply rA | apply rN | apply rD); exact Kd.R_mono HO_308007.out (fun _ hk => ⟨hk.1.1.1, ⟨hk.1.1.2.1, ⟨hk.1.1.2.2, ⟨hk.1.2, hk.2⟩⟩⟩⟩)⟩, ⟨by (with_reducible repeat first | apply rA | apply rN | apply rD); exact Kd.R_mono HO_325005.out (fun _ hk => ⟨hk.1.1.1, ⟨hk.1.1.2.1, ⟨hk.1.1.2.2, ⟨hk.1.2, hk.2⟩⟩⟩⟩)⟩, ⟨by (with_reducible repeat first | apply rA | apply rN | apply rD); exact Kd.R_mono HO_325007.out (fun _ hk => ⟨hk.1.1.1, ⟨hk.1.1.2.1, ⟨hk.1.1.2.2, ⟨hk.1.2, hk.2⟩⟩⟩⟩)⟩, ⟨by (with_reducible repeat first | apply rA | apply rN | apply rD); exact Kd.R_mono HO347.out (fun _ hk => ⟨hk.1.1.1.2, ⟨hk.1.1.2, ⟨hk.1.2, ⟨hk.2, hk.1.1.1.1⟩⟩⟩⟩)⟩, ⟨by (with_reducible repeat first | apply rA | apply rN | apply rD); exact Kd.R_mono HO351.out (fun _ hk => ⟨hk.1.1.1.2, ⟨hk.1.1.2, ⟨hk.1.2, ⟨hk.2, hk.1.1.1.1⟩⟩⟩⟩)⟩, ⟨by (with_reducible repeat first | apply bN | apply bD | apply bA); exact BK307.out⟩, ⟨by (with_reducible repeat first | apply bN | apply bD | apply bA); exact BK324.out⟩, ⟨by (with_reducible repeat first | apply bN | apply bD | apply bA); exact BK353.out⟩, ⟨by repeat (first | (with_reducible first | exact HB.out | apply ba | apply bw | apply b1 | refine bs ?_ GE307.out | refine bs ?_ GE324.out | refine bs ?_ GE353.out) | exact HB.out)⟩⟩
           case rest =>
            clear HC66
            try clear c1
            try clear c2
            try clear p2
            try clear c3
            try clear c3b0
            try clear c3b1
            try clear c4
            try clear c5
            try clear c6
            try clear c7
            try clear c8
            try clear c9
            try clear c18
            try clear c20
            try clear c21
            try clear c25
            try clear c26
            try clear c30
            try clear c31
            try clear c32
            try clear c33
            try clear c34
            try clear c35
            try clear c37
            try clear c43
            try clear c43b0
            try clear c45
            try clear c46
            try clear c50
            try clear c54
            try clear c57
            try clear c57b0
            try clear c58
            try clear c63
            try clear c63b0
            try clear c63b1
            try clear c67
            try clear c76
            try clear c77
            try clear c82
            try clear c83
            try clear c84
            try clear c86
            try clear c89
            try clear c90
            try clear c92
            try clear hcz13_0
            try clear hcz13_1
            try clear hcz13_2
            try clear hcz13_3
            try clear hcz13_4
            try clear hcz13_5
            try clear hcz13_6
            try clear hcz13_7
            try clear hcz21_0
            try clear hcz21_1
            try clear hcz21_2
            try clear hcz21_3
            try clear hcz21_4
            try clear hcz21_5
            try clear hcz21_6
            try clear hcz21_7
            try clear hcz27_0
            try clear hcz27_1
            try clear hcz27_2
            try clear hcz27_3
            try clear hcz27_4
            try clear hcz27_5
            try clear hcz27_6
            try clear hcz27_7
            try clear hcz28_0
            try clear hcz28_1
            try clear hcz28_2
            try clear hcz28_3
            try clear hcz28_4
            try clear hcz28_5
            try clear hcz28_6
            try clear hcz28_7
            try clear hcz31_0
            try clear hcz31_1
            try clear hcz31_2
            try clear hcz31_3
            try clear hcz31_4
            try clear hcz31_5
            try clear hcz31_6
            try clear hcz31_7
            try clear hcz32_0
            try clear hcz32_1
            try clear hcz32_2
            try clear hcz32_3
            try clear hcz32_4
            try clear hcz32_5
            try clear hcz32_6
            try clear hcz32_7
            try clear hcz47_0
            try clear hcz47_1
            try clear hcz47_2
            try clear hcz47_3
            try clear hcz47_4
            try clear hcz47_5
            try clear hcz47_6
            try clear hcz47_7
            try clear hcz48_0
            try clear hcz48_1
            try clear hcz48_2
            try clear hcz48_3
            try clear hcz48_4
            try clear hcz48_5
            try clear hcz48_6
            try clear hcz48_7
            try clear hcz51_0
            try clear hcz51_1
            try clear hcz51_2
            try clear hcz51_3
            try clear hcz51_4
            try clear hcz51_5
            try clear hcz51_6
            try clear hcz51_7
            try clear hcz52_0
            try clear hcz52_1
            try clear hcz52_2
            try clear hcz52_3
            try clear hcz52_4
            try clear hcz52_5
            try clear hcz52_6
            try clear hcz52_7
            try clear hcz59_0
            try clear hcz59_1
            try clear hcz59_2
            try clear hcz59_3
            try clear hcz59_4
            try clear hcz59_5
            try clear hcz59_6
            try clear hcz59_7
            try clear hcz61_0
            try clear hcz61_1
            try clear hcz61_2
            try clear hcz61_3
            try clear hcz61_4
            try clear hcz61_5
            try clear hcz61_6
            try clear hcz61_7
            try clear hcz68_0
            try clear hcz68_1
            try clear hcz68_2
            try clear hcz68_3
            try clear hcz68_4
            try clear hcz68_5
            try clear hcz68_6
            try clear hcz68_7
            try clear hcz70_0
            try clear hcz70_1
            try clear hcz70_2
            try clear hcz70_3
            try clear hcz70_4
            try clear hcz70_5
            try clear hcz70_6
            try clear hcz70_7
            try clear hcz78_0
            try clear hcz78_1
            try clear hcz78_2
            try clear hcz78_3
            try clear hcz78_4
            try clear hcz78_5
            try clear hcz78_6
            try clear hcz78_7
            try clear hcz85_0
            try clear hcz85_1
            try clear hcz85_2
            try clear hcz85_3
            try clear hcz85_4
            try clear hcz85_5
            try clear hcz85_6
            try clear hcz85_7
            try clear hcz87_0
            try clear hcz87_1
            try clear hcz87_2
            try clear hcz87_3
            try clear hcz87_4
            try clear hcz87_5
            try clear hcz87_6
            try clear hcz87_7
            try clear hcz91_0
            try clear hcz91_1
            try clear hcz91_2
            try clear hcz91_3
            try clear hcz91_4
            try clear hcz91_5
            try clear hcz91_6
            try clear hcz91_7
            try clear hcz93_0
            try clear hcz93_1
            try clear hcz93_2
            try clear hcz93_3
            try clear hcz93_4
            try clear hcz93_5
            try clear hcz93_6
            try clear hcz93_7
            try clear hfz13_0
            try clear hfz13_1
            try clear hfz13_2
            try clear hfz13_3
            try clear hfz13_4
            try clear hfz13_5
            try clear hfz13_6
            try clear hfz13_7
            try clear hfz21_0
            try clear hfz21_1
            try clear hfz21_2
            try clear hfz21_3
            try clear hfz21_4
            try clear hfz21_5
            try clear hfz21_6
            try clear hfz21_7
            try clear hfz27_0
            try clear hfz27_1
            try clear hfz27_2
            try clear hfz27_3
            try clear hfz27_4
            try clear hfz27_5
            try clear hfz27_6
            try clear hfz27_7
            try clear hfz28_0
            try clear hfz28_1
            try clear hfz28_2
            try clear hfz28_3
            try clear hfz28_4
            try clear hfz28_5
            try clear hfz28_6
            try clear hfz28_7
            try clear hfz31_0
            try clear hfz31_1
            try clear hfz31_2
            try clear hfz31_3
            try clear hfz31_4
            try clear hfz31_5
            try clear hfz31_6
            try clear hfz31_7
            try clear hfz32_0
            try clear hfz32_1
            try clear hfz32_2
            try clear hfz32_3
            try clear hfz32_4
            try clear hfz32_5
            try clear hfz32_6
            try clear hfz32_7
            try clear hfz47_0
            try clear hfz47_1
            try clear hfz47_2
            try clear hfz47_3
            try clear hfz47_4
            try clear hfz47_5
            try clear hfz47_6
            try clear hfz47_7
            try clear hfz48_0
            try clear hfz48_1
            try clear hfz48_2
            try clear hfz48_3
            try clear hfz48_4
            try clear hfz48_5
            try clear hfz48_6
            try clear hfz48_7
            try clear hfz51_0
            try clear hfz51_1
            try clear hfz51_2
            try clear hfz51_3
            try clear hfz51_4
            try clear hfz51_5
            try clear hfz51_6
            try clear hfz51_7
            try clear hfz52_0
            try clear hfz52_1
            try clear hfz52_2
            try clear hfz52_3
            try clear hfz52_4
            try clear hfz52_5
            try clear hfz52_6
            try clear hfz52_7
            try clear hfz59_0
            try clear hfz59_1
            try clear hfz59_2
            try clear hfz59_3
            try clear hfz59_4
            try clear hfz59_5
            try clear hfz59_6
            try clear hfz59_7
            try clear hfz61_0
            try clear hfz61_1
            try clear hfz61_2
            try clear hfz61_3
            try clear hfz61_4
            try clear hfz61_5
            try clear hfz61_6
            try clear hfz61_7
            try clear hfz68_0
            try clear hfz68_1
            try clear hfz68_2
            try clear hfz68_3
            try clear hfz68_4
            try clear hfz68_5
            try clear hfz68_6
            try clear hfz68_7
            try clear hfz70_0
            try clear hfz70_1
            try clear hfz70_2
            try clear hfz70_3
            try clear hfz70_4
            try clear hfz70_5
            try clear hfz70_6
            try clear hfz70_7
            try clear hfz78_0
            try clear hfz78_1
            try clear hfz78_2
            try clear hfz78_3
            try clear hfz78_4
            try clear hfz78_5
            try clear hfz78_6
            try clear hfz78_7
            try clear hfz85_0
            try clear hfz85_1
            try clear hfz85_2
            try clear hfz85_3
            try clear hfz85_4
            try clear hfz85_5
            try clear hfz85_6
            try clear hfz85_7
            try clear hfz87_0
            try clear hfz87_1
            try clear hfz87_2
            try clear hfz87_3
            try clear hfz87_4
            try clear hfz87_5
            try clear hfz87_6
            try clear hfz87_7
            try clear hfz91_0
            try clear hfz91_1
            try clear hfz91_2
            try clear hfz91_3
            try clear hfz91_4
            try clear hfz91_5
            try clear hfz91_6
            try clear hfz91_7
            try clear hfz93_0
            try clear hfz93_1
            try clear hfz93_2
            try clear hfz93_3
            try clear hfz93_4
            try clear hfz93_5
            try clear hfz93_6
            try clear hfz93_7
            try clear p2
            obtain ⟨kq, x89_65, rfl, HA, HJ65, HO_308005, HO_308007, HO_325005, HO_325007, HO_354005, HO_354007, BK307, BK324, BK353, HB⟩ := hcut
            have hl325005_65 := (rR HO_325005.out).1
            rw [hl325005_65] at HO_325005
            (try simp only [hl325005_65])
            (try simp only [hl325005_65] at BK307)
            (try simp only [hl325005_65] at BK324)
            (try simp only [hl325005_65] at BK353)
            (try simp only [hl325005_65] at HO_308005)
            (try simp only [hl325005_65] at HO_308007)
            (try simp only [hl325005_65] at HO_325007)
            (try simp only [hl325005_65] at HO_354005)
            (try simp only [hl325005_65] at HO_354007)
            have hl325007_65 := (rR HO_325007.out).1
            rw [hl325007_65] at HO_325007
            (try simp only [hl325007_65])
            (try simp only [hl325007_65] at BK307)
            (try simp only [hl325007_65] at BK324)
            (try simp only [hl325007_65] at BK353)
            (try simp only [hl325007_65] at HO_308005)
            (try simp only [hl325007_65] at HO_308007)
            (try simp only [hl325007_65] at HO_325005)
            (try simp only [hl325007_65] at HO_354005)
            (try simp only [hl325007_65] at HO_354007)
            cases kq with
            | zero => exact absurd HA.out (by simp [laws_FnExactSparseOf.j2])
            | succ kj65 =>
             have H := HA.out
             clear HA
             simp only [laws_FnExactSparseOf.j2] at H
             by_cases c95 : x89_65 = true
             ·subst c95
              have H1 : (some false) = some r := by rw [if_pos rfl] at H; exact H
              clear H
              have H := H1
              clear H1
              exact absurd ((Option.some.inj H).trans HRT_.out) (by decide)
             ·replace c95 := Bool.eq_false_iff.mpr c95
              subst c95
              have H1 : ((laws_heldSparse.f kj65 t311 t312 t313 t314 t315 t334 t319 t335 1).bind fun t355 => (if t355 < 0 then (some false) else (if t355 = t333 then (some true) else (some false)))) = some r := by rw [if_neg (show ¬ (false = true) by decide)] at H; exact H
              clear H
              have H := H1
              clear H1
              replace H := Option.bind_eq_some_iff.mp H
              obtain ⟨t355, A960, H⟩ := H
              replace H : (if t355 < 0 then (some false) else (if t355 = t333 then (some true) else (some false))) = some r := H
              have A96 := As.mk A960
              clear A960
              by_cases c97 : t355 < 0
              ·rw [if_pos c97] at H
               have c97b0 : decide (t355 < 0) = true := decide_eq_true c97
               clear c97
               exact absurd ((Option.some.inj H).trans HRT_.out) (by decide)
              ·rw [if_neg c97] at H
               have c97b0 : decide (t355 < 0) = false := decide_eq_false c97
               clear c97
               by_cases c102 : t355 = t333
               ·rw [if_pos c102] at H
                have c102b0 : (t355 == t333) = true := beq_iff_eq.mpr c102
                have c102b1 : (t355 != t333) = false := bne_eq_false_iff_eq.mpr c102
                clear c102
                obtain rfl := Option.some.inj H
                have hnb103 := NB324_307.out
                have hnc103 := NB307_324.out
                have hnb104 := NB324_353.out
                have hnc104 := NB353_324.out
                have hcz105_0 : wc.cell? ⟨gb324, 0, none⟩ = some (.int .i64 t311) := (blk_cell BK324.out 0).trans rfl
                have hcz105_1 : wc.cell? ⟨gb324, 1, none⟩ = some (.int .i64 t312) := (blk_cell BK324.out 1).trans rfl
                have hcz105_2 : wc.cell? ⟨gb324, 2, none⟩ = some (.int .i64 t313) := (blk_cell BK324.out 2).trans rfl
                have hcz105_3 : wc.cell? ⟨gb324, 3, none⟩ = some (.int .i64 t314) := (blk_cell BK324.out 3).trans rfl
                have hcz105_4 : wc.cell? ⟨gb324, 4, none⟩ = some (.int .i64 t315) := (blk_cell BK324.out 4).trans rfl
                have hcz105_5 : wc.cell? ⟨gb324, 5, none⟩ = some (.slice Ao22 t334.length co22) := (blk_cell BK324.out 5).trans rfl
                have hcz105_6 : wc.cell? ⟨gb324, 6, none⟩ = some (.int .i64 t319) := (blk_cell BK324.out 6).trans rfl
                have hcz105_7 : wc.cell? ⟨gb324, 7, none⟩ = some (.slice Ao23 t335.length co23) := (blk_cell BK324.out 7).trans rfl
                have hfz105_0 := blk_frozen BK324.out 0
                have hfz105_1 := blk_frozen BK324.out 1
                have hfz105_2 := blk_frozen BK324.out 2
                have hfz105_3 := blk_frozen BK324.out 3
                have hfz105_4 := blk_frozen BK324.out 4
                have hfz105_5 := blk_frozen BK324.out 5
                have hfz105_6 := blk_frozen BK324.out 6
                have hfz105_7 := blk_frozen BK324.out 7
                go_wp2_with (first | ((with_reducible refine gc (f := 35) rfl ?_); refine goesL_ (some 92) rfl rfl Try.func35 (by kernel_rfl) rfl #[.agg #[.int .i64 t311, .int .i64 t312, .int .i64 t313, .int .i64 t314, .int .i64 t315, .slice Ao22 t334.length co22, .int .i64 t319, .slice Ao23 t335.length co23], .int .i64 1] rfl (by (try simp only [List.map_toArray, List.map_cons, List.map_nil]); first | done | rfl | (simp only [List.length_drop, List.length_take]; rfl)) ?_; (with_reducible refine (laws_heldSparse.calls kj65 t311 t312 t313 t314 t315 _ _ t334 t319 _ _ t335 1 t355 _ ?side1 ?side2 ?side3 ?side4 A96.out).mono ?_); (case side1 => repeat (first | exact (rR HO_325005.out).2.2 | (with_reducible refine cA ?_ _) | (with_reducible refine cN ?_ _) | (with_reducible refine cD ?_))); (case side2 => exact (rR HO_325005.out).2.1); (case side3 => repeat (first | exact (rR HO_325007.out).2.2 | (with_reducible refine cA ?_ _) | (with_reducible refine cN ?_ _) | (with_reducible refine cD ?_))); (case side4 => exact (rR HO_325007.out).2.1); rintro e w106 ⟨rfl, hb⟩; refine ⟨_, rfl, ?_⟩; have n0_ := As.mk (rB (by (with_reducible repeat first | apply rA | apply rN | apply rD); exact HO_308005.out) hb); have n1_ := As.mk (rB (by (with_reducible repeat first | apply rA | apply rN | apply rD); exact HO_308007.out) hb); have n2_ := As.mk (rB (by (with_reducible repeat first | apply rA | apply rN | apply rD); exact HO_325005.out) hb); have n3_ := As.mk (rB (by (with_reducible repeat first | apply rA | apply rN | apply rD); exact HO_325007.out) hb); have n4_ := As.mk (rB (by (with_reducible repeat first | apply rA | apply rN | apply rD); exact HO_354005.out) hb); have n5_ := As.mk (rB (by (with_reducible repeat first | apply rA | apply rN | apply rD); exact HO_354007.out) hb); have n6_ := As.mk (bb (g := gb307) (o := .cells #[.int .i64 t294, .int .i64 t295, .int .i64 t296, .int .i64 t297, .int .i64 t298, .slice Ao14 t299.length co14, .int .i64 t302, .slice Ao15 t303.length co15] 51 (0, 0)) (by (with_reducible repeat first | apply bN | apply bD | apply bA); exact BK307.out) hb); have n7_ := As.mk (bb (g := gb324) (o := .cells #[.int .i64 t311, .int .i64 t312, .int .i64 t313, .int .i64 t314, .int .i64 t315, .slice Ao22 t334.length co22, .int .i64 t319, .slice Ao23 t335.length co23] 51 (0, 0)) (by (with_reducible repeat first | apply bN | apply bD | apply bA); exact BK324.out) hb); have n8_ := As.mk (bb (g := gb353) (o := .cells #[.int .i64 t340, .int .i64 t341, .int .i64 t342, .int .i64 t343, .int .i64 t344, .slice Ao79 t345.length co79, .int .i64 t348, .slice Ao80 t349.length co80] 51 (0, 0)) (by (with_reducible repeat first | apply bN | apply bD | apply bA); exact BK353.out) hb); have n9_ := As.mk (bt (by repeat (first | (with_reducible first | exact HB.out | apply ba | apply bw | apply b1 | refine bs ?_ GE307.out | refine bs ?_ GE324.out | refine bs ?_ GE353.out) | exact HB.out)) hb); clear HO_308005; clear HO_308007; clear HO_325005; clear HO_325007; clear HO_354005; clear HO_354007; clear BK307; clear BK324; clear BK353; clear HB; have HO_308005 := n0_; have HO_308007 := n1_; have HO_325005 := n2_; have HO_325007 := n3_; have HO_354005 := n4_; have HO_354007 := n5_; have BK307 := n6_; have BK324 := n7_; have BK353 := n8_; have HB := n9_; clear n0_ n1_ n2_ n3_ n4_ n5_ n6_ n7_ n8_ n9_; (try clear hb); (try clear hb2); (try clear hk); (try clear hi)))
                go_ret
                exact ⟨by first | rfl | (simp [errW_none, errW_some] <;> rfl) | (simp [*, errW_none, errW_some] <;> rfl), by repeat (first | (with_reducible first | exact HB.out | apply ba | apply bw | apply b1 | refine bs ?_ GE307.out | refine bs ?_ GE324.out | refine bs ?_ GE353.out) | exact HB.out)⟩
               ·rw [if_neg c102] at H
                have c102b0 : (t355 == t333) = false := beq_eq_false_iff_ne.mpr c102
                have c102b1 : (t355 != t333) = true := bne_iff_ne.mpr c102
                exact absurd ((Option.some.inj H).trans HRT_.out) (by decide)
          ·rw [if_neg c63] at H
           have c63b0 : (t336 == t333) = false := beq_eq_false_iff_ne.mpr c63
           have c63b1 : (t336 != t333) = true := bne_iff_ne.mpr c63
           exact absurd ((Option.some.inj H).trans HRT_.out) (by decide)
     ·replace c37 := Bool.eq_false_iff.mpr c37
      subst c37
      have H1 : (some false) = some r := by rw [if_neg (show ¬ (false = true) by decide)] at H; exact H
      clear H
      have H := H1
      clear H1
      exact absurd ((Option.some.inj H).trans HRT_.out) (by decide)

/-- THE ONE PURE STATEMENT of laws_FnExactSparseOf: yours. -/
def laws_FnExactSparseOf.Pure : Prop := ∀ (l0 : List Int) (a1 : Int), l0.length ≤ maxLen → l0.length * 8 ≤ 140737488351232 → (∀ x ∈ l0, (Lit.int .i64 x).wf = true) → (Lit.int .i64 a1).wf = true → ∃ k, laws_FnExactSparseOf.f k l0 a1 = some true
theorem laws_FnExactSparseOf.walk (P : laws_FnExactSparseOf.Pure) (a0 : Option Addr) (len0 cap0 : Nat) (z0 : List Int) (a1 : Int) (w : World) (w0 : (a0 = none ∧ len0 = 0 ∧ cap0 = 0 ∧ z0 = []) ∨ ∃ x, a0 = some x ∧ len0 ≤ cap0 ∧ cap0 ≤ maxLen ∧ z0.length = cap0 ∧ (∀ i, i < z0.length → w.cell? (x.add i) = some (.int .i64 (z0.getD i 0))) ∧ ∀ n ∈ z0, (Lit.int .i64 n).wf = true) (y0 : len0 * 8 ≤ 140737488351232) (w1 : (Lit.int .i64 a1).wf = true) :
  Calls Try.prog 8 #[.slice a0 len0 cap0, .int .i64 a1] w fun e w' => e = .returned (.bool true) ∧ Below w.heap.size w w' := by
 obtain ⟨l0, rfl, hr0, hm0, hw0, hc0⟩ := ReadsInt.ofRowC w0
 obtain ⟨k, h⟩ := P l0 a1 hm0 y0 hw0 w1
 refine (laws_FnExactSparseOf.calls k _ _ l0 a1 true w (Kd.C_of_reads (d := (0 : Int)) (h1 := fun _ => rfl) hr0) hc0 rfl h).mono ?_
 rintro e w' ⟨rfl, hd⟩
 exact ⟨rfl, hd⟩

end Go.Proofs.Yteckcjjkblkfkaa.QFnExactSparseOf
