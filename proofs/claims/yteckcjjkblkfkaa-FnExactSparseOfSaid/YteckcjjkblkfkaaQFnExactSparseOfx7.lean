-- WRITTEN BY A PROGRAM OF THIS SESSION (wip/tools/print2.py) out of Lean's own print of the loaded program; Lean checks every row.
import Derived.Test.YteckcjjkblkfkaaQFnExactSparseOfx0
import Derived.Test.YteckcjjkblkfkaaQFnExactSparseOfx5
import Derived.Test.YteckcjjkblkfkaaQFnExactSparseOfx6
namespace Go.Proofs.Yteckcjjkblkfkaa.QFnExactSparseOf
open Go.RowKit Go.Proofs.YteckcjjkblkfkaaW.PrintWords Go.Proofs.YteckcjjkblkfkaaW.PrintLast Go.Proofs.YteckcjjkblkfkaaW.PrintMore
open Go.Proofs.YteckcjjkblkfkaaW.PrintWords renaming below_alloc → ba, pw_below_drewN → bw, below_drew1 → b1, below_set → bs, blk_drewN → bN, blk_drew → bD, blk_alloc → bA, below_step → bt, below_size → bz, blk_below → bb, gate_callee → gc, gate_dst → gd, Aside0 → As
open Go.Proofs.YteckcjjkblkfkaaW.PrintWords.Kd renaming R_alloc → rA, R_drewN → rN, R_drew → rD, R_slice → rS, R_below → rB, R_elder' → rE, R_lower → rL, R_new' → rW, R_reads' → rR, C_alloc → cA, C_drewN → cN, C_drew → cD, C_below → cB
open Bool renaming true → T_, false → F_
attribute [local go_sem] max2_int min2_int max_two min_two max_three min_three max_four min_four   -- for this text's walks alone
set_option linter.unusedVariables false
set_option linter.unusedSimpArgs false

/-! ### impl_SparseOf: function 32 -/
mutual
def impl_SparseOf.j0 : Nat → List Int → Bool → Int → Option (Int × Int × Int × Int × Int × List Int × Int × List Int × Bool)
 | 0, _, _, _ => none
 | k + 1, x0, x26, x217000 => if x26 = true then (some (0, 0, 0, 0, 0, ([] : List Int), 0, ([] : List Int), false)) else ((impl_lowWidth.f x217000 (x0.length : Int)).bind fun t221 => (if 0 ≤ t221 then (if (wrap64 ((wrap64 ((x0.length : Int) + (shr .i64 x217000 t221))) + 1)) > 5000 then (some (0, 0, 0, 0, 0, ([] : List Int), 0, ([] : List Int), false)) else (impl_SparseOf.l0 k x0 t221 ([] : List Int) ([] : List Int) x0 (x0.length : Int) 0 x217000)) else (none)))
def impl_SparseOf.l0 : Nat → List Int → Int → List Int → List Int → List Int → Int → Int → Int → Option (Int × Int × Int × Int × Int × List Int × Int × List Int × Bool)
 | 0, _, _, _, _, _, _, _, _ => none
 | k + 1, x0, x6, x7, x8, x41, x42, x43, x217000 => if x43 < x42 then (if 0 ≤ x43 then (if x43 < (x41.length : Int) then (impl_SparseOf.l1 k x0 x6 x7 x8 (rd x41 x43) x41 x42 x43 x217000) else (none)) else (none)) else (impl_SparseOf.l2 k x0 x6 x7 x8 x217000)
def impl_SparseOf.l1 : Nat → List Int → Int → List Int → List Int → Int → List Int → Int → Int → Int → Option (Int × Int × Int × Int × Int × List Int × Int × List Int × Bool)
 | 0, _, _, _, _, _, _, _, _, _ => none
 | k + 1, x0, x6, x7, x8, x10, x41, x42, x43, x217000 => if 0 ≤ x6 then (if (wrap64 ((x8.length : Int) - (x7.length : Int))) < (shr .i64 x10 x6) then ((some (([0] : List Int) : List Int)).bind fun y223 => (if x8.length + y223.length < 17592186044416 then (impl_SparseOf.l1 k x0 x6 x7 (x8 ++ y223) x10 x41 x42 x43 x217000) else (none))) else ((some (([1] : List Int) : List Int)).bind fun y229 => (if x8.length + y229.length < 17592186044416 then ((some (([Go.bits .and .i64 x10 (wrap64 ((shl .i64 1 x6) - 1))] : List Int) : List Int)).bind fun y235 => (if x7.length + y235.length < 17592186044416 then (impl_SparseOf.l0 k x0 x6 (x7 ++ y235) (x8 ++ y229) x41 x42 (wrap64 (x43 + 1)) x217000) else (none))) else (none)))) else (none)
def impl_SparseOf.l2 : Nat → List Int → Int → List Int → List Int → Int → Option (Int × Int × Int × Int × Int × List Int × Int × List Int × Bool)
 | 0, _, _, _, _, _ => none
 | k + 1, x0, x6, x7, x8, x217000 => if 0 ≤ x6 then (if (wrap64 ((x8.length : Int) - (x7.length : Int))) ≤ (shr .i64 x217000 x6) then ((some (([0] : List Int) : List Int)).bind fun y241 => (if x8.length + y241.length < 17592186044416 then (impl_SparseOf.l2 k x0 x6 x7 (x8 ++ y241) x217000) else (none))) else ((impl_PackOf.f k x7 x6).bind fun bt247 => (if bt247.2.2.2.2 = true then ((impl_bitsOf.f k x8).bind fun bt255 => (some (x217000, (x0.length : Int), bt247.1, bt247.2.1, bt247.2.2.1, bt247.2.2.2.1, bt255.1, bt255.2, true))) else (some (0, 0, 0, 0, 0, ([] : List Int), 0, ([] : List Int), false))))) else (none)
end
def impl_SparseOf.f (k : Nat) (l0 : List Int) (a1 : Int) : Option (Int × Int × Int × Int × Int × List Int × Int × List Int × Bool) := (impl_within.f a1 0 1000000).bind fun t218 => (if t218 = true then ((slices_IsSorted_int_int.f k l0).bind fun t219 => (if t219 = true then ((impl_areAll_SparseOf_1.f l0 a1).bind fun t220 => (impl_SparseOf.j0 k l0 (!t220) a1)) else (impl_SparseOf.j0 k l0 true a1))) else (impl_SparseOf.j0 k l0 true a1))
theorem impl_SparseOf.mono_l : ∀ k, (∀ y0 y1 y2, LeO (impl_SparseOf.j0 k y0 y1 y2) (impl_SparseOf.j0 (k + 1) y0 y1 y2)) ∧ (∀ y0 y1 y2 y3 y4 y5 y6 y7, LeO (impl_SparseOf.l0 k y0 y1 y2 y3 y4 y5 y6 y7) (impl_SparseOf.l0 (k + 1) y0 y1 y2 y3 y4 y5 y6 y7)) ∧ (∀ y0 y1 y2 y3 y4 y5 y6 y7 y8, LeO (impl_SparseOf.l1 k y0 y1 y2 y3 y4 y5 y6 y7 y8) (impl_SparseOf.l1 (k + 1) y0 y1 y2 y3 y4 y5 y6 y7 y8)) ∧ (∀ y0 y1 y2 y3 y4, LeO (impl_SparseOf.l2 k y0 y1 y2 y3 y4) (impl_SparseOf.l2 (k + 1) y0 y1 y2 y3 y4))
 | 0 => ⟨fun _ _ _ r h => by simp [impl_SparseOf.j0] at h, fun _ _ _ _ _ _ _ _ r h => by simp [impl_SparseOf.l0] at h, fun _ _ _ _ _ _ _ _ _ r h => by simp [impl_SparseOf.l1] at h, fun _ _ _ _ _ r h => by simp [impl_SparseOf.l2] at h⟩
 | k + 1 => by
  obtain ⟨ih0, ih1, ih2, ih3⟩ := impl_SparseOf.mono_l k
  refine ⟨?_, ?_, ?_, ?_⟩
  ·intro y0 y1 y2
   unfold impl_SparseOf.j0
   repeat' first
   | (with_reducible exact ih0 _ _ _)
   | (with_reducible exact ih1 _ _ _ _ _ _ _ _)
   | (with_reducible exact ih2 _ _ _ _ _ _ _ _ _)
   | (with_reducible exact ih3 _ _ _ _ _)
   | (with_reducible exact impl_PackOf.mono _ _ _)
   | (with_reducible exact impl_bitsOf.mono _ _)
   | (with_reducible exact slices_IsSorted_int_int.mono _ _)
   | (with_reducible exact LeO.refl _)
   | (with_reducible exact LeO.none _)
   | (with_reducible refine LeO.ite ?_ ?_)
   | (with_reducible refine LeO.bind ?_ (fun _ => ?_))
   | exact ih0 _ _ _
   | exact ih1 _ _ _ _ _ _ _ _
   | exact ih2 _ _ _ _ _ _ _ _ _
   | exact ih3 _ _ _ _ _
   | exact impl_PackOf.mono _ _ _
   | exact impl_bitsOf.mono _ _
   | exact slices_IsSorted_int_int.mono _ _
   | exact LeO.none _
   | refine LeO.ite ?_ ?_
   | refine LeO.bind ?_ (fun _ => ?_)
  ·intro y0 y1 y2 y3 y4 y5 y6 y7
   unfold impl_SparseOf.l0
   repeat' first
   | (with_reducible exact ih0 _ _ _)
   | (with_reducible exact ih1 _ _ _ _ _ _ _ _)
   | (with_reducible exact ih2 _ _ _ _ _ _ _ _ _)
   | (with_reducible exact ih3 _ _ _ _ _)
   | (with_reducible exact impl_PackOf.mono _ _ _)
   | (with_reducible exact impl_bitsOf.mono _ _)
   | (with_reducible exact slices_IsSorted_int_int.mono _ _)
   | (with_reducible exact LeO.refl _)
   | (with_reducible exact LeO.none _)
   | (with_reducible refine LeO.ite ?_ ?_)
   | (with_reducible refine LeO.bind ?_ (fun _ => ?_))
   | exact ih0 _ _ _
   | exact ih1 _ _ _ _ _ _ _ _
   | exact ih2 _ _ _ _ _ _ _ _ _
   | exact ih3 _ _ _ _ _
   | exact impl_PackOf.mono _ _ _
   | exact impl_bitsOf.mono _ _
   | exact slices_IsSorted_int_int.mono _ _
   | exact LeO.none _
   | refine LeO.ite ?_ ?_
   | refine LeO.bind ?_ (fun _ => ?_)
  ·intro y0 y1 y2 y3 y4 y5 y6 y7 y8
   unfold impl_SparseOf.l1
   repeat' first
   | (with_reducible exact ih0 _ _ _)
   | (with_reducible exact ih1 _ _ _ _ _ _ _ _)
   | (with_reducible exact ih2 _ _ _ _ _ _ _ _ _)
   | (with_reducible exact ih3 _ _ _ _ _)
   | (with_reducible exact impl_PackOf.mono _ _ _)
   | (with_reducible exact impl_bitsOf.mono _ _)
   | (with_reducible exact slices_IsSorted_int_int.mono _ _)
   | (with_reducible exact LeO.refl _)
   | (with_reducible exact LeO.none _)
   | (with_reducible refine LeO.ite ?_ ?_)
   | (with_reducible refine LeO.bind ?_ (fun _ => ?_))
   | exact ih0 _ _ _
   | exact ih1 _ _ _ _ _ _ _ _
   | exact ih2 _ _ _ _ _ _ _ _ _
   | exact ih3 _ _ _ _ _
   | exact impl_PackOf.mono _ _ _
   | exact impl_bitsOf.mono _ _
   | exact slices_IsSorted_int_int.mono _ _
   | exact LeO.none _
   | refine LeO.ite ?_ ?_
   | refine LeO.bind ?_ (fun _ => ?_)
  ·intro y0 y1 y2 y3 y4
   unfold impl_SparseOf.l2
   repeat' first
   | (with_reducible exact ih0 _ _ _)
   | (with_reducible exact ih1 _ _ _ _ _ _ _ _)
   | (with_reducible exact ih2 _ _ _ _ _ _ _ _ _)
   | (with_reducible exact ih3 _ _ _ _ _)
   | (with_reducible exact impl_PackOf.mono _ _ _)
   | (with_reducible exact impl_bitsOf.mono _ _)
   | (with_reducible exact slices_IsSorted_int_int.mono _ _)
   | (with_reducible exact LeO.refl _)
   | (with_reducible exact LeO.none _)
   | (with_reducible refine LeO.ite ?_ ?_)
   | (with_reducible refine LeO.bind ?_ (fun _ => ?_))
   | exact ih0 _ _ _
   | exact ih1 _ _ _ _ _ _ _ _
   | exact ih2 _ _ _ _ _ _ _ _ _
   | exact ih3 _ _ _ _ _
   | exact impl_PackOf.mono _ _ _
   | exact impl_bitsOf.mono _ _
   | exact slices_IsSorted_int_int.mono _ _
   | exact LeO.none _
   | refine LeO.ite ?_ ?_
   | refine LeO.bind ?_ (fun _ => ?_)
theorem impl_SparseOf.mono : ∀ a0 a1 k, LeO (impl_SparseOf.f k a0 a1) (impl_SparseOf.f (k + 1) a0 a1) := by
 intro a0 a1 k
 obtain ⟨ih0, ih1, ih2, ih3⟩ := impl_SparseOf.mono_l k
 unfold impl_SparseOf.f
 repeat' first
   | (with_reducible exact ih0 _ _ _)
   | (with_reducible exact ih1 _ _ _ _ _ _ _ _)
   | (with_reducible exact ih2 _ _ _ _ _ _ _ _ _)
   | (with_reducible exact ih3 _ _ _ _ _)
   | (with_reducible exact impl_PackOf.mono _ _ _)
   | (with_reducible exact impl_bitsOf.mono _ _)
   | (with_reducible exact slices_IsSorted_int_int.mono _ _)
   | (with_reducible exact LeO.refl _)
   | (with_reducible exact LeO.none _)
   | (with_reducible refine LeO.ite ?_ ?_)
   | (with_reducible refine LeO.bind ?_ (fun _ => ?_))
   | exact ih0 _ _ _
   | exact ih1 _ _ _ _ _ _ _ _
   | exact ih2 _ _ _ _ _ _ _ _ _
   | exact ih3 _ _ _ _ _
   | exact impl_PackOf.mono _ _ _
   | exact impl_bitsOf.mono _ _
   | exact slices_IsSorted_int_int.mono _ _
   | exact LeO.none _
   | refine LeO.ite ?_ ?_
   | refine LeO.bind ?_ (fun _ => ?_)
def impl_SparseOf.T12 : Bool × List (List Nat × List Nat) := (true, [([], []), ([], []), ([0, 1], [0, 1]), ([], []), ([], []), ([], []), ([5], [5]), ([6], [6]), ([4, 7], [4, 7]), ([8], [8]), ([3, 9, 2], [3, 9]), ([2, 10, 0, 1, 2], [0, 2]), ([10, 11, 0, 1, 2, 3, 4, 5, 6, 7, 8, 9, 10, 11], [3, 10])])
def impl_SparseOf.B12 : List Nat := [0, 0, 3, 0, 0, 0, 32, 96, 240, 496, 1023, 2047, 4095]
theorem impl_SparseOf.tab12 : rtab .any (opsOf Try.f32 12) = impl_SparseOf.T12 := by kernel_rfl
theorem impl_SparseOf.bits12 : waitsOk impl_SparseOf.T12.2 impl_SparseOf.B12 = true := by kernel_rfl
def impl_SparseOf.T19 : Bool × List (List Nat × List Nat) := (true, [([], []), ([], []), ([1], [1]), ([], []), ([], []), ([4], [4]), ([0, 2, 3, 5], [0, 2, 3, 5]), ([6, 5, 0, 1, 2, 3, 4, 5, 6], [6]), ([7, 0, 1, 2, 3, 4, 5, 6, 7], [])])
def impl_SparseOf.B19 : List Nat := [0, 0, 2, 0, 0, 16, 63, 127, 255]
theorem impl_SparseOf.tab19 : rtab .any (opsOf Try.f32 19) = impl_SparseOf.T19 := by kernel_rfl
theorem impl_SparseOf.bits19 : waitsOk impl_SparseOf.T19.2 impl_SparseOf.B19 = true := by kernel_rfl
set_option maxHeartbeats 8000000 in
set_option maxRecDepth 100000 in
theorem impl_SparseOf.calls (k : Nat) (A0 : Option Addr) (c0 : Nat) (l0 : List Int) (a1 : Int) (r1 : Int) (r2 : Int) (r3 : Int) (r4 : Int) (r5 : Int) (r6 : List Int) (r7 : Int) (r8 : List Int) (r9 : Bool) (w : World) (hr0 : Kd.C (Kd.int .i64) w A0 l0.length l0) (hc0 : l0.length ≤ c0) (h : impl_SparseOf.f k l0 a1 = some (r1, r2, r3, r4, r5, r6, r7, r8, r9)) :
  Calls Try.prog 32 #[.slice A0 l0.length c0, .int .i64 a1] w fun e w' => ∃ v5_ v7_ : Value, e = .returned (.tuple #[.agg #[.int .i64 r1, .int .i64 r2, .int .i64 r3, .int .i64 r4, .int .i64 r5, v5_, .int .i64 r7, v7_], .bool r9]) ∧ Kd.R (Kd.int .u64) 86 w' w.heap.size (fun k_ => some k_ ≠ (v7_ : Value).ownBlock) v5_ r6 ∧ Kd.R (Kd.int .u64) 86 w' w.heap.size (fun k_ => some k_ ≠ (v5_ : Value).ownBlock) v7_ r8 ∧ Below w.heap.size w w' := by
 have hu51 := Try.underlying51
 have hu31 := Try.underlying31
 have HR0 := As.mk hr0
 have HC0 := As.mk hc0
 clear hr0 hc0
 have HB := As.mk (Below.refl w.heap.size w)
 have H : ((impl_within.f a1 0 1000000).bind fun t218 => (if t218 = true then ((slices_IsSorted_int_int.f k l0).bind fun t219 => (if t219 = true then ((impl_areAll_SparseOf_1.f l0 a1).bind fun t220 => (impl_SparseOf.j0 k l0 (!t220) a1)) else (impl_SparseOf.j0 k l0 true a1))) else (impl_SparseOf.j0 k l0 true a1))) = some (r1, r2, r3, r4, r5, r6, r7, r8, r9) := h
 clear h
 have HC3 := As.mk H
 clear H
 go_enter Try.func32, Try.ntmps32
 go_upto_region 1 with (first | ((with_reducible refine gd (N := 3) rfl ?_); refine box_event ?hg (N := 3) ?hd (cs := #[.int .i64 a1]) (t := 3) ?hr ?_; (case hd => rfl); (case hg => rfl); (case hr => first | (go_simp; done) | (go_simp; rfl)); intro gb216 hg w4 hbox hb; have n0_ := As.mk (bt (by repeat (first | (with_reducible first | exact HB.out | apply ba | apply bw | apply b1) | exact HB.out)) hb); have n1_ := As.mk (hbox); have n2_ := As.mk ((by rw [hg]; exact (bz (by repeat (first | (with_reducible first | exact HB.out | apply ba | apply bw | apply b1) | exact HB.out))) : w.heap.size ≤ gb216)); have n3_ := n2_; clear HB; have HB := n0_; have BK216 := n1_; have GW216 := n2_; have GE216 := n3_; clear n0_ n1_ n2_ n3_; clear hb hbox hg) | ((with_reducible refine gd (N := 4) rfl ?_); refine box_event ?hg (N := 4) ?hd (cs := #[.int .i64 0, .int .i64 0, .int .i64 0, .int .i64 0, .int .i64 0, .slice none 0 0, .int .i64 0, .slice none 0 0]) (t := 51) ?hr ?_; (case hd => rfl); (case hg => rfl); (case hr => first | (go_simp; done) | (go_simp; rfl)); intro gb217 hg w5 hbox hb; have n0_ := As.mk (bb (g := gb216) (o := .cells #[.int .i64 a1] 3 (0, 0)) (by (with_reducible repeat first | apply bN | apply bD | apply bA); exact BK216.out) hb); have n1_ := As.mk (bt (by repeat (first | (with_reducible first | exact HB.out | apply ba | apply bw | apply b1 | refine bs ?_ GE216.out) | exact HB.out)) hb); have n2_ := As.mk (hbox); have n3_ := As.mk ((by rw [hg]; exact (bz (by repeat (first | (with_reducible first | exact HB.out | apply ba | apply bw | apply b1 | refine bs ?_ GE216.out) | exact HB.out))) : w.heap.size ≤ gb217)); have n4_ := n3_; have n5_ := As.mk ((by rw [hg]; exact Nat.ne_of_lt (blk_lt (g := gb216) (o := .cells #[.int .i64 a1] 3 (0, 0)) (by (with_reducible repeat first | apply bN | apply bD | apply bA); exact BK216.out)) : gb216 ≠ gb217)); have n6_ := As.mk n5_.out.symm; clear BK216; clear HB; have BK216 := n0_; have HB := n1_; have BK217 := n2_; have GW217 := n3_; have GE217 := n4_; have NB216_217 := n5_; have NB217_216 := n6_; clear n0_ n1_ n2_ n3_ n4_ n5_ n6_; clear hb hbox hg))
 (try simp only [Act.put, List.setIfInBounds_toArray, List.set_cons_zero, List.set_cons_succ])
 go_cut [26] (fun v26 wc => ∃ (kq : Nat) (x26_2 : Bool), v26 = .bool x26_2 ∧ As (impl_SparseOf.j0 kq l0 x26_2 a1 = some (r1, r2, r3, r4, r5, r6, r7, r8, r9)) ∧ As (kq ≤ k) ∧ As (wc.heap[gb216]? = some (.cells #[.int .i64 a1] 3 (0, 0))) ∧ As (wc.heap[gb217]? = some (.cells #[.int .i64 0, .int .i64 0, .int .i64 0, .int .i64 0, .int .i64 0, (.slice none 0 0), .int .i64 0, (.slice none 0 0)] 51 (0, 0))) ∧ As (Below w.heap.size w wc))
 case first =>
  have H := HC3.out
  clear HC3
  replace H := Option.bind_eq_some_iff.mp H
  obtain ⟨t218, A60, H⟩ := H
  replace H : (if t218 = true then ((slices_IsSorted_int_int.f k l0).bind fun t219 => (if t219 = true then ((impl_areAll_SparseOf_1.f l0 a1).bind fun t220 => (impl_SparseOf.j0 k l0 (!t220) a1)) else (impl_SparseOf.j0 k l0 true a1))) else (impl_SparseOf.j0 k l0 true a1)) = some (r1, r2, r3, r4, r5, r6, r7, r8, r9) := H
  have A6 := As.mk A60
  clear A60
  by_cases c7 : t218 = true
  ·subst c7
   have H1 : ((slices_IsSorted_int_int.f k l0).bind fun t219 => (if t219 = true then ((impl_areAll_SparseOf_1.f l0 a1).bind fun t220 => (impl_SparseOf.j0 k l0 (!t220) a1)) else (impl_SparseOf.j0 k l0 true a1))) = some (r1, r2, r3, r4, r5, r6, r7, r8, r9) := by rw [if_pos rfl] at H; exact H
   clear H
   have H := H1
   clear H1
   replace H := Option.bind_eq_some_iff.mp H
   obtain ⟨t219, A80, H⟩ := H
   replace H : (if t219 = true then ((impl_areAll_SparseOf_1.f l0 a1).bind fun t220 => (impl_SparseOf.j0 k l0 (!t220) a1)) else (impl_SparseOf.j0 k l0 true a1)) = some (r1, r2, r3, r4, r5, r6, r7, r8, r9) := H
   have A8 := As.mk A80
   clear A80
   by_cases c9 : t219 = true
   ·subst c9
    have H1 : ((impl_areAll_SparseOf_1.f l0 a1).bind fun t220 => (impl_SparseOf.j0 k l0 (!t220) a1)) = some (r1, r2, r3, r4, r5, r6, r7, r8, r9) := by rw [if_pos rfl] at H; exact H
    clear H
    have H := H1
    clear H1
    replace H := Option.bind_eq_some_iff.mp H
    obtain ⟨t220, A100, H⟩ := H
    replace H : (impl_SparseOf.j0 k l0 (!t220) a1) = some (r1, r2, r3, r4, r5, r6, r7, r8, r9) := H
    have A10 := As.mk A100
    clear A100
    have H' := As.mk H
    clear H
    have hnb11 := NB216_217.out
    have hnc11 := NB217_216.out
    have hcz12_0 : w5.cell? ⟨gb216, 0, none⟩ = some (.int .i64 a1) := (blk_cell BK216.out 0).trans rfl
    have hfz12_0 := blk_frozen BK216.out 0
    go_wp2_with (first | ((with_reducible refine gc (f := 44) rfl ?_); refine goesL_ (some 14) rfl rfl Try.func44 (by kernel_rfl) rfl #[.int .i64 a1, .int .i64 0, .int .i64 1000000] rfl (by (try simp only [List.map_toArray, List.map_cons, List.map_nil]); first | done | rfl | (simp only [List.length_drop, List.length_take]; rfl)) ?_; (with_reducible refine (impl_within.calls a1 0 1000000 true _ A6.out).mono ?_); rintro e w' ⟨rfl, ⟨nd, rfl⟩⟩; refine ⟨_, rfl, ?_⟩) | (go_at_call 62; (with_reducible refine (slices_IsSorted_int_int.calls k _ _ l0 true _ ?side1 ?side2 A8.out).mono ?_); (case side1 => repeat (first | exact (cB HR0.out (by repeat (first | (with_reducible first | exact HB.out | apply ba | apply bw | apply b1 | refine bs ?_ GE216.out | refine bs ?_ GE217.out) | exact HB.out))) | (with_reducible refine cA ?_ _) | (with_reducible refine cN ?_ _) | (with_reducible refine cD ?_))); (case side2 => exact HC0.out); rintro e w' ⟨rfl, ⟨nd, rfl⟩⟩) | (go_at_call 50; (with_reducible refine (impl_areAll_SparseOf_1.calls _ _ l0 gb216 a1 t220 _ ?side1 ?side2 ?side3 A10.out).mono ?_); (case side1 => repeat (first | exact (cB HR0.out (by repeat (first | (with_reducible first | exact HB.out | apply ba | apply bw | apply b1 | refine bs ?_ GE216.out | refine bs ?_ GE217.out) | exact HB.out))) | (with_reducible refine cA ?_ _) | (with_reducible refine cN ?_ _) | (with_reducible refine cD ?_))); (case side2 => exact HC0.out); (case side3 => exact by (with_reducible repeat first | apply bN | apply bD | apply bA); exact BK216.out); rintro e w13 ⟨rfl, hb⟩; have n0_ := As.mk (bb (g := gb216) (o := .cells #[.int .i64 a1] 3 (0, 0)) (by (with_reducible repeat first | apply bN | apply bD | apply bA); exact BK216.out) hb); have n1_ := As.mk (bb (g := gb217) (o := .cells #[.int .i64 0, .int .i64 0, .int .i64 0, .int .i64 0, .int .i64 0, .slice none 0 0, .int .i64 0, .slice none 0 0] 51 (0, 0)) (by (with_reducible repeat first | apply bN | apply bD | apply bA); exact BK217.out) hb); have n2_ := As.mk (bt (by repeat (first | (with_reducible first | exact HB.out | apply ba | apply bw | apply b1 | refine bs ?_ GE216.out | refine bs ?_ GE217.out) | exact HB.out)) hb); clear BK216; clear BK217; clear HB; have BK216 := n0_; have BK217 := n1_; have HB := n2_; clear n0_ n1_ n2_; (try clear hb); (try clear hb2); (try clear hk); (try clear hi)))
    go_meet
    case rel => exact ⟨_, (!t220), (by first | rfl | (simp; done) | (simp [*]; done)), H', ⟨by first | omega | exact Nat.le_refl _⟩, ⟨by (with_reducible repeat first | apply bN | apply bD | apply bA); exact BK216.out⟩, ⟨by (with_reducible repeat first | apply bN | apply bD | apply bA); exact BK217.out⟩, ⟨by repeat (first | (with_reducible first | exact HB.out | apply ba | apply bw | apply b1 | refine bs ?_ GE216.out | refine bs ?_ GE217.out) | exact HB.out)⟩⟩
   ·replace c9 := Bool.eq_false_iff.mpr c9
    subst c9
    have H1 : (impl_SparseOf.j0 k l0 true a1) = some (r1, r2, r3, r4, r5, r6, r7, r8, r9) := by rw [if_neg (show ¬ (false = true) by decide)] at H; exact H
    clear H
    have H := H1
    clear H1
    have H' := As.mk H
    clear H
    have hnb14 := NB216_217.out
    have hnc14 := NB217_216.out
    have hcz15_0 : w5.cell? ⟨gb216, 0, none⟩ = some (.int .i64 a1) := (blk_cell BK216.out 0).trans rfl
    have hfz15_0 := blk_frozen BK216.out 0
    go_wp2_with (first | ((with_reducible refine gc (f := 44) rfl ?_); refine goesL_ (some 14) rfl rfl Try.func44 (by kernel_rfl) rfl #[.int .i64 a1, .int .i64 0, .int .i64 1000000] rfl (by (try simp only [List.map_toArray, List.map_cons, List.map_nil]); first | done | rfl | (simp only [List.length_drop, List.length_take]; rfl)) ?_; (with_reducible refine (impl_within.calls a1 0 1000000 true _ A6.out).mono ?_); rintro e w' ⟨rfl, ⟨nd, rfl⟩⟩; refine ⟨_, rfl, ?_⟩) | (go_at_call 62; (with_reducible refine (slices_IsSorted_int_int.calls k _ _ l0 false _ ?side1 ?side2 A8.out).mono ?_); (case side1 => repeat (first | exact (cB HR0.out (by repeat (first | (with_reducible first | exact HB.out | apply ba | apply bw | apply b1 | refine bs ?_ GE216.out | refine bs ?_ GE217.out) | exact HB.out))) | (with_reducible refine cA ?_ _) | (with_reducible refine cN ?_ _) | (with_reducible refine cD ?_))); (case side2 => exact HC0.out); rintro e w' ⟨rfl, ⟨nd, rfl⟩⟩))
    go_meet
    case rel => exact ⟨_, (true), (by first | rfl | (simp; done) | (simp [*]; done)), H', ⟨by first | omega | exact Nat.le_refl _⟩, ⟨by (with_reducible repeat first | apply bN | apply bD | apply bA); exact BK216.out⟩, ⟨by (with_reducible repeat first | apply bN | apply bD | apply bA); exact BK217.out⟩, ⟨by repeat (first | (with_reducible first | exact HB.out | apply ba | apply bw | apply b1 | refine bs ?_ GE216.out | refine bs ?_ GE217.out) | exact HB.out)⟩⟩
  ·replace c7 := Bool.eq_false_iff.mpr c7
   subst c7
   have H1 : (impl_SparseOf.j0 k l0 true a1) = some (r1, r2, r3, r4, r5, r6, r7, r8, r9) := by rw [if_neg (show ¬ (false = true) by decide)] at H; exact H
   clear H
   have H := H1
   clear H1
   have H' := As.mk H
   clear H
   have hnb16 := NB216_217.out
   have hnc16 := NB217_216.out
   have hcz17_0 : w5.cell? ⟨gb216, 0, none⟩ = some (.int .i64 a1) := (blk_cell BK216.out 0).trans rfl
   have hfz17_0 := blk_frozen BK216.out 0
   go_wp2_with (first | ((with_reducible refine gc (f := 44) rfl ?_); refine goesL_ (some 14) rfl rfl Try.func44 (by kernel_rfl) rfl #[.int .i64 a1, .int .i64 0, .int .i64 1000000] rfl (by (try simp only [List.map_toArray, List.map_cons, List.map_nil]); first | done | rfl | (simp only [List.length_drop, List.length_take]; rfl)) ?_; (with_reducible refine (impl_within.calls a1 0 1000000 false _ A6.out).mono ?_); rintro e w' ⟨rfl, ⟨nd, rfl⟩⟩; refine ⟨_, rfl, ?_⟩))
   go_meet
   case rel => exact ⟨_, (true), (by first | rfl | (simp; done) | (simp [*]; done)), H', ⟨by first | omega | exact Nat.le_refl _⟩, ⟨by (with_reducible repeat first | apply bN | apply bD | apply bA); exact BK216.out⟩, ⟨by (with_reducible repeat first | apply bN | apply bD | apply bA); exact BK217.out⟩, ⟨by repeat (first | (with_reducible first | exact HB.out | apply ba | apply bw | apply b1 | refine bs ?_ GE216.out | refine bs ?_ GE217.out) | exact HB.out)⟩⟩
 case rest =>
  clear HC3
  try clear c1
  try clear p2
  try clear c3
  try clear c4
  try clear c7
  try clear c9
  try clear c11
  try clear c14
  try clear c16
  try clear hcz12_0
  try clear hcz15_0
  try clear hcz17_0
  try clear hfz12_0
  try clear hfz15_0
  try clear hfz17_0
  obtain ⟨kq, x26_2, rfl, HA, HJ2, BK216, BK217, HB⟩ := hcut
  cases kq with
  | zero => exact absurd HA.out (by simp [impl_SparseOf.j0])
  | succ kj2 =>
   have H := HA.out
   clear HA
   simp only [impl_SparseOf.j0] at H
   by_cases c18 : x26_2 = true
   ·subst c18
    have H1 : (some (0, 0, 0, 0, 0, ([] : List Int), 0, ([] : List Int), false)) = some (r1, r2, r3, r4, r5, r6, r7, r8, r9) := by rw [if_pos rfl] at H; exact H
    clear H
    have H := H1
    clear H1
    simp only [Option.some.injEq, Prod.mk.injEq] at H
    obtain ⟨rfl, rfl, rfl, rfl, rfl, rfl, rfl, rfl, rfl⟩ := H
    have hnb19 := NB217_216.out
    have hnc19 := NB216_217.out
    have hcz20_0 : wc.cell? ⟨gb217, 0, none⟩ = some (.int .i64 0) := (blk_cell BK217.out 0).trans rfl
    have hcz20_1 : wc.cell? ⟨gb217, 1, none⟩ = some (.int .i64 0) := (blk_cell BK217.out 1).trans rfl
    have hcz20_2 : wc.cell? ⟨gb217, 2, none⟩ = some (.int .i64 0) := (blk_cell BK217.out 2).trans rfl
    have hcz20_3 : wc.cell? ⟨gb217, 3, none⟩ = some (.int .i64 0) := (blk_cell BK217.out 3).trans rfl
    have hcz20_4 : wc.cell? ⟨gb217, 4, none⟩ = some (.int .i64 0) := (blk_cell BK217.out 4).trans rfl
    have hcz20_5 : wc.cell? ⟨gb217, 5, none⟩ = some (.slice none 0 0) := (blk_cell BK217.out 5).trans rfl
    have hcz20_6 : wc.cell? ⟨gb217, 6, none⟩ = some (.int .i64 0) := (blk_cell BK217.out 6).trans rfl
    have hcz20_7 : wc.cell? ⟨gb217, 7, none⟩ = some (.slice none 0 0) := (blk_cell BK217.out 7).trans rfl
    have hfz20_0 := blk_frozen BK217.out 0
    have hfz20_1 := blk_frozen BK217.out 1
    have hfz20_2 := blk_frozen BK217.out 2
    have hfz20_3 := blk_frozen BK217.out 3
    have hfz20_4 := blk_frozen BK217.out 4
    have hfz20_5 := blk_frozen BK217.out 5
    have hfz20_6 := blk_frozen BK217.out 6
    have hfz20_7 := blk_frozen BK217.out 7
    go_wp2
    refine bodyPost_ret (results_ct rfl _ _ gb217 51 #[.int .i64 0, .int .i64 0, .int .i64 0, .int .i64 0, .int .i64 0, .slice none 0 0, .int .i64 0, .slice none 0 0] (0, 0) _ rfl (by (with_reducible repeat first | apply bN | apply bD | apply bA); refine blk_put (cs := #[.int .i64 0, .int .i64 0, .int .i64 0, .int .i64 0, .int .i64 0, .slice none 0 0, .int .i64 0, .slice none 0 0]) ?_ 7 _ rfl; (with_reducible repeat first | apply bN | apply bD | apply bA); refine blk_put (cs := #[.int .i64 0, .int .i64 0, .int .i64 0, .int .i64 0, .int .i64 0, .slice none 0 0, .int .i64 0, .slice none 0 0]) ?_ 6 _ rfl; (with_reducible repeat first | apply bN | apply bD | apply bA); refine blk_put (cs := #[.int .i64 0, .int .i64 0, .int .i64 0, .int .i64 0, .int .i64 0, .slice none 0 0, .int .i64 0, .slice none 0 0]) ?_ 5 _ rfl; (with_reducible repeat first | apply bN | apply bD | apply bA); refine blk_put (cs := #[.int .i64 0, .int .i64 0, .int .i64 0, .int .i64 0, .int .i64 0, .slice none 0 0, .int .i64 0, .slice none 0 0]) ?_ 4 _ rfl; (with_reducible repeat first | apply bN | apply bD | apply bA); refine blk_put (cs := #[.int .i64 0, .int .i64 0, .int .i64 0, .int .i64 0, .int .i64 0, .slice none 0 0, .int .i64 0, .slice none 0 0]) ?_ 3 _ rfl; (with_reducible repeat first | apply bN | apply bD | apply bA); refine blk_put (cs := #[.int .i64 0, .int .i64 0, .int .i64 0, .int .i64 0, .int .i64 0, .slice none 0 0, .int .i64 0, .slice none 0 0]) ?_ 2 _ rfl; (with_reducible repeat first | apply bN | apply bD | apply bA); refine blk_put (cs := #[.int .i64 0, .int .i64 0, .int .i64 0, .int .i64 0, .int .i64 0, .slice none 0 0, .int .i64 0, .slice none 0 0]) ?_ 1 _ rfl; (with_reducible repeat first | apply bN | apply bD | apply bA); refine blk_put (cs := #[.int .i64 0, .int .i64 0, .int .i64 0, .int .i64 0, .int .i64 0, .slice none 0 0, .int .i64 0, .slice none 0 0]) ?_ 0 _ rfl; (with_reducible repeat first | apply bN | apply bD | apply bA); exact BK217.out) Try.underlying51 rfl (by kernel_rfl)) rfl ?_
    exact ⟨_, _, by first | rfl | (simp [errW_none, errW_some] <;> rfl) | (simp [*, errW_none, errW_some] <;> rfl), by first | exact Kd.R_nil _ _ _ _ _ | exact Kd.N_nil _ _ _ _ _ | exact Kd.V_nil _ _ _ _ _ | exact Kd.Q_nil _ _ _ _ _ | exact Kd.S_nil _ _ _ _ _, by first | exact Kd.R_nil _ _ _ _ _ | exact Kd.N_nil _ _ _ _ _ | exact Kd.V_nil _ _ _ _ _ | exact Kd.Q_nil _ _ _ _ _ | exact Kd.S_nil _ _ _ _ _, by repeat (first | (with_reducible first | exact HB.out | apply ba | apply bw | apply b1 | refine bs ?_ GE216.out | refine bs ?_ GE217.out) | exact HB.out)⟩
   ·replace c18 := Bool.eq_false_iff.mpr c18
    subst c18
    have H1 : ((impl_lowWidth.f a1 (l0.length : Int)).bind fun t221 => (if 0 ≤ t221 then (if (wrap64 ((wrap64 ((l0.length : Int) + (shr .i64 a1 t221))) + 1)) > 5000 then (some (0, 0, 0, 0, 0, ([] : List Int), 0, ([] : List Int), false)) else (impl_SparseOf.l0 kj2 l0 t221 ([] : List Int) ([] : List Int) l0 (l0.length : Int) 0 a1)) else (none))) = some (r1, r2, r3, r4, r5, r6, r7, r8, r9) := by rw [if_neg (show ¬ (false = true) by decide)] at H; exact H
    clear H
    have H := H1
    clear H1
    replace H := Option.bind_eq_some_iff.mp H
    obtain ⟨t221, A210, H⟩ := H
    replace H : (if 0 ≤ t221 then (if (wrap64 ((wrap64 ((l0.length : Int) + (shr .i64 a1 t221))) + 1)) > 5000 then (some (0, 0, 0, 0, 0, ([] : List Int), 0, ([] : List Int), false)) else (impl_SparseOf.l0 kj2 l0 t221 ([] : List Int) ([] : List Int) l0 (l0.length : Int) 0 a1)) else (none)) = some (r1, r2, r3, r4, r5, r6, r7, r8, r9) := H
    have A21 := As.mk A210
    clear A210
    by_cases c22 : 0 ≤ t221
    ·rw [if_pos c22] at H
     have c22b0 := eq_true c22
     have c22b1 : decide (0 ≤ t221) = true := decide_eq_true c22
     clear c22
     obtain ⟨ji23, hji23⟩ : ∃ j_ : Int, (shr .i64 a1 t221) = j_ := ⟨_, rfl⟩
     replace H : (if (wrap64 ((wrap64 ((l0.length : Int) + (ji23))) + 1)) > 5000 then (some (0, 0, 0, 0, 0, ([] : List Int), 0, ([] : List Int), false)) else (impl_SparseOf.l0 kj2 l0 t221 ([] : List Int) ([] : List Int) l0 (l0.length : Int) 0 a1)) = some (r1, r2, r3, r4, r5, r6, r7, r8, r9) := by first | (rw [hji23] at H; exact H) | (simp only [hji23] at H ⊢; exact H)
     (try rw [hji23] at A21)
     have hji23_ : (a1 / 2 ^ min t221.toNat 64) = ji23 := hji23
     have hji23z : t221 ≤ 64 → (a1 / 2 ^ t221.toNat) = ji23 := shr_small hji23
     by_cases c24 : (wrap64 ((wrap64 ((l0.length : Int) + (ji23))) + 1)) > 5000
     ·rw [if_pos c24] at H
      have c24b0 : decide (5000 < (wrap64 ((wrap64 ((l0.length : Int) + (ji23))) + 1))) = true := decide_eq_true c24
      clear c24
      simp only [Option.some.injEq, Prod.mk.injEq] at H
      obtain ⟨rfl, rfl, rfl, rfl, rfl, rfl, rfl, rfl, rfl⟩ := H
      have hnb25 := NB216_217.out
      have hnc25 := NB217_216.out
      have hcz26_0 : wc.cell? ⟨gb216, 0, none⟩ = some (.int .i64 a1) := (blk_cell BK216.out 0).trans rfl
      have hfz26_0 := blk_frozen BK216.out 0
      go_wp2_with (first | ((with_reducible refine gc (f := 64) rfl ?_); refine goesL_ (some 31) rfl rfl Try.func64 (by kernel_rfl) rfl #[.int .i64 a1, .int .i64 (l0.length : Int)] rfl (by (try simp only [List.map_toArray, List.map_cons, List.map_nil]); first | done | rfl | (simp only [List.length_drop, List.length_take]; rfl)) ?_; (with_reducible refine (impl_lowWidth.calls a1 (l0.length : Int) t221 _ A21.out).mono ?_); rintro e w27 ⟨rfl, hb⟩; refine ⟨_, rfl, ?_⟩; have n0_ := As.mk (bb (g := gb216) (o := .cells #[.int .i64 a1] 3 (0, 0)) (by (with_reducible repeat first | apply bN | apply bD | apply bA); exact BK216.out) hb); have n1_ := As.mk (bb (g := gb217) (o := .cells #[.int .i64 0, .int .i64 0, .int .i64 0, .int .i64 0, .int .i64 0, .slice none 0 0, .int .i64 0, .slice none 0 0] 51 (0, 0)) (by (with_reducible repeat first | apply bN | apply bD | apply bA); exact BK217.out) hb); have n2_ := As.mk (bt (by repeat (first | (with_reducible first | exact HB.out | apply ba | apply bw | apply b1 | refine bs ?_ GE216.out | refine bs ?_ GE217.out) | exact HB.out)) hb); clear BK216; clear BK217; clear HB; have BK216 := n0_; have BK217 := n1_; have HB := n2_; clear n0_ n1_ n2_; (try clear hb); (try clear hb2); (try clear hk); (try clear hi); have hcz28_0 : w27.cell? ⟨gb216, 0, none⟩ = some (.int .i64 a1) := (blk_cell BK216.out 0).trans rfl; have hfz28_0 := blk_frozen BK216.out 0; have hcz29_0 : w27.cell? ⟨gb217, 0, none⟩ = some (.int .i64 0) := (blk_cell BK217.out 0).trans rfl; have hcz29_1 : w27.cell? ⟨gb217, 1, none⟩ = some (.int .i64 0) := (blk_cell BK217.out 1).trans rfl; have hcz29_2 : w27.cell? ⟨gb217, 2, none⟩ = some (.int .i64 0) := (blk_cell BK217.out 2).trans rfl; have hcz29_3 : w27.cell? ⟨gb217, 3, none⟩ = some (.int .i64 0) := (blk_cell BK217.out 3).trans rfl; have hcz29_4 : w27.cell? ⟨gb217, 4, none⟩ = some (.int .i64 0) := (blk_cell BK217.out 4).trans rfl; have hcz29_5 : w27.cell? ⟨gb217, 5, none⟩ = some (.slice none 0 0) := (blk_cell BK217.out 5).trans rfl; have hcz29_6 : w27.cell? ⟨gb217, 6, none⟩ = some (.int .i64 0) := (blk_cell BK217.out 6).trans rfl; have hcz29_7 : w27.cell? ⟨gb217, 7, none⟩ = some (.slice none 0 0) := (blk_cell BK217.out 7).trans rfl; have hfz29_0 := blk_frozen BK217.out 0; have hfz29_1 := blk_frozen BK217.out 1; have hfz29_2 := blk_frozen BK217.out 2; have hfz29_3 := blk_frozen BK217.out 3; have hfz29_4 := blk_frozen BK217.out 4; have hfz29_5 := blk_frozen BK217.out 5; have hfz29_6 := blk_frozen BK217.out 6; have hfz29_7 := blk_frozen BK217.out 7))
      refine bodyPost_ret (results_ct rfl _ _ gb217 51 #[.int .i64 0, .int .i64 0, .int .i64 0, .int .i64 0, .int .i64 0, .slice none 0 0, .int .i64 0, .slice none 0 0] (0, 0) _ rfl (by (with_reducible repeat first | apply bN | apply bD | apply bA); refine blk_put (cs := #[.int .i64 0, .int .i64 0, .int .i64 0, .int .i64 0, .int .i64 0, .slice none 0 0, .int .i64 0, .slice none 0 0]) ?_ 7 _ rfl; (with_reducible repeat first | apply bN | apply bD | apply bA); refine blk_put (cs := #[.int .i64 0, .int .i64 0, .int .i64 0, .int .i64 0, .int .i64 0, .slice none 0 0, .int .i64 0, .slice none 0 0]) ?_ 6 _ rfl; (with_reducible repeat first | apply bN | apply bD | apply bA); refine blk_put (cs := #[.int .i64 0, .int .i64 0, .int .i64 0, .int .i64 0, .int .i64 0, .slice none 0 0, .int .i64 0, .slice none 0 0]) ?_ 5 _ rfl; (with_reducible repeat first | apply bN | apply bD | apply bA); refine blk_put (cs := #[.int .i64 0, .int .i64 0, .int .i64 0, .int .i64 0, .int .i64 0, .slice none 0 0, .int .i64 0, .slice none 0 0]) ?_ 4 _ rfl; (with_reducible repeat first | apply bN | apply bD | apply bA); refine blk_put (cs := #[.int .i64 0, .int .i64 0, .int .i64 0, .int .i64 0, .int .i64 0, .slice none 0 0, .int .i64 0, .slice none 0 0]) ?_ 3 _ rfl; (with_reducible repeat first | apply bN | apply bD | apply bA); refine blk_put (cs := #[.int .i64 0, .int .i64 0, .int .i64 0, .int .i64 0, .int .i64 0, .slice none 0 0, .int .i64 0, .slice none 0 0]) ?_ 2 _ rfl; (with_reducible repeat first | apply bN | apply bD | apply bA); refine blk_put (cs := #[.int .i64 0, .int .i64 0, .int .i64 0, .int .i64 0, .int .i64 0, .slice none 0 0, .int .i64 0, .slice none 0 0]) ?_ 1 _ rfl; (with_reducible repeat first | apply bN | apply bD | apply bA); refine blk_put (cs := #[.int .i64 0, .int .i64 0, .int .i64 0, .int .i64 0, .int .i64 0, .slice none 0 0, .int .i64 0, .slice none 0 0]) ?_ 0 _ rfl; (with_reducible repeat first | apply bN | apply bD | apply bA); exact BK217.out) Try.underlying51 rfl (by kernel_rfl)) rfl ?_
      exact ⟨_, _, by first | rfl | (simp [errW_none, errW_some] <;> rfl) | (simp only [← hji23]; first | rfl | (simp [errW_none, errW_some] <;> rfl)) | (simp [*, errW_none, errW_some] <;> rfl), by first | exact Kd.R_nil _ _ _ _ _ | exact Kd.N_nil _ _ _ _ _ | exact Kd.V_nil _ _ _ _ _ | exact Kd.Q_nil _ _ _ _ _ | exact Kd.S_nil _ _ _ _ _, by first | exact Kd.R_nil _ _ _ _ _ | exact Kd.N_nil _ _ _ _ _ | exact Kd.V_nil _ _ _ _ _ | exact Kd.Q_nil _ _ _ _ _ | exact Kd.S_nil _ _ _ _ _, by repeat (first | (with_reducible first | exact HB.out | apply ba | apply bw | apply b1 | refine bs ?_ GE216.out | refine bs ?_ GE217.out) | exact HB.out)⟩
     ·rw [if_neg c24] at H
      have c24b0 : decide (5000 < (wrap64 ((wrap64 ((l0.length : Int) + (ji23))) + 1))) = false := decide_eq_false c24
      clear c24
      have H' := As.mk H
      clear H
      have hnb30 := NB216_217.out
      have hnc30 := NB217_216.out
      have hcz31_0 : wc.cell? ⟨gb216, 0, none⟩ = some (.int .i64 a1) := (blk_cell BK216.out 0).trans rfl
      have hfz31_0 := blk_frozen BK216.out 0
      go_wp2_with (first | ((with_reducible refine gc (f := 64) rfl ?_); refine goesL_ (some 31) rfl rfl Try.func64 (by kernel_rfl) rfl #[.int .i64 a1, .int .i64 (l0.length : Int)] rfl (by (try simp only [List.map_toArray, List.map_cons, List.map_nil]); first | done | rfl | (simp only [List.length_drop, List.length_take]; rfl)) ?_; (with_reducible refine (impl_lowWidth.calls a1 (l0.length : Int) t221 _ A21.out).mono ?_); rintro e w32 ⟨rfl, hb⟩; refine ⟨_, rfl, ?_⟩; have n0_ := As.mk (bb (g := gb216) (o := .cells #[.int .i64 a1] 3 (0, 0)) (by (with_reducible repeat first | apply bN | apply bD | apply bA); exact BK216.out) hb); have n1_ := As.mk (bb (g := gb217) (o := .cells #[.int .i64 0, .int .i64 0, .int .i64 0, .int .i64 0, .int .i64 0, .slice none 0 0, .int .i64 0, .slice none 0 0] 51 (0, 0)) (by (with_reducible repeat first | apply bN | apply bD | apply bA); exact BK217.out) hb); have n2_ := As.mk (bt (by repeat (first | (with_reducible first | exact HB.out | apply ba | apply bw | apply b1 | refine bs ?_ GE216.out | refine bs ?_ GE217.out) | exact HB.out)) hb); clear BK216; clear BK217; clear HB; have BK216 := n0_; have BK217 := n1_; have HB := n2_; clear n0_ n1_ n2_; (try clear hb); (try clear hb2); (try clear hk); (try clear hi); have hcz33_0 : w32.cell? ⟨gb216, 0, none⟩ = some (.int .i64 a1) := (blk_cell BK216.out 0).trans rfl; have hfz33_0 := blk_frozen BK216.out 0))
      (try simp only [Act.put, List.setIfInBounds_toArray, List.set_cons_zero, List.set_cons_succ])
      go_loopg [7, 8, 43] kj2 (fun kq v7 v8 v43 w' => ∃ (x7_2 : List Int) (x8_2 : List Int) (x43_2 : Int), v43 = .int .i64 x43_2 ∧ As (impl_SparseOf.l0 kq l0 t221 x7_2 x8_2 l0 (l0.length : Int) x43_2 a1 = some (r1, r2, r3, r4, r5, r6, r7, r8, r9)) ∧ As (kq ≤ kj2) ∧ As (Kd.R (Kd.int .i64) 3 w' w.heap.size (fun k_ => some k_ ≠ (v8 : Value).ownBlock ∧ k_ ≠ gb216) v7 x7_2) ∧ As (Kd.R (Kd.int .i64) 3 w' w.heap.size (fun k_ => some k_ ≠ (v7 : Value).ownBlock ∧ k_ ≠ gb216) v8 x8_2) ∧ As (w'.heap[gb216]? = some (.cells #[.int .i64 a1] 3 (0, 0))) ∧ As (w'.heap[gb217]? = some (.cells #[.int .i64 0, .int .i64 0, .int .i64 0, .int .i64 0, .int .i64 0, (.slice none 0 0), .int .i64 0, (.slice none 0 0)] 51 (0, 0))) ∧ As (Below w.heap.size w w'))
      case atStart => exact ⟨(([] : List Int)), (([] : List Int)), (0), (by first | rfl | (simp; done) | (simp [*]; done)), H', ⟨Nat.le_refl _⟩, ⟨by first | exact Kd.R_nil _ _ _ _ _ | exact Kd.N_nil _ _ _ _ _ | exact Kd.V_nil _ _ _ _ _ | exact Kd.Q_nil _ _ _ _ _ | exact Kd.S_nil _ _ _ _ _⟩, ⟨by first | exact Kd.R_nil _ _ _ _ _ | exact Kd.N_nil _ _ _ _ _ | exact Kd.V_nil _ _ _ _ _ | exact Kd.Q_nil _ _ _ _ _ | exact Kd.S_nil _ _ _ _ _⟩, ⟨by (with_reducible repeat first | apply bN | apply bD | apply bA); exact BK216.out⟩, ⟨by (with_reducible repeat first | apply bN | apply bD | apply bA); exact BK217.out⟩, ⟨by repeat (first | (with_reducible first | exact HB.out | apply ba | apply bw | apply b1 | refine bs ?_ GE216.out | refine bs ?_ GE217.out) | exact HB.out)⟩⟩
      case round =>
       clear H'
       try clear c1
       try clear c2
       try clear p2
       try clear c3
       try clear c4
       try clear c6
       try clear p6
       try clear c7
       try clear c9
       try clear c11
       try clear c14
       try clear c16
       try clear c18
       try clear c19
       try clear c22
       try clear c22b0
       try clear c22b1
       try clear c24
       try clear c24b0
       try clear c25
       try clear c30
       try clear c32
       try clear hcz12_0
       try clear hcz15_0
       try clear hcz17_0
       try clear hcz20_0
       try clear hcz20_1
       try clear hcz20_2
       try clear hcz20_3
       try clear hcz20_4
       try clear hcz20_5
       try clear hcz20_6
       try clear hcz20_7
       try clear hcz26_0
       try clear hcz28_0
       try clear hcz29_0
       try clear hcz29_1
       try clear hcz29_2
       try clear hcz29_3
       try clear hcz29_4
       try clear hcz29_5
       try clear hcz29_6
       try clear hcz29_7
       try clear hcz31_0
       try clear hcz33_0
       try clear hfz12_0
       try clear hfz15_0
       try clear hfz17_0
       try clear hfz20_0
       try clear hfz20_1
       try clear hfz20_2
       try clear hfz20_3
       try clear hfz20_4
       try clear hfz20_5
       try clear hfz20_6
       try clear hfz20_7
       try clear hfz26_0
       try clear hfz28_0
       try clear hfz29_0
       try clear hfz29_1
       try clear hfz29_2
       try clear hfz29_3
       try clear hfz29_4
       try clear hfz29_5
       try clear hfz29_6
       try clear hfz29_7
       try clear hfz31_0
       try clear hfz33_0
       try clear p2
       obtain ⟨x7_2, x8_2, x43_2, rfl, HA, HK2, HO_7, HO_8, BK216, BK217, HB⟩ := hrel
       cases gk with
       | zero => exact absurd HA.out (by simp [impl_SparseOf.l0])
       | succ k2 =>
        have H := HA.out
        clear HA
        simp only [impl_SparseOf.l0] at H
        by_cases c34 : x43_2 < (l0.length : Int)
        ·rw [if_pos c34] at H
         have c34b0 : decide (x43_2 < (l0.length : Int)) = true := decide_eq_true c34
         clear c34
         by_cases c35 : 0 ≤ x43_2
         ·rw [if_pos c35] at H
          have c35b0 : decide (0 ≤ x43_2) = true := decide_eq_true c35
          clear c35
          by_cases c36 : x43_2 < (l0.length : Int)
          ·rw [if_pos c36] at H
           have c36b0 : decide (x43_2 < (l0.length : Int)) = true := decide_eq_true c36
           clear c36
           have H' := As.mk H
           clear H
           have p222 : 0 ≤ (x43_2 : Int) := of_decide_eq_true (by first | (with_reducible assumption) | assumption)
           have q222 : x43_2 < (l0.length : Int) := of_decide_eq_true (by first | (with_reducible assumption) | assumption)
           obtain ⟨ad222, e222, hx222_0⟩ := Kd.at_int HR0.out x43_2 p222 q222
           cases e222
           replace hx222_0 := (HB.out.cell (World.block_lt_of_cell? w _ hx222_0)).trans hx222_0
           replace p222 := eq_true p222
           replace q222 := eq_true q222
           go_wp2
           (try simp only [Act.put, List.setIfInBounds_toArray, List.set_cons_zero, List.set_cons_succ])
           go_loopg [8] k2 (fun kq v8 w' => ∃ (x8_3 : List Int), As (impl_SparseOf.l1 kq l0 t221 x7_2 x8_3 (rd l0 x43_2) l0 (l0.length : Int) x43_2 a1 = some (r1, r2, r3, r4, r5, r6, r7, r8, r9)) ∧ As (kq ≤ k2) ∧ As (Kd.R (Kd.int .i64) 3 w' w.heap.size (fun k_ => some k_ ≠ (v8 : Value).ownBlock ∧ k_ ≠ gb216) u7 x7_2) ∧ As (Kd.R (Kd.int .i64) 3 w' w.heap.size (fun k_ => some k_ ≠ (u7 : Value).ownBlock ∧ k_ ≠ gb216) v8 x8_3) ∧ As (w'.heap[gb216]? = some (.cells #[.int .i64 a1] 3 (0, 0))) ∧ As (w'.heap[gb217]? = some (.cells #[.int .i64 0, .int .i64 0, .int .i64 0, .int .i64 0, .int .i64 0, (.slice none 0 0), .int .i64 0, (.slice none 0 0)] 51 (0, 0))) ∧ As (Below w.heap.size w w'))
           case atStart => exact ⟨(x8_2), H', ⟨Nat.le_refl _⟩, ⟨by (with_reducible repeat first | apply rA | apply rN | apply rD); exact HO_7.out⟩, ⟨by (with_reducible repeat first | apply rA | apply rN | apply rD); exact HO_8.out⟩, ⟨by (with_reducible repeat first | apply bN | apply bD | apply bA); exact BK216.out⟩, ⟨by (with_reducible repeat first | apply bN | apply bD | apply bA); exact BK217.out⟩, ⟨by repeat (first | (with_reducible first | exact HB.out | apply ba | apply bw | apply b1 | refine bs ?_ GE216.out | refine bs ?_ GE217.out) | exact HB.out)⟩⟩
           case round =>
            clear H'
            try clear c1
            try clear c2
            try clear p2
            try clear q2
            try clear hx2
            try clear c3
            try clear c4
            try clear c6
            try clear p6
            try clear c7
            try clear c9
            try clear c11
            try clear c14
            try clear c16
            try clear c18
            try clear c19
            try clear c22
            try clear c22b0
            try clear c22b1
            try clear p22
            try clear q22
            try clear hx22
            try clear c24
            try clear c24b0
            try clear c25
            try clear c30
            try clear c32
            try clear c34
            try clear c34b0
            try clear c35
            try clear c35b0
            try clear c36
            try clear c36b0
            try clear hcz12_0
            try clear hcz15_0
            try clear hcz17_0
            try clear hcz20_0
            try clear hcz20_1
            try clear hcz20_2
            try clear hcz20_3
            try clear hcz20_4
            try clear hcz20_5
            try clear hcz20_6
            try clear hcz20_7
            try clear hcz26_0
            try clear hcz28_0
            try clear hcz29_0
            try clear hcz29_1
            try clear hcz29_2
            try clear hcz29_3
            try clear hcz29_4
            try clear hcz29_5
            try clear hcz29_6
            try clear hcz29_7
            try clear hcz31_0
            try clear hcz33_0
            try clear hfz12_0
            try clear hfz15_0
            try clear hfz17_0
            try clear hfz20_0
            try clear hfz20_1
            try clear hfz20_2
            try clear hfz20_3
            try clear hfz20_4
            try clear hfz20_5
            try clear hfz20_6
            try clear hfz20_7
            try clear hfz26_0
            try clear hfz28_0
            try clear hfz29_0
            try clear hfz29_1
            try clear hfz29_2
            try clear hfz29_3
            try clear hfz29_4
            try clear hfz29_5
            try clear hfz29_6
            try clear hfz29_7
            try clear hfz31_0
            try clear hfz33_0
            try clear hx222_0
            try clear p2
            try clear p222
            try clear p6
            try clear q222
            obtain ⟨x8_3, HA, HK3, HO_7, HO_8, BK216, BK217, HB⟩ := hrel
            cases gk with
            | zero => exact absurd HA.out (by simp [impl_SparseOf.l1])
            | succ k3 =>
             have H := HA.out
             clear HA
             simp only [impl_SparseOf.l1] at H
             by_cases c37 : 0 ≤ t221
             ·rw [if_pos c37] at H
              have c37b0 := eq_true c37
              have c37b1 : decide (0 ≤ t221) = true := decide_eq_true c37
              clear c37
              obtain ⟨ji38, hji38⟩ : ∃ j_ : Int, (shr .i64 (rd l0 x43_2) t221) = j_ := ⟨_, rfl⟩
              replace H : (if (wrap64 ((x8_3.length : Int) - (x7_2.length : Int))) < (ji38) then ((some (([0] : List Int) : List Int)).bind fun y223 => (if x8_3.length + y223.length < 17592186044416 then (impl_SparseOf.l1 k3 l0 t221 x7_2 (x8_3 ++ y223) (rd l0 x43_2) l0 (l0.length : Int) x43_2 a1) else (none))) else ((some (([1] : List Int) : List Int)).bind fun y229 => (if x8_3.length + y229.length < 17592186044416 then ((some (([Go.bits .and .i64 (rd l0 x43_2) (wrap64 ((shl .i64 1 t221) - 1))] : List Int) : List Int)).bind fun y235 => (if x7_2.length + y235.length < 17592186044416 then (impl_SparseOf.l0 k3 l0 t221 (x7_2 ++ y235) (x8_3 ++ y229) l0 (l0.length : Int) (wrap64 (x43_2 + 1)) a1) else (none))) else (none)))) = some (r1, r2, r3, r4, r5, r6, r7, r8, r9) := by first | (rw [hji38] at H; exact H) | (simp only [hji38] at H ⊢; exact H)
              have hji38_ : ((rd l0 x43_2) / 2 ^ min t221.toNat 64) = ji38 := hji38
              have hji38z : t221 ≤ 64 → ((rd l0 x43_2) / 2 ^ t221.toNat) = ji38 := shr_small hji38
              by_cases c39 : (wrap64 ((x8_3.length : Int) - (x7_2.length : Int))) < (ji38)
              ·rw [if_pos c39] at H
               have c39b0 : decide ((wrap64 ((x8_3.length : Int) - (x7_2.length : Int))) < (ji38)) = true := decide_eq_true c39
               clear c39
               obtain ⟨y223, hy223⟩ : ∃ y_ : List Int, y_ = (([0] : List Int)) := ⟨_, rfl⟩
               replace H : (if x8_3.length + y223.length < 17592186044416 then (impl_SparseOf.l1 k3 l0 t221 x7_2 (x8_3 ++ y223) (rd l0 x43_2) l0 (l0.length : Int) x43_2 a1) else (none)) = some (r1, r2, r3, r4, r5, r6, r7, r8, r9) := by first | (rw [hy223]; with_reducible exact H) | (have H2_ := (Option.bind_some _ _).symm.trans H; rw [hy223]; with_reducible exact H2_) | (have H2_ := (Option.bind_some _ _).symm.trans H; with_reducible exact H2_) | with_reducible exact H | (rw [hy223]; exact H) | exact H
               have Ny223 := As.mk hy223
               clear hy223
               by_cases c40 : x8_3.length + y223.length < 17592186044416
               ·rw [if_pos c40] at H
                have LMc40 := As.mk c40
                clear c40
                obtain ⟨y226, hy226⟩ : ∃ y_ : List Int, y_ = (x8_3 ++ y223) := ⟨_, rfl⟩
                replace H : (impl_SparseOf.l1 k3 l0 t221 x7_2 y226 (rd l0 x43_2) l0 (l0.length : Int) x43_2 a1) = some (r1, r2, r3, r4, r5, r6, r7, r8, r9) := by first | (rw [hy226]; with_reducible exact H) | (have H2_ := (Option.bind_some _ _).symm.trans H; rw [hy226]; with_reducible exact H2_) | (have H2_ := (Option.bind_some _ _).symm.trans H; with_reducible exact H2_) | with_reducible exact H | (rw [hy226]; exact H) | exact H
                have Ny226 := As.mk hy226
                clear hy226
                have H' := As.mk H
                clear H
                obtain ⟨Ao41, co41, eo41⟩ := rS HO_8.out
                subst eo41
                obtain ⟨Ao42, co42, eo42⟩ := rS HO_7.out
                subst eo42
                go_wp2_with (first | ((with_reducible refine gd (N := 57) rfl ?_); refine Kd.R_lit (Kd.int .i64) _ 3 ?hg (N := 57) ?hd (xs := ([0] : List Int)) (inner := [.int .i64 0]) (ok := fun _ => True) (okp := fun _ => True) ?hr ?hp (fun _ hk => hk) trivial (Below.refl _ _) (Nat.le_refl _) (by simp) ?_; (case hd => rfl); (case hg => rfl); (case hr => first | (go_simp; done) | (go_simp; rfl)); (case hp => exact (Reps.one (show Kd.M (Kd.int .i64) _ _ _ 0 [.int .i64 0] from rfl) (Reps.none _ _))); intro v224 w43 ho44 hb hg_ hnew_; clear hg_ hnew_; (first | rw [← Ny223.out] at ho44 | (simp only [Int.reduceToNat] at ho44; rw [← Ny223.out] at ho44)); have n0_ := As.mk (rE (by (with_reducible repeat first | apply rA | apply rN | apply rD); exact HO_7.out) (Kd.R_base ho44) hb); have n1_ := As.mk (rE (by (with_reducible repeat first | apply rA | apply rN | apply rD); exact HO_8.out) (Kd.R_base ho44) hb); have n2_ := As.mk (rL (Kd.R_newB (rW (rW ho44 (Kd.R_lt (by (with_reducible repeat first | apply rA | apply rN | apply rD); exact HO_7.out))) (Kd.R_lt (by (with_reducible repeat first | apply rA | apply rN | apply rD); exact HO_8.out))) (g := gb216) (o := .cells #[.int .i64 a1] 3 (0, 0)) (by (with_reducible repeat first | apply bN | apply bD | apply bA); exact BK216.out)) (bz (by repeat (first | (with_reducible first | exact HB.out | apply ba | apply bw | apply b1 | refine bs ?_ GE216.out | refine bs ?_ GE217.out) | exact HB.out)))); have n3_ := As.mk (bb (g := gb216) (o := .cells #[.int .i64 a1] 3 (0, 0)) (by (with_reducible repeat first | apply bN | apply bD | apply bA); exact BK216.out) hb); have n4_ := As.mk (bb (g := gb217) (o := .cells #[.int .i64 0, .int .i64 0, .int .i64 0, .int .i64 0, .int .i64 0, .slice none 0 0, .int .i64 0, .slice none 0 0] 51 (0, 0)) (by (with_reducible repeat first | apply bN | apply bD | apply bA); exact BK217.out) hb); have n5_ := As.mk (bt (by repeat (first | (with_reducible first | exact HB.out | apply ba | apply bw | apply b1 | refine bs ?_ GE216.out | refine bs ?_ GE217.out) | exact HB.out)) hb); clear HO_7; clear HO_8; clear BK216; clear BK217; clear HB; have HO_7 := n0_; have HO_8 := n1_; have HO225 := n2_; have BK216 := n3_; have BK217 := n4_; have HB := n5_; clear n0_ n1_ n2_ n3_ n4_ n5_; clear hb ho44; obtain ⟨Ao46, co46, eo46⟩ := rS HO225.out; subst eo46) | ((with_reducible refine gate_builtin (b := .append) (xs := #[.tmp 56, .tmp 57]) rfl ?_); at_builtin; refine Kd.R_append_rows (Kd.int .i64) (w0 := w) w.heap.size rfl (.tmp 56) (.tmp 57) 37 3 (.int .i64 0) 8 rfl Try.underlying37 info3 rfl (by decide) (by omega) (.slice Ao41 x8_3.length co41) x8_3 y223 _ _ _ (fun k_ => some k_ ≠ (.slice Ao42 x7_2.length co42 : Value).ownBlock ∧ some k_ ≠ (.slice Ao46 y223.length co46 : Value).ownBlock ∧ k_ ≠ gb216) (fun _ => False) rfl rfl ?aO ?aR (fun _ _ h => h) (fun _ h => h.elim) ?aF ?aB ?aS ?aL ?_; (case aR => repeat (first | exact (rR HO225.out).2.2 | (with_reducible refine cA ?_ _) | (with_reducible refine cN ?_ _) | (with_reducible refine cD ?_))); (case aB => exact (by repeat (first | (with_reducible first | exact HB.out | apply ba | apply bw | apply b1 | refine bs ?_ GE216.out | refine bs ?_ GE217.out) | exact HB.out))); (case aF => exact (fun k_ hk => ⟨Kd.fresh' (Kd.R_lt (by (with_reducible repeat first | apply rA | apply rN | apply rD); exact HO_7.out)) k_ hk, Kd.fresh' (Kd.R_lt (by (with_reducible repeat first | apply rA | apply rN | apply rD); exact HO225.out)) k_ hk, Kd.freshB (g := gb216) (o := .cells #[.int .i64 a1] 3 (0, 0)) (by (with_reducible repeat first | apply bN | apply bD | apply bA); exact BK216.out) k_ hk⟩)); (case aO => exact (by (with_reducible repeat first | apply rA | apply rN | apply rD); exact Kd.R_mono HO_8.out (fun _ hk => ⟨hk.1.1, ⟨hk.2, hk.1.2⟩⟩))); (case aS => exact (bz (by repeat (first | (with_reducible first | exact HB.out | apply ba | apply bw | apply b1 | refine bs ?_ GE216.out | refine bs ?_ GE217.out) | exact HB.out)))); (case aL => have := LMc40.out; omega); intro v227 w45 ho hb hg hat; rw [← Ny226.out] at ho; have n0_ := As.mk (Kd.R_after (ok := (fun k_ => some k_ ≠ (.slice Ao46 y223.length co46 : Value).ownBlock ∧ k_ ≠ gb216)) (by (with_reducible repeat first | apply rA | apply rN | apply rD); exact Kd.R_mono HO_7.out (fun _ hk => ⟨⟨hk.2, hk.1.2⟩, hk.1.1⟩)) hg hat); have n1_ := As.mk (blk_grown (g := gb216) (o := .cells #[.int .i64 a1] 3 (0, 0)) (by (with_reducible repeat first | apply bN | apply bD | apply bA); exact BK216.out) hg (Kd.R_away HO_8.out (fun _ hk => hk.1.2))); have n2_ := As.mk (blk_grown (g := gb217) (o := .cells #[.int .i64 0, .int .i64 0, .int .i64 0, .int .i64 0, .int .i64 0, .slice none 0 0, .int .i64 0, .slice none 0 0] 51 (0, 0)) (by (with_reducible repeat first | apply bN | apply bD | apply bA); exact BK217.out) hg (Kd.R_ne HO_8.out BK217.out (by decide))); have n3_ := As.mk (Kd.R_after (ok := (fun k_ => some k_ ≠ (.slice Ao42 x7_2.length co42 : Value).ownBlock ∧ k_ ≠ gb216)) (by (with_reducible repeat first | apply rA | apply rN | apply rD); exact Kd.R_mono HO225.out (fun _ hk => ⟨⟨hk.1.1.2, hk.2⟩, hk.1.2⟩)) hg hat); have n4_ := As.mk (hb); have n5_ := As.mk (ho); clear HO_7; clear BK216; clear BK217; clear HO225; clear HB; clear HO_8; have HO_7 := n0_; have BK216 := n1_; have BK217 := n2_; have HO225 := n3_; have HB := n4_; have HO228 := n5_; clear n0_ n1_ n2_ n3_ n4_ n5_; clear ho hb hg hat))
                go_roundg k3
                case measure => have := HJ2.out; have := HK2.out; have := HK3.out; omega
                case rel => exact ⟨(y226), H', ⟨by have := HJ2.out; have := HK2.out; have := HK3.out; omega⟩, ⟨by (with_reducible repeat first | apply rA | apply rN | apply rD); exact Kd.R_mono HO_7.out (by first | exact (fun _ hk => ⟨hk.2, hk.1.2⟩) | (intro k_ hk_; simp [hk_]; done) | (intro k_ hk_; simp_all))⟩, ⟨by (with_reducible repeat first | apply rA | apply rN | apply rD); exact Kd.R_mono HO228.out (by first | exact (fun _ hk => ⟨hk.1, hk.2.2⟩) | (intro k_ hk_; simp [hk_]; done) | (intro k_ hk_; simp_all))⟩, ⟨by (with_reducible repeat first | apply bN | apply bD | apply bA); exact BK216.out⟩, ⟨by (with_reducible repeat first | apply bN | apply bD | apply bA); exact BK217.out⟩, ⟨by repeat (first | (with_reducible first | exact HB.out | apply ba | apply bw | apply b1 | refine bs ?_ GE216.out | refine bs ?_ GE217.out) | exact HB.out)⟩⟩
               ·rw [if_neg c40] at H
                exact absurd H (by simp)
              ·rw [if_neg c39] at H
               have c39b0 : decide ((wrap64 ((x8_3.length : Int) - (x7_2.length : Int))) < (ji38)) = false := decide_eq_false c39
               clear c39
               obtain ⟨y229, hy229⟩ : ∃ y_ : List Int, y_ = (([1] : List Int)) := ⟨_, rfl⟩
               replace H : (if x8_3.length + y229.length < 17592186044416 then ((some (([Go.bits .and .i64 (rd l0 x43_2) (wrap64 ((shl .i64 1 t221) - 1))] : List Int) : List Int)).bind fun y235 => (if x7_2.length + y235.length < 17592186044416 then (impl_SparseOf.l0 k3 l0 t221 (x7_2 ++ y235) (x8_3 ++ y229) l0 (l0.length : Int) (wrap64 (x43_2 + 1)) a1) else (none))) else (none)) = some (r1, r2, r3, r4, r5, r6, r7, r8, r9) := by first | (rw [hy229]; with_reducible exact H) | (have H2_ := (Option.bind_some _ _).symm.trans H; rw [hy229]; with_reducible exact H2_) | (have H2_ := (Option.bind_some _ _).symm.trans H; with_reducible exact H2_) | with_reducible exact H | (rw [hy229]; exact H) | exact H
               have Ny229 := As.mk hy229
               clear hy229
               by_cases c47 : x8_3.length + y229.length < 17592186044416
               ·rw [if_pos c47] at H
                have LMc47 := As.mk c47
                clear c47
                obtain ⟨y232, hy232⟩ : ∃ y_ : List Int, y_ = (x8_3 ++ y229) := ⟨_, rfl⟩
                replace H : ((some (([Go.bits .and .i64 (rd l0 x43_2) (wrap64 ((shl .i64 1 t221) - 1))] : List Int) : List Int)).bind fun y235 => (if x7_2.length + y235.length < 17592186044416 then (impl_SparseOf.l0 k3 l0 t221 (x7_2 ++ y235) y232 l0 (l0.length : Int) (wrap64 (x43_2 + 1)) a1) else (none))) = some (r1, r2, r3, r4, r5, r6, r7, r8, r9) := by first | (rw [hy232]; with_reducible exact H) | (have H2_ := (Option.bind_some _ _).symm.trans H; rw [hy232]; with_reducible exact H2_) | (have H2_ := (Option.bind_some _ _).symm.trans H; with_reducible exact H2_) | with_reducible exact H | (rw [hy232]; exact H) | exact H
                have Ny232 := As.mk hy232
                clear hy232
                have c48b0 := eq_true (of_decide_eq_true (by first | (with_reducible assumption) | assumption) : 0 ≤ t221)
                obtain ⟨ji49, hji49⟩ : ∃ j_ : Int, (shl .i64 1 t221) = j_ := ⟨_, rfl⟩
                replace H : ((some (([Go.bits .and .i64 (rd l0 x43_2) (wrap64 ((ji49) - 1))] : List Int) : List Int)).bind fun y235 => (if x7_2.length + y235.length < 17592186044416 then (impl_SparseOf.l0 k3 l0 t221 (x7_2 ++ y235) y232 l0 (l0.length : Int) (wrap64 (x43_2 + 1)) a1) else (none))) = some (r1, r2, r3, r4, r5, r6, r7, r8, r9) := by first | (rw [hji49] at H; exact H) | (simp only [hji49] at H ⊢; exact H)
                have hji49_ : (IntKind.i64.wrap (1 * 2 ^ min t221.toNat 64)) = ji49 := hji49
                have hji49z : t221 ≤ 64 → (IntKind.i64.wrap (1 * 2 ^ t221.toNat)) = ji49 := shl_small hji49
                have hji49u : (IntKind.i64.wrap (2 ^ min t221.toNat 64)) = ji49 := by have h_ := hji49_; rw [Int.one_mul] at h_; exact h_
                have hji49v : t221 ≤ 64 → (IntKind.i64.wrap (2 ^ t221.toNat)) = ji49 := fun hle_ => by have h_ := hji49z hle_; rw [Int.one_mul] at h_; exact h_
                have hji49y : (wrap64 (1 * 2 ^ min t221.toNat 64)) = ji49 := (i64_w _).symm.trans hji49_
                have hji49x : t221 ≤ 64 → (wrap64 (1 * 2 ^ t221.toNat)) = ji49 := fun h_ => (i64_w _).symm.trans (hji49z h_)
                obtain ⟨y235, hy235⟩ : ∃ y_ : List Int, y_ = (([Go.bits .and .i64 (rd l0 x43_2) (wrap64 ((ji49) - 1))] : List Int)) := ⟨_, rfl⟩
                replace H : (if x7_2.length + y235.length < 17592186044416 then (impl_SparseOf.l0 k3 l0 t221 (x7_2 ++ y235) y232 l0 (l0.length : Int) (wrap64 (x43_2 + 1)) a1) else (none)) = some (r1, r2, r3, r4, r5, r6, r7, r8, r9) := by first | (rw [hy235]; with_reducible exact H) | (have H2_ := (Option.bind_some _ _).symm.trans H; rw [hy235]; with_reducible exact H2_) | (have H2_ := (Option.bind_some _ _).symm.trans H; with_reducible exact H2_) | with_reducible exact H | (rw [hy235]; exact H) | exact H
                have Ny235 := As.mk hy235
                clear hy235
                by_cases c50 : x7_2.length + y235.length < 17592186044416
                ·rw [if_pos c50] at H
                 have LMc50 := As.mk c50
                 clear c50
                 obtain ⟨y238, hy238⟩ : ∃ y_ : List Int, y_ = (x7_2 ++ y235) := ⟨_, rfl⟩
                 replace H : (impl_SparseOf.l0 k3 l0 t221 y238 y232 l0 (l0.length : Int) (wrap64 (x43_2 + 1)) a1) = some (r1, r2, r3, r4, r5, r6, r7, r8, r9) := by first | (rw [hy238]; with_reducible exact H) | (have H2_ := (Option.bind_some _ _).symm.trans H; rw [hy238]; with_reducible exact H2_) | (have H2_ := (Option.bind_some _ _).symm.trans H; with_reducible exact H2_) | with_reducible exact H | (rw [hy238]; exact H) | exact H
                 have Ny238 := As.mk hy238
                 clear hy238
                 have H' := As.mk H
                 clear H
                 obtain ⟨Ao51, co51, eo51⟩ := rS HO_8.out
                 subst eo51
                 obtain ⟨Ao52, co52, eo52⟩ := rS HO_7.out
                 subst eo52
                 try go_wp2
                 have n0_ := As.mk (rD HO_7.out)
                 have n1_ := As.mk (rD HO_8.out)
                 have n2_ := As.mk (bD BK216.out)
                 have n3_ := As.mk (bD BK217.out)
                 have n4_ := As.mk (b1 HB.out)
                 clear HO_7
                 clear HO_8
                 clear BK216
                 clear BK217
                 clear HB
                 have HO_7 := n0_
                 have HO_8 := n1_
                 have BK216 := n2_
                 have BK217 := n3_
                 have HB := n4_
                 clear n0_ n1_ n2_ n3_ n4_
                 refine start_ (n := 13) (S := fun w' => True) (ds := []) #[F_,F_,F_,F_,F_,F_,F_,F_,F_,F_,F_,F_,F_] (by kernel_rfl) rfl rfl trivial (fun hHeld => ?_); refine with_tabW impl_SparseOf.tab12 impl_SparseOf.bits12 (fun HT_ HW_ => ?_)
                 generalize wr.drew = w53 at HO_7 HO_8 BK216 BK217 HB hHeld ⊢
                 refine pure_ (i := 0) (N := some 59) (v := ?_) (a' := ?_) #[T_,F_,F_,F_,F_,F_,F_,F_,F_,F_,F_,F_,F_] rfl rfl (any_of HT_.out (by kernel_rfl)) (fun _ _ _ h => h) (Or.inl ⟨by rfl, ?_⟩) ?_ ?_
                 rotate_left
                 ·intro w'
                  go_simp
                  with_reducible rfl
                 rotate_left
                 ·simp only [Act.put, List.setIfInBounds_toArray, List.set_cons_zero, List.set_cons_succ, i64_w, i32_w]
                  rfl
                 refine pure_ (i := 3) (N := some 62) (v := ?_) (a' := ?_) #[T_,F_,F_,T_,F_,F_,F_,F_,F_,F_,F_,F_,F_] rfl rfl (any_of HT_.out (by kernel_rfl)) (fun _ _ _ h => h) (Or.inl ⟨by rfl, ?_⟩) ?_ ?_
                 rotate_left
                 ·intro w'
                  go_simp
                  with_reducible rfl
                 rotate_left
                 ·simp only [Act.put, List.setIfInBounds_toArray, List.set_cons_zero, List.set_cons_succ, i64_w, i32_w]
                  rfl
                 refine pure_ (i := 4) (N := some 63) (v := ?_) (a' := ?_) #[T_,F_,F_,T_,T_,F_,F_,F_,F_,F_,F_,F_,F_] rfl rfl (any_of HT_.out (by kernel_rfl)) (fun _ _ _ h => h) (Or.inl ⟨by rfl, ?_⟩) ?_ ?_
                 rotate_left
                 ·intro w'
                  go_simp
                  with_reducible rfl
                 rotate_left
                 ·simp only [Act.put, List.setIfInBounds_toArray, List.set_cons_zero, List.set_cons_succ, i64_w, i32_w]
                  rfl
                 refine pure_ (i := 5) (N := some 64) (v := ?_) (a' := ?_) #[T_,F_,F_,T_,T_,T_,F_,F_,F_,F_,F_,F_,F_] rfl rfl (any_of HT_.out (by kernel_rfl)) (fun _ _ _ h => h) (Or.inl ⟨by rfl, ?_⟩) ?_ ?_
                 rotate_left
                 ·intro w'
                  go_simp
                  with_reducible rfl
                 rotate_left
                 ·simp only [Act.put, List.setIfInBounds_toArray, List.set_cons_zero, List.set_cons_succ, i64_w, i32_w]
                  rfl
                 refine pure_ (i := 6) (N := some 65) (v := ?_) (a' := ?_) #[T_,F_,F_,T_,T_,T_,T_,F_,F_,F_,F_,F_,F_] rfl rfl (any_of HT_.out (by kernel_rfl)) (fun _ _ _ h => h) (Or.inl ⟨by rfl, ?_⟩) ?_ ?_
                 rotate_left
                 ·intro w'
                  go_simp
                  with_reducible rfl
                 rotate_left
                 ·simp only [Act.put, List.setIfInBounds_toArray, List.set_cons_zero, List.set_cons_succ, i64_w, i32_w]
                  rfl
                 refine pure_ (i := 7) (N := some 66) (v := ?_) (a' := ?_) #[T_,F_,F_,T_,T_,T_,T_,T_,F_,F_,F_,F_,F_] rfl rfl (any_of HT_.out (by kernel_rfl)) (fun _ _ _ h => h) (Or.inl ⟨by rfl, ?_⟩) ?_ ?_
                 rotate_left
                 ·intro w'
                  go_simp
                  with_reducible rfl
                 rotate_left
                 ·simp only [Act.put, List.setIfInBounds_toArray, List.set_cons_zero, List.set_cons_succ, i64_w, i32_w]
                  rfl
                 refine pure_ (i := 8) (N := some 67) (v := ?_) (a' := ?_) #[T_,F_,F_,T_,T_,T_,T_,T_,T_,F_,F_,F_,F_] rfl rfl (any_of HT_.out (by kernel_rfl)) (fun _ _ _ h => h) (Or.inl ⟨by rfl, ?_⟩) ?_ ?_
                 rotate_left
                 ·intro w'
                  go_simp
                  with_reducible rfl
                 rotate_left
                 ·simp only [Act.put, List.setIfInBounds_toArray, List.set_cons_zero, List.set_cons_succ, i64_w, i32_w]
                  rfl
                 refine join_ (σ := Value × Value × Value) 3 #[T_,T_,T_,T_,T_,T_,T_,T_,T_,T_,F_,F_,F_] (fun s_ => [(60, s_.1), (61, s_.2.1), (68, s_.2.2)]) (fun s_ w' => (Kd.R (Kd.int .i64) 3 w' w.heap.size (fun k_ => some k_ ≠ (s_.2.1 : Value).ownBlock ∧ some k_ ≠ (s_.2.2 : Value).ownBlock ∧ some k_ ≠ (.slice Ao52 x7_2.length co52 : Value).ownBlock ∧ k_ ≠ gb216) s_.1 y229) ∧ (Kd.R (Kd.int .i64) 3 w' w.heap.size (fun k_ => some k_ ≠ (s_.1 : Value).ownBlock ∧ some k_ ≠ (s_.2.2 : Value).ownBlock ∧ some k_ ≠ (.slice Ao52 x7_2.length co52 : Value).ownBlock ∧ k_ ≠ gb216) s_.2.1 y232) ∧ (Kd.R (Kd.int .i64) 3 w' w.heap.size (fun k_ => some k_ ≠ (s_.1 : Value).ownBlock ∧ some k_ ≠ (s_.2.1 : Value).ownBlock ∧ some k_ ≠ (.slice Ao52 x7_2.length co52 : Value).ownBlock ∧ k_ ≠ gb216) s_.2.2 y235) ∧ (Kd.R (Kd.int .i64) 3 w' w.heap.size (fun k_ => some k_ ≠ (s_.1 : Value).ownBlock ∧ some k_ ≠ (s_.2.1 : Value).ownBlock ∧ some k_ ≠ (s_.2.2 : Value).ownBlock ∧ k_ ≠ gb216) (.slice Ao52 x7_2.length co52) x7_2) ∧ (w'.heap[gb216]? = some (.cells #[.int .i64 a1] 3 (0, 0))) ∧ (w'.heap[gb217]? = some (.cells #[.int .i64 0, .int .i64 0, .int .i64 0, .int .i64 0, .int .i64 0, .slice none 0 0, .int .i64 0, .slice none 0 0] 51 (0, 0))) ∧ (Below w.heap.size w w')) ?_ ?_
                 rotate_left
                 ·intro hCont
                  refine two_ (i := 1) (j := 9) (Ni := some 60) (Nj := some 68) #[T_,T_,F_,T_,T_,T_,T_,T_,T_,F_,F_,F_,F_] #[T_,F_,F_,T_,T_,T_,T_,T_,T_,T_,F_,F_,F_] rfl rfl rfl rfl (two_of HT_.out (by kernel_rfl)) (by decide) (by decide) (fun K hK => ?_) (fun K hK => ?_)
                  ·skip
                   refine Kd.R_lit_step (Kd.int .i64) _ 3 ?hg (N := 60) ?hd (xs := ([1] : List Int)) (inner := [.int .i64 1]) (ok := fun _ => True) (okp := fun _ => True) ?hr ?hp (fun _ hk => hk) trivial (Below.refl _ _) (Nat.le_refl _) (by simp) ?_; (case hd => rfl); (case hg => rfl); (case hr => first | (go_simp; done) | (go_simp; rfl)); (case hp => exact (Reps.one (show Kd.M (Kd.int .i64) _ _ _ 1 [.int .i64 1] from rfl) (Reps.none _ _)))
                   intro v230 w54 ho55 hb hg_ hnew_
                   clear hg_ hnew_
                   (first | rw [← Ny229.out] at ho55 | (simp only [Int.reduceToNat] at ho55; rw [← Ny229.out] at ho55))
                   have n0_ := As.mk (rE (by (with_reducible repeat first | apply rA | apply rN | apply rD); exact HO_7.out) (Kd.R_base ho55) hb)
                   have n1_ := As.mk (rE (by (with_reducible repeat first | apply rA | apply rN | apply rD); exact HO_8.out) (Kd.R_base ho55) hb)
                   have n2_ := As.mk (rL (Kd.R_newB (rW (rW ho55 (Kd.R_lt (by (with_reducible repeat first | apply rA | apply rN | apply rD); exact HO_7.out))) (Kd.R_lt (by (with_reducible repeat first | apply rA | apply rN | apply rD); exact HO_8.out))) (g := gb216) (o := .cells #[.int .i64 a1] 3 (0, 0)) (by (with_reducible repeat first | apply bN | apply bD | apply bA); exact BK216.out)) (bz (by repeat (first | (with_reducible first | exact HB.out | apply ba | apply bw | apply b1 | refine bs ?_ GE216.out | refine bs ?_ GE217.out) | exact HB.out))))
                   have n3_ := As.mk (bb (g := gb216) (o := .cells #[.int .i64 a1] 3 (0, 0)) (by (with_reducible repeat first | apply bN | apply bD | apply bA); exact BK216.out) hb)
                   have n4_ := As.mk (bb (g := gb217) (o := .cells #[.int .i64 0, .int .i64 0, .int .i64 0, .int .i64 0, .int .i64 0, .slice none 0 0, .int .i64 0, .slice none 0 0] 51 (0, 0)) (by (with_reducible repeat first | apply bN | apply bD | apply bA); exact BK217.out) hb)
                   have n5_ := As.mk (bt (by repeat (first | (with_reducible first | exact HB.out | apply ba | apply bw | apply b1 | refine bs ?_ GE216.out | refine bs ?_ GE217.out) | exact HB.out)) hb)
                   clear HO_7
                   clear HO_8
                   clear BK216
                   clear BK217
                   clear HB
                   have HO_7 := n0_
                   have HO_8 := n1_
                   have HO231 := n2_
                   have BK216 := n3_
                   have BK217 := n4_
                   have HB := n5_
                   clear n0_ n1_ n2_ n3_ n4_ n5_
                   clear hb ho55
                   obtain ⟨Ao57, co57, eo57⟩ := rS HO231.out
                   (first | subst eo57 | (injection eo57 with f1_ f2_ f3_; have f4_ := f1_.symm; have f5_ := f3_.symm; clear f1_ f2_ f3_; subst f4_; subst f5_))
                   refine hK.out _ _ trivial (fun hHeld => ?_)
                   clear hK K
                   refine norm_ (a' := ?_) ?_ ?_
                   rotate_left
                   ·show Act.put _ (some 60) _ = _
                    simp only [Act.put, List.setIfInBounds_toArray, List.set_cons_zero, List.set_cons_succ, i64_w, i32_w]
                    rfl
                   refine two_ (i := 2) (j := 9) (Ni := some 61) (Nj := some 68) #[T_,T_,T_,T_,T_,T_,T_,T_,T_,F_,F_,F_,F_] #[T_,T_,F_,T_,T_,T_,T_,T_,T_,T_,F_,F_,F_] rfl rfl rfl rfl (two_of HT_.out (by kernel_rfl)) (by decide) (by decide) (fun K hK => ?_) (fun K hK => ?_)
                   ·skip
                    refine Kd.R_append_rows_step (Kd.int .i64) (w0 := w) w.heap.size (by rfl) (.tmp 59) (.tmp 60) 37 3 (.int .i64 0) 8 rfl Try.underlying37 info3 rfl (by decide) (by omega) (.slice Ao51 x8_3.length co51) x8_3 y229 _ _ _ (fun k_ => some k_ ≠ (.slice Ao52 x7_2.length co52 : Value).ownBlock ∧ some k_ ≠ (.slice Ao57 y229.length co57 : Value).ownBlock ∧ k_ ≠ gb216) (fun _ => False) rfl rfl ?aO ?aR (fun _ _ h => h) (fun _ h => h.elim) ?aF ?aB ?aS ?aL ?_
                    (case aR => repeat (first | exact (rR HO231.out).2.2 | (with_reducible refine cA ?_ _) | (with_reducible refine cN ?_ _) | (with_reducible refine cD ?_)))
                    (case aB => exact (by repeat (first | (with_reducible first | exact HB.out | apply ba | apply bw | apply b1 | refine bs ?_ GE216.out | refine bs ?_ GE217.out) | exact HB.out)))
                    (case aF => exact (fun k_ hk => ⟨Kd.fresh' (Kd.R_lt (by (with_reducible repeat first | apply rA | apply rN | apply rD); exact HO_7.out)) k_ hk, Kd.fresh' (Kd.R_lt (by (with_reducible repeat first | apply rA | apply rN | apply rD); exact HO231.out)) k_ hk, Kd.freshB (g := gb216) (o := .cells #[.int .i64 a1] 3 (0, 0)) (by (with_reducible repeat first | apply bN | apply bD | apply bA); exact BK216.out) k_ hk⟩))
                    (case aO => exact (by (with_reducible repeat first | apply rA | apply rN | apply rD); exact Kd.R_mono HO_8.out (fun _ hk => ⟨hk.1.1, ⟨hk.2, hk.1.2⟩⟩)))
                    (case aS => exact (bz (by repeat (first | (with_reducible first | exact HB.out | apply ba | apply bw | apply b1 | refine bs ?_ GE216.out | refine bs ?_ GE217.out) | exact HB.out))))
                    (case aL => have := LMc47.out; omega)
                    intro v233 w56 ho hb hg hat
                    rw [← Ny232.out] at ho
                    have n0_ := As.mk (Kd.R_after (ok := (fun k_ => some k_ ≠ (.slice Ao57 y229.length co57 : Value).ownBlock ∧ k_ ≠ gb216)) (by (with_reducible repeat first | apply rA | apply rN | apply rD); exact Kd.R_mono HO_7.out (fun _ hk => ⟨⟨hk.2, hk.1.2⟩, hk.1.1⟩)) hg hat)
                    have n1_ := As.mk (blk_grown (g := gb216) (o := .cells #[.int .i64 a1] 3 (0, 0)) (by (with_reducible repeat first | apply bN | apply bD | apply bA); exact BK216.out) hg (Kd.R_away HO_8.out (fun _ hk => hk.1.2)))
                    have n2_ := As.mk (blk_grown (g := gb217) (o := .cells #[.int .i64 0, .int .i64 0, .int .i64 0, .int .i64 0, .int .i64 0, .slice none 0 0, .int .i64 0, .slice none 0 0] 51 (0, 0)) (by (with_reducible repeat first | apply bN | apply bD | apply bA); exact BK217.out) hg (Kd.R_ne HO_8.out BK217.out (by decide)))
                    have n3_ := As.mk (Kd.R_after (ok := (fun k_ => some k_ ≠ (.slice Ao52 x7_2.length co52 : Value).ownBlock ∧ k_ ≠ gb216)) (by (with_reducible repeat first | apply rA | apply rN | apply rD); exact Kd.R_mono HO231.out (fun _ hk => ⟨⟨hk.1.1.2, hk.2⟩, hk.1.2⟩)) hg hat)
                    have n4_ := As.mk (hb)
                    have n5_ := As.mk (ho)
                    clear HO_7
                    clear BK216
                    clear BK217
                    clear HO231
                    clear HB
                    clear HO_8
                    have HO_7 := n0_
                    have BK216 := n1_
                    have BK217 := n2_
                    have HO231 := n3_
                    have HB := n4_
                    have HO234 := n5_
                    clear n0_ n1_ n2_ n3_ n4_ n5_
                    clear ho hb hg hat
                    refine hK.out _ _ trivial (fun hHeld => ?_)
                    clear hK K
                    refine norm_ (a' := ?_) ?_ ?_
                    rotate_left
                    ·show Act.put _ (some 61) _ = _
                     simp only [Act.put, List.setIfInBounds_toArray, List.set_cons_zero, List.set_cons_succ, i64_w, i32_w]
                     rfl
                    refine one_ (i := 9) (N := some 68) #[T_,T_,T_,T_,T_,T_,T_,T_,T_,T_,F_,F_,F_] rfl rfl (one_of HT_.out (by kernel_rfl)) (by decide) (fun K hK => ?_)
                    refine Kd.R_lit_step (Kd.int .i64) _ 3 ?hg (N := 68) ?hd (xs := ([Go.bits .and .i64 (rd l0 x43_2) (wrap64 ((ji49) - 1))] : List Int)) (inner := [.int .i64 (Go.bits .and .i64 (rd l0 x43_2) (wrap64 ((ji49) - 1)))]) (ok := fun _ => True) (okp := fun _ => True) ?hr ?hp (fun _ hk => hk) trivial (Below.refl _ _) (Nat.le_refl _) (by simp) ?_; (case hd => rfl); (case hg => rfl); (case hr => first | (go_simp; done) | (go_simp; rfl)); (case hp => exact (Reps.one (show Kd.M (Kd.int .i64) _ _ _ (Go.bits .and .i64 (rd l0 x43_2) (wrap64 ((ji49) - 1))) [.int .i64 (Go.bits .and .i64 (rd l0 x43_2) (wrap64 ((ji49) - 1)))] from rfl) (Reps.none _ _)))
                    intro v236 w58 ho59 hb hg_ hnew_
                    clear hg_ hnew_
                    (first | rw [← Ny235.out] at ho59 | (simp only [Int.reduceToNat] at ho59; rw [← Ny235.out] at ho59))
                    have n0_ := As.mk (rE (by (with_reducible repeat first | apply rA | apply rN | apply rD); exact HO_7.out) (Kd.R_base ho59) hb)
                    have n1_ := As.mk (rE (by (with_reducible repeat first | apply rA | apply rN | apply rD); exact HO231.out) (Kd.R_base ho59) hb)
                    have n2_ := As.mk (rE (by (with_reducible repeat first | apply rA | apply rN | apply rD); exact HO234.out) (Kd.R_base ho59) hb)
                    have n3_ := As.mk (rL (Kd.R_newB (rW (rW (rW ho59 (Kd.R_lt (by (with_reducible repeat first | apply rA | apply rN | apply rD); exact HO_7.out))) (Kd.R_lt (by (with_reducible repeat first | apply rA | apply rN | apply rD); exact HO231.out))) (Kd.R_lt (by (with_reducible repeat first | apply rA | apply rN | apply rD); exact HO234.out))) (g := gb216) (o := .cells #[.int .i64 a1] 3 (0, 0)) (by (with_reducible repeat first | apply bN | apply bD | apply bA); exact BK216.out)) (bz (by repeat (first | (with_reducible first | exact HB.out | apply ba | apply bw | apply b1 | refine bs ?_ GE216.out | refine bs ?_ GE217.out) | exact HB.out))))
                    have n4_ := As.mk (bb (g := gb216) (o := .cells #[.int .i64 a1] 3 (0, 0)) (by (with_reducible repeat first | apply bN | apply bD | apply bA); exact BK216.out) hb)
                    have n5_ := As.mk (bb (g := gb217) (o := .cells #[.int .i64 0, .int .i64 0, .int .i64 0, .int .i64 0, .int .i64 0, .slice none 0 0, .int .i64 0, .slice none 0 0] 51 (0, 0)) (by (with_reducible repeat first | apply bN | apply bD | apply bA); exact BK217.out) hb)
                    have n6_ := As.mk (bt (by repeat (first | (with_reducible first | exact HB.out | apply ba | apply bw | apply b1 | refine bs ?_ GE216.out | refine bs ?_ GE217.out) | exact HB.out)) hb)
                    clear HO_7
                    clear HO231
                    clear HO234
                    clear BK216
                    clear BK217
                    clear HB
                    have HO_7 := n0_
                    have HO231 := n1_
                    have HO234 := n2_
                    have HO237 := n3_
                    have BK216 := n4_
                    have BK217 := n5_
                    have HB := n6_
                    clear n0_ n1_ n2_ n3_ n4_ n5_ n6_
                    clear hb ho59
                    refine hK.out _ _ trivial (fun hHeld => ?_)
                    clear hK K
                    refine norm_ (a' := ?_) ?_ ?_
                    rotate_left
                    ·show Act.put _ (some 68) _ = _
                     simp only [Act.put, List.setIfInBounds_toArray, List.set_cons_zero, List.set_cons_succ, i64_w, i32_w]
                     rfl
                    exact norm_ (by simp only [putAll, Act.put, List.setIfInBounds_toArray, List.set_cons_zero, List.set_cons_succ]) (hCont (.slice Ao57 y229.length co57, v233, v236) _ ⟨(by (with_reducible repeat first | apply rA | apply rN | apply rD); exact Kd.R_mono HO231.out (fun _ hk => ⟨hk.1.2, ⟨hk.2, ⟨hk.1.1.1, hk.1.1.2⟩⟩⟩)), (by (with_reducible repeat first | apply rA | apply rN | apply rD); exact Kd.R_mono HO234.out (fun _ hk => ⟨hk.1.2.1, ⟨hk.2, ⟨hk.1.1, hk.1.2.2⟩⟩⟩)), (by (with_reducible repeat first | apply rA | apply rN | apply rD); exact Kd.R_mono HO237.out (fun _ hk => ⟨hk.1.1.2, ⟨hk.1.2, ⟨hk.1.1.1.2, hk.2⟩⟩⟩)), (by (with_reducible repeat first | apply rA | apply rN | apply rD); exact Kd.R_mono HO_7.out (fun _ hk => ⟨hk.1.1.1, ⟨hk.1.2, ⟨hk.2, hk.1.1.2⟩⟩⟩)), (by (with_reducible repeat first | apply bN | apply bD | apply bA); exact BK216.out), (by (with_reducible repeat first | apply bN | apply bD | apply bA); exact BK217.out), (by repeat (first | (with_reducible first | exact HB.out | apply ba | apply bw | apply b1 | refine bs ?_ GE216.out | refine bs ?_ GE217.out) | exact HB.out))⟩)
                   ·skip
                    refine Kd.R_lit_step (Kd.int .i64) _ 3 ?hg (N := 68) ?hd (xs := ([Go.bits .and .i64 (rd l0 x43_2) (wrap64 ((ji49) - 1))] : List Int)) (inner := [.int .i64 (Go.bits .and .i64 (rd l0 x43_2) (wrap64 ((ji49) - 1)))]) (ok := fun _ => True) (okp := fun _ => True) ?hr ?hp (fun _ hk => hk) trivial (Below.refl _ _) (Nat.le_refl _) (by simp) ?_; (case hd => rfl); (case hg => rfl); (case hr => first | (go_simp; done) | (go_simp; rfl)); (case hp => exact (Reps.one (show Kd.M (Kd.int .i64) _ _ _ (Go.bits .and .i64 (rd l0 x43_2) (wrap64 ((ji49) - 1))) [.int .i64 (Go.bits .and .i64 (rd l0 x43_2) (wrap64 ((ji49) - 1)))] from rfl) (Reps.none _ _)))
                    intro v236 w56 ho57 hb hg_ hnew_
                    clear hg_ hnew_
                    (first | rw [← Ny235.out] at ho57 | (simp only [Int.reduceToNat] at ho57; rw [← Ny235.out] at ho57))
                    have n0_ := As.mk (rE (by (with_reducible repeat first | apply rA | apply rN | apply rD); exact HO_7.out) (Kd.R_base ho57) hb)
                    have n1_ := As.mk (rE (by (with_reducible repeat first | apply rA | apply rN | apply rD); exact HO_8.out) (Kd.R_base ho57) hb)
                    have n2_ := As.mk (rE (by (with_reducible repeat first | apply rA | apply rN | apply rD); exact HO231.out) (Kd.R_base ho57) hb)
                    have n3_ := As.mk (rL (Kd.R_newB (rW (rW (rW ho57 (Kd.R_lt (by (with_reducible repeat first | apply rA | apply rN | apply rD); exact HO_7.out))) (Kd.R_lt (by (with_reducible repeat first | apply rA | apply rN | apply rD); exact HO_8.out))) (Kd.R_lt (by (with_reducible repeat first | apply rA | apply rN | apply rD); exact HO231.out))) (g := gb216) (o := .cells #[.int .i64 a1] 3 (0, 0)) (by (with_reducible repeat first | apply bN | apply bD | apply bA); exact BK216.out)) (bz (by repeat (first | (with_reducible first | exact HB.out | apply ba | apply bw | apply b1 | refine bs ?_ GE216.out | refine bs ?_ GE217.out) | exact HB.out))))
                    have n4_ := As.mk (bb (g := gb216) (o := .cells #[.int .i64 a1] 3 (0, 0)) (by (with_reducible repeat first | apply bN | apply bD | apply bA); exact BK216.out) hb)
                    have n5_ := As.mk (bb (g := gb217) (o := .cells #[.int .i64 0, .int .i64 0, .int .i64 0, .int .i64 0, .int .i64 0, .slice none 0 0, .int .i64 0, .slice none 0 0] 51 (0, 0)) (by (with_reducible repeat first | apply bN | apply bD | apply bA); exact BK217.out) hb)
                    have n6_ := As.mk (bt (by repeat (first | (with_reducible first | exact HB.out | apply ba | apply bw | apply b1 | refine bs ?_ GE216.out | refine bs ?_ GE217.out) | exact HB.out)) hb)
                    clear HO_7
                    clear HO_8
                    clear HO231
                    clear BK216
                    clear BK217
                    clear HB
                    have HO_7 := n0_
                    have HO_8 := n1_
                    have HO231 := n2_
                    have HO237 := n3_
                    have BK216 := n4_
                    have BK217 := n5_
                    have HB := n6_
                    clear n0_ n1_ n2_ n3_ n4_ n5_ n6_
                    clear hb ho57
                    obtain ⟨Ao59, co59, eo59⟩ := rS HO231.out
                    (first | subst eo59 | (injection eo59 with f1_ f2_ f3_; have f4_ := f1_.symm; have f5_ := f3_.symm; clear f1_ f2_ f3_; subst f4_; subst f5_))
                    refine hK.out _ _ trivial (fun hHeld => ?_)
                    clear hK K
                    refine norm_ (a' := ?_) ?_ ?_
                    rotate_left
                    ·show Act.put _ (some 68) _ = _
                     simp only [Act.put, List.setIfInBounds_toArray, List.set_cons_zero, List.set_cons_succ, i64_w, i32_w]
                     rfl
                    refine one_ (i := 2) (N := some 61) #[T_,T_,T_,T_,T_,T_,T_,T_,T_,T_,F_,F_,F_] rfl rfl (one_of HT_.out (by kernel_rfl)) (by decide) (fun K hK => ?_)
                    refine Kd.R_append_rows_step (Kd.int .i64) (w0 := w) w.heap.size (by rfl) (.tmp 59) (.tmp 60) 37 3 (.int .i64 0) 8 rfl Try.underlying37 info3 rfl (by decide) (by omega) (.slice Ao51 x8_3.length co51) x8_3 y229 _ _ _ (fun k_ => some k_ ≠ (.slice Ao52 x7_2.length co52 : Value).ownBlock ∧ some k_ ≠ (.slice Ao59 y229.length co59 : Value).ownBlock ∧ some k_ ≠ (v236 : Value).ownBlock ∧ k_ ≠ gb216) (fun _ => False) rfl rfl ?aO ?aR (fun _ _ h => h) (fun _ h => h.elim) ?aF ?aB ?aS ?aL ?_
                    (case aR => repeat (first | exact (rR HO231.out).2.2 | (with_reducible refine cA ?_ _) | (with_reducible refine cN ?_ _) | (with_reducible refine cD ?_)))
                    (case aB => exact (by repeat (first | (with_reducible first | exact HB.out | apply ba | apply bw | apply b1 | refine bs ?_ GE216.out | refine bs ?_ GE217.out) | exact HB.out)))
                    (case aF => exact (fun k_ hk => ⟨Kd.fresh' (Kd.R_lt (by (with_reducible repeat first | apply rA | apply rN | apply rD); exact HO_7.out)) k_ hk, Kd.fresh' (Kd.R_lt (by (with_reducible repeat first | apply rA | apply rN | apply rD); exact HO231.out)) k_ hk, Kd.fresh' (Kd.R_lt (by (with_reducible repeat first | apply rA | apply rN | apply rD); exact HO237.out)) k_ hk, Kd.freshB (g := gb216) (o := .cells #[.int .i64 a1] 3 (0, 0)) (by (with_reducible repeat first | apply bN | apply bD | apply bA); exact BK216.out) k_ hk⟩))
                    (case aO => exact (by (with_reducible repeat first | apply rA | apply rN | apply rD); exact Kd.R_mono HO_8.out (fun _ hk => ⟨hk.1.1.1, ⟨hk.1.2, ⟨hk.2, hk.1.1.2⟩⟩⟩)))
                    (case aS => exact (bz (by repeat (first | (with_reducible first | exact HB.out | apply ba | apply bw | apply b1 | refine bs ?_ GE216.out | refine bs ?_ GE217.out) | exact HB.out))))
                    (case aL => have := LMc47.out; omega)
                    intro v233 w58 ho hb hg hat
                    rw [← Ny232.out] at ho
                    have n0_ := As.mk (Kd.R_after (ok := (fun k_ => some k_ ≠ (.slice Ao59 y229.length co59 : Value).ownBlock ∧ some k_ ≠ (v236 : Value).ownBlock ∧ k_ ≠ gb216)) (by (with_reducible repeat first | apply rA | apply rN | apply rD); exact Kd.R_mono HO_7.out (fun _ hk => ⟨⟨hk.1.2, ⟨hk.2, hk.1.1.2⟩⟩, hk.1.1.1⟩)) hg hat)
                    have n1_ := As.mk (blk_grown (g := gb216) (o := .cells #[.int .i64 a1] 3 (0, 0)) (by (with_reducible repeat first | apply bN | apply bD | apply bA); exact BK216.out) hg (Kd.R_away HO_8.out (fun _ hk => hk.1.1.2)))
                    have n2_ := As.mk (blk_grown (g := gb217) (o := .cells #[.int .i64 0, .int .i64 0, .int .i64 0, .int .i64 0, .int .i64 0, .slice none 0 0, .int .i64 0, .slice none 0 0] 51 (0, 0)) (by (with_reducible repeat first | apply bN | apply bD | apply bA); exact BK217.out) hg (Kd.R_ne HO_8.out BK217.out (by decide)))
                    have n3_ := As.mk (Kd.R_after (ok := (fun k_ => some k_ ≠ (.slice Ao52 x7_2.length co52 : Value).ownBlock ∧ some k_ ≠ (v236 : Value).ownBlock ∧ k_ ≠ gb216)) (by (with_reducible repeat first | apply rA | apply rN | apply rD); exact Kd.R_mono HO231.out (fun _ hk => ⟨⟨hk.1.1.1.2, ⟨hk.2, hk.1.2⟩⟩, hk.1.1.2⟩)) hg hat)
                    have n4_ := As.mk (Kd.R_after (ok := (fun k_ => some k_ ≠ (.slice Ao52 x7_2.length co52 : Value).ownBlock ∧ some k_ ≠ (.slice Ao59 y229.length co59 : Value).ownBlock ∧ k_ ≠ gb216)) (by (with_reducible repeat first | apply rA | apply rN | apply rD); exact Kd.R_mono HO237.out (fun _ hk => ⟨⟨hk.1.1.1.2, ⟨hk.1.2, hk.2⟩⟩, hk.1.1.2⟩)) hg hat)
                    have n5_ := As.mk (hb)
                    have n6_ := As.mk (ho)
                    clear HO_7
                    clear BK216
                    clear BK217
                    clear HO231
                    clear HO237
                    clear HB
                    clear HO_8
                    have HO_7 := n0_
                    have BK216 := n1_
                    have BK217 := n2_
                    have HO231 := n3_
                    have HO237 := n4_
                    have HB := n5_
                    have HO234 := n6_
                    clear n0_ n1_ n2_ n3_ n4_ n5_ n6_
                    clear ho hb hg hat
                    refine hK.out _ _ trivial (fun hHeld => ?_)
                    clear hK K
                    refine norm_ (a' := ?_) ?_ ?_
                    rotate_left
                    ·show Act.put _ (some 61) _ = _
                     simp only [Act.put, List.setIfInBounds_toArray, List.set_cons_zero, List.set_cons_succ, i64_w, i32_w]
                     rfl
                    exact norm_ (by simp only [putAll, Act.put, List.setIfInBounds_toArray, List.set_cons_zero, List.set_cons_succ]) (hCont (.slice Ao59 y229.length co59, v233, v236) _ ⟨(by (with_reducible repeat first | apply rA | apply rN | apply rD); exact Kd.R_mono HO231.out (fun _ hk => ⟨hk.2, ⟨hk.1.2.1, ⟨hk.1.1, hk.1.2.2⟩⟩⟩)), (by (with_reducible repeat first | apply rA | apply rN | apply rD); exact Kd.R_mono HO234.out (fun _ hk => ⟨hk.2.1, ⟨hk.2.2.1, ⟨hk.1, hk.2.2.2⟩⟩⟩)), (by (with_reducible repeat first | apply rA | apply rN | apply rD); exact Kd.R_mono HO237.out (fun _ hk => ⟨hk.1.2.1, ⟨hk.2, ⟨hk.1.1, hk.1.2.2⟩⟩⟩)), (by (with_reducible repeat first | apply rA | apply rN | apply rD); exact Kd.R_mono HO_7.out (fun _ hk => ⟨hk.1.1, ⟨hk.2, ⟨hk.1.2.1, hk.1.2.2⟩⟩⟩)), (by (with_reducible repeat first | apply bN | apply bD | apply bA); exact BK216.out), (by (with_reducible repeat first | apply bN | apply bD | apply bA); exact BK217.out), (by repeat (first | (with_reducible first | exact HB.out | apply ba | apply bw | apply b1 | refine bs ?_ GE216.out | refine bs ?_ GE217.out) | exact HB.out))⟩)
                  ·skip
                   refine Kd.R_lit_step (Kd.int .i64) _ 3 ?hg (N := 68) ?hd (xs := ([Go.bits .and .i64 (rd l0 x43_2) (wrap64 ((ji49) - 1))] : List Int)) (inner := [.int .i64 (Go.bits .and .i64 (rd l0 x43_2) (wrap64 ((ji49) - 1)))]) (ok := fun _ => True) (okp := fun _ => True) ?hr ?hp (fun _ hk => hk) trivial (Below.refl _ _) (Nat.le_refl _) (by simp) ?_; (case hd => rfl); (case hg => rfl); (case hr => first | (go_simp; done) | (go_simp; rfl)); (case hp => exact (Reps.one (show Kd.M (Kd.int .i64) _ _ _ (Go.bits .and .i64 (rd l0 x43_2) (wrap64 ((ji49) - 1))) [.int .i64 (Go.bits .and .i64 (rd l0 x43_2) (wrap64 ((ji49) - 1)))] from rfl) (Reps.none _ _)))
                   intro v236 w54 ho55 hb hg_ hnew_
                   clear hg_ hnew_
                   (first | rw [← Ny235.out] at ho55 | (simp only [Int.reduceToNat] at ho55; rw [← Ny235.out] at ho55))
                   have n0_ := As.mk (rE (by (with_reducible repeat first | apply rA | apply rN | apply rD); exact HO_7.out) (Kd.R_base ho55) hb)
                   have n1_ := As.mk (rE (by (with_reducible repeat first | apply rA | apply rN | apply rD); exact HO_8.out) (Kd.R_base ho55) hb)
                   have n2_ := As.mk (rL (Kd.R_newB (rW (rW ho55 (Kd.R_lt (by (with_reducible repeat first | apply rA | apply rN | apply rD); exact HO_7.out))) (Kd.R_lt (by (with_reducible repeat first | apply rA | apply rN | apply rD); exact HO_8.out))) (g := gb216) (o := .cells #[.int .i64 a1] 3 (0, 0)) (by (with_reducible repeat first | apply bN | apply bD | apply bA); exact BK216.out)) (bz (by repeat (first | (with_reducible first | exact HB.out | apply ba | apply bw | apply b1 | refine bs ?_ GE216.out | refine bs ?_ GE217.out) | exact HB.out))))
                   have n3_ := As.mk (bb (g := gb216) (o := .cells #[.int .i64 a1] 3 (0, 0)) (by (with_reducible repeat first | apply bN | apply bD | apply bA); exact BK216.out) hb)
                   have n4_ := As.mk (bb (g := gb217) (o := .cells #[.int .i64 0, .int .i64 0, .int .i64 0, .int .i64 0, .int .i64 0, .slice none 0 0, .int .i64 0, .slice none 0 0] 51 (0, 0)) (by (with_reducible repeat first | apply bN | apply bD | apply bA); exact BK217.out) hb)
                   have n5_ := As.mk (bt (by repeat (first | (with_reducible first | exact HB.out | apply ba | apply bw | apply b1 | refine bs ?_ GE216.out | refine bs ?_ GE217.out) | exact HB.out)) hb)
                   clear HO_7
                   clear HO_8
                   clear BK216
                   clear BK217
                   clear HB
                   have HO_7 := n0_
                   have HO_8 := n1_
                   have HO237 := n2_
                   have BK216 := n3_
                   have BK217 := n4_
                   have HB := n5_
                   clear n0_ n1_ n2_ n3_ n4_ n5_
                   clear hb ho55
                   refine hK.out _ _ trivial (fun hHeld => ?_)
                   clear hK K
                   refine norm_ (a' := ?_) ?_ ?_
                   rotate_left
                   ·show Act.put _ (some 68) _ = _
                    simp only [Act.put, List.setIfInBounds_toArray, List.set_cons_zero, List.set_cons_succ, i64_w, i32_w]
                    rfl
                   refine one_ (i := 1) (N := some 60) #[T_,T_,F_,T_,T_,T_,T_,T_,T_,T_,F_,F_,F_] rfl rfl (one_of HT_.out (by kernel_rfl)) (by decide) (fun K hK => ?_)
                   refine Kd.R_lit_step (Kd.int .i64) _ 3 ?hg (N := 60) ?hd (xs := ([1] : List Int)) (inner := [.int .i64 1]) (ok := fun _ => True) (okp := fun _ => True) ?hr ?hp (fun _ hk => hk) trivial (Below.refl _ _) (Nat.le_refl _) (by simp) ?_; (case hd => rfl); (case hg => rfl); (case hr => first | (go_simp; done) | (go_simp; rfl)); (case hp => exact (Reps.one (show Kd.M (Kd.int .i64) _ _ _ 1 [.int .i64 1] from rfl) (Reps.none _ _)))
                   intro v230 w56 ho57 hb hg_ hnew_
                   clear hg_ hnew_
                   (first | rw [← Ny229.out] at ho57 | (simp only [Int.reduceToNat] at ho57; rw [← Ny229.out] at ho57))
                   have n0_ := As.mk (rE (by (with_reducible repeat first | apply rA | apply rN | apply rD); exact HO_7.out) (Kd.R_base ho57) hb)
                   have n1_ := As.mk (rE (by (with_reducible repeat first | apply rA | apply rN | apply rD); exact HO_8.out) (Kd.R_base ho57) hb)
                   have n2_ := As.mk (rE (by (with_reducible repeat first | apply rA | apply rN | apply rD); exact HO237.out) (Kd.R_base ho57) hb)
                   have n3_ := As.mk (rL (Kd.R_newB (rW (rW (rW ho57 (Kd.R_lt (by (with_reducible repeat first | apply rA | apply rN | apply rD); exact HO_7.out))) (Kd.R_lt (by (with_reducible repeat first | apply rA | apply rN | apply rD); exact HO_8.out))) (Kd.R_lt (by (with_reducible repeat first | apply rA | apply rN | apply rD); exact HO237.out))) (g := gb216) (o := .cells #[.int .i64 a1] 3 (0, 0)) (by (with_reducible repeat first | apply bN | apply bD | apply bA); exact BK216.out)) (bz (by repeat (first | (with_reducible first | exact HB.out | apply ba | apply bw | apply b1 | refine bs ?_ GE216.out | refine bs ?_ GE217.out) | exact HB.out))))
                   have n4_ := As.mk (bb (g := gb216) (o := .cells #[.int .i64 a1] 3 (0, 0)) (by (with_reducible repeat first | apply bN | apply bD | apply bA); exact BK216.out) hb)
                   have n5_ := As.mk (bb (g := gb217) (o := .cells #[.int .i64 0, .int .i64 0, .int .i64 0, .int .i64 0, .int .i64 0, .slice none 0 0, .int .i64 0, .slice none 0 0] 51 (0, 0)) (by (with_reducible repeat first | apply bN | apply bD | apply bA); exact BK217.out) hb)
                   have n6_ := As.mk (bt (by repeat (first | (with_reducible first | exact HB.out | apply ba | apply bw | apply b1 | refine bs ?_ GE216.out | refine bs ?_ GE217.out) | exact HB.out)) hb)
                   clear HO_7
                   clear HO_8
                   clear HO237
                   clear BK216
                   clear BK217
                   clear HB
                   have HO_7 := n0_
                   have HO_8 := n1_
                   have HO237 := n2_
                   have HO231 := n3_
                   have BK216 := n4_
                   have BK217 := n5_
                   have HB := n6_
                   clear n0_ n1_ n2_ n3_ n4_ n5_ n6_
                   clear hb ho57
                   obtain ⟨Ao59, co59, eo59⟩ := rS HO231.out
                   (first | subst eo59 | (injection eo59 with f1_ f2_ f3_; have f4_ := f1_.symm; have f5_ := f3_.symm; clear f1_ f2_ f3_; subst f4_; subst f5_))
                   refine hK.out _ _ trivial (fun hHeld => ?_)
                   clear hK K
                   refine norm_ (a' := ?_) ?_ ?_
                   rotate_left
                   ·show Act.put _ (some 60) _ = _
                    simp only [Act.put, List.setIfInBounds_toArray, List.set_cons_zero, List.set_cons_succ, i64_w, i32_w]
                    rfl
                   refine one_ (i := 2) (N := some 61) #[T_,T_,T_,T_,T_,T_,T_,T_,T_,T_,F_,F_,F_] rfl rfl (one_of HT_.out (by kernel_rfl)) (by decide) (fun K hK => ?_)
                   refine Kd.R_append_rows_step (Kd.int .i64) (w0 := w) w.heap.size (by rfl) (.tmp 59) (.tmp 60) 37 3 (.int .i64 0) 8 rfl Try.underlying37 info3 rfl (by decide) (by omega) (.slice Ao51 x8_3.length co51) x8_3 y229 _ _ _ (fun k_ => some k_ ≠ (.slice Ao52 x7_2.length co52 : Value).ownBlock ∧ some k_ ≠ (v236 : Value).ownBlock ∧ some k_ ≠ (.slice Ao59 y229.length co59 : Value).ownBlock ∧ k_ ≠ gb216) (fun _ => False) rfl rfl ?aO ?aR (fun _ _ h => h) (fun _ h => h.elim) ?aF ?aB ?aS ?aL ?_
                   (case aR => repeat (first | exact (rR HO231.out).2.2 | (with_reducible refine cA ?_ _) | (with_reducible refine cN ?_ _) | (with_reducible refine cD ?_)))
                   (case aB => exact (by repeat (first | (with_reducible first | exact HB.out | apply ba | apply bw | apply b1 | refine bs ?_ GE216.out | refine bs ?_ GE217.out) | exact HB.out)))
                   (case aF => exact (fun k_ hk => ⟨Kd.fresh' (Kd.R_lt (by (with_reducible repeat first | apply rA | apply rN | apply rD); exact HO_7.out)) k_ hk, Kd.fresh' (Kd.R_lt (by (with_reducible repeat first | apply rA | apply rN | apply rD); exact HO237.out)) k_ hk, Kd.fresh' (Kd.R_lt (by (with_reducible repeat first | apply rA | apply rN | apply rD); exact HO231.out)) k_ hk, Kd.freshB (g := gb216) (o := .cells #[.int .i64 a1] 3 (0, 0)) (by (with_reducible repeat first | apply bN | apply bD | apply bA); exact BK216.out) k_ hk⟩))
                   (case aO => exact (by (with_reducible repeat first | apply rA | apply rN | apply rD); exact Kd.R_mono HO_8.out (fun _ hk => ⟨hk.1.1.1, ⟨hk.1.2, ⟨hk.2, hk.1.1.2⟩⟩⟩)))
                   (case aS => exact (bz (by repeat (first | (with_reducible first | exact HB.out | apply ba | apply bw | apply b1 | refine bs ?_ GE216.out | refine bs ?_ GE217.out) | exact HB.out))))
                   (case aL => have := LMc47.out; omega)
                   intro v233 w58 ho hb hg hat
                   rw [← Ny232.out] at ho
                   have n0_ := As.mk (Kd.R_after (ok := (fun k_ => some k_ ≠ (v236 : Value).ownBlock ∧ some k_ ≠ (.slice Ao59 y229.length co59 : Value).ownBlock ∧ k_ ≠ gb216)) (by (with_reducible repeat first | apply rA | apply rN | apply rD); exact Kd.R_mono HO_7.out (fun _ hk => ⟨⟨hk.1.2, ⟨hk.2, hk.1.1.2⟩⟩, hk.1.1.1⟩)) hg hat)
                   have n1_ := As.mk (blk_grown (g := gb216) (o := .cells #[.int .i64 a1] 3 (0, 0)) (by (with_reducible repeat first | apply bN | apply bD | apply bA); exact BK216.out) hg (Kd.R_away HO_8.out (fun _ hk => hk.1.1.2)))
                   have n2_ := As.mk (blk_grown (g := gb217) (o := .cells #[.int .i64 0, .int .i64 0, .int .i64 0, .int .i64 0, .int .i64 0, .slice none 0 0, .int .i64 0, .slice none 0 0] 51 (0, 0)) (by (with_reducible repeat first | apply bN | apply bD | apply bA); exact BK217.out) hg (Kd.R_ne HO_8.out BK217.out (by decide)))
                   have n3_ := As.mk (Kd.R_after (ok := (fun k_ => some k_ ≠ (.slice Ao52 x7_2.length co52 : Value).ownBlock ∧ some k_ ≠ (.slice Ao59 y229.length co59 : Value).ownBlock ∧ k_ ≠ gb216)) (by (with_reducible repeat first | apply rA | apply rN | apply rD); exact Kd.R_mono HO237.out (fun _ hk => ⟨⟨hk.1.1.1.2, ⟨hk.2, hk.1.2⟩⟩, hk.1.1.2⟩)) hg hat)
                   have n4_ := As.mk (Kd.R_after (ok := (fun k_ => some k_ ≠ (.slice Ao52 x7_2.length co52 : Value).ownBlock ∧ some k_ ≠ (v236 : Value).ownBlock ∧ k_ ≠ gb216)) (by (with_reducible repeat first | apply rA | apply rN | apply rD); exact Kd.R_mono HO231.out (fun _ hk => ⟨⟨hk.1.1.1.2, ⟨hk.1.2, hk.2⟩⟩, hk.1.1.2⟩)) hg hat)
                   have n5_ := As.mk (hb)
                   have n6_ := As.mk (ho)
                   clear HO_7
                   clear BK216
                   clear BK217
                   clear HO237
                   clear HO231
                   clear HB
                   clear HO_8
                   have HO_7 := n0_
                   have BK216 := n1_
                   have BK217 := n2_
                   have HO237 := n3_
                   have HO231 := n4_
                   have HB := n5_
                   have HO234 := n6_
                   clear n0_ n1_ n2_ n3_ n4_ n5_ n6_
                   clear ho hb hg hat
                   refine hK.out _ _ trivial (fun hHeld => ?_)
                   clear hK K
                   refine norm_ (a' := ?_) ?_ ?_
                   rotate_left
                   ·show Act.put _ (some 61) _ = _
                    simp only [Act.put, List.setIfInBounds_toArray, List.set_cons_zero, List.set_cons_succ, i64_w, i32_w]
                    rfl
                   exact norm_ (by simp only [putAll, Act.put, List.setIfInBounds_toArray, List.set_cons_zero, List.set_cons_succ]) (hCont (.slice Ao59 y229.length co59, v233, v236) _ ⟨(by (with_reducible repeat first | apply rA | apply rN | apply rD); exact Kd.R_mono HO231.out (fun _ hk => ⟨hk.2, ⟨hk.1.2.1, ⟨hk.1.1, hk.1.2.2⟩⟩⟩)), (by (with_reducible repeat first | apply rA | apply rN | apply rD); exact Kd.R_mono HO234.out (fun _ hk => ⟨hk.2.2.1, ⟨hk.2.1, ⟨hk.1, hk.2.2.2⟩⟩⟩)), (by (with_reducible repeat first | apply rA | apply rN | apply rD); exact Kd.R_mono HO237.out (fun _ hk => ⟨hk.1.2.1, ⟨hk.2, ⟨hk.1.1, hk.1.2.2⟩⟩⟩)), (by (with_reducible repeat first | apply rA | apply rN | apply rD); exact Kd.R_mono HO_7.out (fun _ hk => ⟨hk.1.2.1, ⟨hk.2, ⟨hk.1.1, hk.1.2.2⟩⟩⟩)), (by (with_reducible repeat first | apply bN | apply bD | apply bA); exact BK216.out), (by (with_reducible repeat first | apply bN | apply bD | apply bA); exact BK217.out), (by repeat (first | (with_reducible first | exact HB.out | apply ba | apply bw | apply b1 | refine bs ?_ GE216.out | refine bs ?_ GE217.out) | exact HB.out))⟩)
                 rintro ⟨v230, v233, v236⟩ w60 ⟨h0_, h1_, h2_, h3_, h4_, h5_, h6_⟩
                 have n0_ : As (Kd.R (Kd.int .i64) 3 w60 w.heap.size (fun k_ => some k_ ≠ (v233 : Value).ownBlock ∧ some k_ ≠ (v236 : Value).ownBlock ∧ some k_ ≠ (.slice Ao52 x7_2.length co52 : Value).ownBlock ∧ k_ ≠ gb216) v230 y229) := ⟨h0_⟩
                 have n1_ : As (Kd.R (Kd.int .i64) 3 w60 w.heap.size (fun k_ => some k_ ≠ (v230 : Value).ownBlock ∧ some k_ ≠ (v236 : Value).ownBlock ∧ some k_ ≠ (.slice Ao52 x7_2.length co52 : Value).ownBlock ∧ k_ ≠ gb216) v233 y232) := ⟨h1_⟩
                 have n2_ : As (Kd.R (Kd.int .i64) 3 w60 w.heap.size (fun k_ => some k_ ≠ (v230 : Value).ownBlock ∧ some k_ ≠ (v233 : Value).ownBlock ∧ some k_ ≠ (.slice Ao52 x7_2.length co52 : Value).ownBlock ∧ k_ ≠ gb216) v236 y235) := ⟨h2_⟩
                 have n3_ : As (Kd.R (Kd.int .i64) 3 w60 w.heap.size (fun k_ => some k_ ≠ (v230 : Value).ownBlock ∧ some k_ ≠ (v233 : Value).ownBlock ∧ some k_ ≠ (v236 : Value).ownBlock ∧ k_ ≠ gb216) (.slice Ao52 x7_2.length co52) x7_2) := ⟨h3_⟩
                 have n4_ : As (w60.heap[gb216]? = some (.cells #[.int .i64 a1] 3 (0, 0))) := ⟨h4_⟩
                 have n5_ : As (w60.heap[gb217]? = some (.cells #[.int .i64 0, .int .i64 0, .int .i64 0, .int .i64 0, .int .i64 0, .slice none 0 0, .int .i64 0, .slice none 0 0] 51 (0, 0))) := ⟨h5_⟩
                 have n6_ : As (Below w.heap.size w w60) := ⟨h6_⟩
                 clear HO_7
                 clear HO_8
                 clear BK216
                 clear BK217
                 clear HB
                 clear h0_ h1_ h2_ h3_ h4_ h5_ h6_
                 have HO231 := n0_
                 have HO234 := n1_
                 have HO237 := n2_
                 have HO_7 := n3_
                 have BK216 := n4_
                 have BK217 := n5_
                 have HB := n6_
                 clear n0_ n1_ n2_ n3_ n4_ n5_ n6_
                 have hHeld := trivial
                 obtain ⟨Ao62, co62, eo62⟩ := rS HO237.out
                 (first | subst eo62 | (injection eo62 with f1_ f2_ f3_; have f4_ := f1_.symm; have f5_ := f3_.symm; clear f1_ f2_ f3_; subst f4_; subst f5_))
                 refine norm_ (a' := ?_) ?_ ?_
                 rotate_left
                 ·simp only [putAll, Act.put, List.setIfInBounds_toArray, List.set_cons_zero, List.set_cons_succ]
                  rfl
                 refine one_ (i := 10) (N := some 69) #[T_,T_,T_,T_,T_,T_,T_,T_,T_,T_,T_,F_,F_] rfl rfl (one_of HT_.out (by kernel_rfl)) (by decide) (fun K hK => ?_)
                 refine Kd.R_append_rows_step (Kd.int .i64) (w0 := w) w.heap.size (by rfl) (.tmp 62) (.tmp 68) 37 3 (.int .i64 0) 8 rfl Try.underlying37 info3 rfl (by decide) (by omega) (.slice Ao52 x7_2.length co52) x7_2 y235 _ _ _ (fun k_ => some k_ ≠ (v230 : Value).ownBlock ∧ some k_ ≠ (v233 : Value).ownBlock ∧ some k_ ≠ (.slice Ao62 y235.length co62 : Value).ownBlock ∧ k_ ≠ gb216) (fun _ => False) rfl rfl ?aO ?aR (fun _ _ h => h) (fun _ h => h.elim) ?aF ?aB ?aS ?aL ?_
                 (case aR => repeat (first | exact (rR HO237.out).2.2 | (with_reducible refine cA ?_ _) | (with_reducible refine cN ?_ _) | (with_reducible refine cD ?_)))
                 (case aB => exact (by repeat (first | (with_reducible first | exact HB.out | apply ba | apply bw | apply b1 | refine bs ?_ GE216.out | refine bs ?_ GE217.out) | exact HB.out)))
                 (case aF => exact (fun k_ hk => ⟨Kd.fresh' (Kd.R_lt (by (with_reducible repeat first | apply rA | apply rN | apply rD); exact HO231.out)) k_ hk, Kd.fresh' (Kd.R_lt (by (with_reducible repeat first | apply rA | apply rN | apply rD); exact HO234.out)) k_ hk, Kd.fresh' (Kd.R_lt (by (with_reducible repeat first | apply rA | apply rN | apply rD); exact HO237.out)) k_ hk, Kd.freshB (g := gb216) (o := .cells #[.int .i64 a1] 3 (0, 0)) (by (with_reducible repeat first | apply bN | apply bD | apply bA); exact BK216.out) k_ hk⟩))
                 (case aO => exact (by (with_reducible repeat first | apply rA | apply rN | apply rD); exact HO_7.out))
                 (case aS => exact (bz (by repeat (first | (with_reducible first | exact HB.out | apply ba | apply bw | apply b1 | refine bs ?_ GE216.out | refine bs ?_ GE217.out) | exact HB.out))))
                 (case aL => have := LMc50.out; omega)
                 intro v239 w61 ho hb hg hat
                 rw [← Ny238.out] at ho
                 have n0_ := As.mk (blk_grown (g := gb216) (o := .cells #[.int .i64 a1] 3 (0, 0)) (by (with_reducible repeat first | apply bN | apply bD | apply bA); exact BK216.out) hg (Kd.R_away HO_7.out (fun _ hk => hk.2.2.2)))
                 have n1_ := As.mk (blk_grown (g := gb217) (o := .cells #[.int .i64 0, .int .i64 0, .int .i64 0, .int .i64 0, .int .i64 0, .slice none 0 0, .int .i64 0, .slice none 0 0] 51 (0, 0)) (by (with_reducible repeat first | apply bN | apply bD | apply bA); exact BK217.out) hg (Kd.R_ne HO_7.out BK217.out (by decide)))
                 have n2_ := As.mk (Kd.R_after (ok := (fun k_ => some k_ ≠ (v233 : Value).ownBlock ∧ some k_ ≠ (.slice Ao62 y235.length co62 : Value).ownBlock ∧ k_ ≠ gb216)) (by (with_reducible repeat first | apply rA | apply rN | apply rD); exact Kd.R_mono HO231.out (fun _ hk => ⟨⟨hk.1, ⟨hk.2.1, hk.2.2.2⟩⟩, hk.2.2.1⟩)) hg hat)
                 have n3_ := As.mk (Kd.R_after (ok := (fun k_ => some k_ ≠ (v230 : Value).ownBlock ∧ some k_ ≠ (.slice Ao62 y235.length co62 : Value).ownBlock ∧ k_ ≠ gb216)) (by (with_reducible repeat first | apply rA | apply rN | apply rD); exact Kd.R_mono HO234.out (fun _ hk => ⟨⟨hk.1, ⟨hk.2.1, hk.2.2.2⟩⟩, hk.2.2.1⟩)) hg hat)
                 have n4_ := As.mk (Kd.R_after (ok := (fun k_ => some k_ ≠ (v230 : Value).ownBlock ∧ some k_ ≠ (v233 : Value).ownBlock ∧ k_ ≠ gb216)) (by (with_reducible repeat first | apply rA | apply rN | apply rD); exact Kd.R_mono HO237.out (fun _ hk => ⟨⟨hk.1, ⟨hk.2.1, hk.2.2.2⟩⟩, hk.2.2.1⟩)) hg hat)
                 have n5_ := As.mk (hb)
                 have n6_ := As.mk (ho)
                 clear BK216
                 clear BK217
                 clear HO231
                 clear HO234
                 clear HO237
                 clear HB
                 clear HO_7
                 have BK216 := n0_
                 have BK217 := n1_
                 have HO231 := n2_
                 have HO234 := n3_
                 have HO237 := n4_
                 have HB := n5_
                 have HO240 := n6_
                 clear n0_ n1_ n2_ n3_ n4_ n5_ n6_
                 clear ho hb hg hat
                 refine hK.out _ _ trivial (fun hHeld => ?_)
                 clear hK K
                 refine norm_ (a' := ?_) ?_ ?_
                 rotate_left
                 ·show Act.put _ (some 69) _ = _
                  simp only [Act.put, List.setIfInBounds_toArray, List.set_cons_zero, List.set_cons_succ, i64_w, i32_w]
                  rfl
                 refine pure_ (i := 11) (N := some 8) (v := ?_) (a' := ?_) #[T_,T_,T_,T_,T_,T_,T_,T_,T_,T_,T_,T_,F_] rfl rfl (any_of HT_.out (by kernel_rfl)) (fun _ _ _ h => h) (Or.inl ⟨by rfl, ?_⟩) ?_ ?_
                 rotate_left
                 ·intro w'
                  go_simp
                  with_reducible rfl
                 rotate_left
                 ·simp only [Act.put, List.setIfInBounds_toArray, List.set_cons_zero, List.set_cons_succ, i64_w, i32_w]
                  rfl
                 refine pure_ (i := 12) (N := some 7) (v := ?_) (a' := ?_) #[T_,T_,T_,T_,T_,T_,T_,T_,T_,T_,T_,T_,T_] rfl rfl (any_of HT_.out (by kernel_rfl)) (fun _ _ _ h => h) (Or.inl ⟨by rfl, ?_⟩) ?_ ?_
                 rotate_left
                 ·intro w'
                  go_simp
                  with_reducible rfl
                 rotate_left
                 ·simp only [Act.put, List.setIfInBounds_toArray, List.set_cons_zero, List.set_cons_succ, i64_w, i32_w]
                  rfl
                 refine done_ (done_of HT_.out (by kernel_rfl)) ?_
                 try go_wp2
                 go_roundg k3
                 case measure => have := HJ2.out; have := HK2.out; have := HK3.out; omega
                 case rel => exact ⟨(y238), (y232), (wrap64 (x43_2 + 1)), (by first | rfl | (simp; done) | (simp [*]; done)), H', ⟨by have := HJ2.out; have := HK2.out; have := HK3.out; omega⟩, ⟨by (with_reducible repeat first | apply rA | apply rN | apply rD); exact Kd.R_mono HO240.out (by first | exact (fun _ hk => ⟨hk.2.1, hk.2.2.2⟩) | (intro k_ hk_; simp [hk_]; done) | (intro k_ hk_; simp_all))⟩, ⟨by (with_reducible repeat first | apply rA | apply rN | apply rD); exact Kd.R_mono HO234.out (by first | exact (fun _ hk => ⟨hk.2, hk.1.2.2⟩) | (intro k_ hk_; simp [hk_]; done) | (intro k_ hk_; simp_all))⟩, ⟨by (with_reducible repeat first | apply bN | apply bD | apply bA); exact BK216.out⟩, ⟨by (with_reducible repeat first | apply bN | apply bD | apply bA); exact BK217.out⟩, ⟨by repeat (first | (with_reducible first | exact HB.out | apply ba | apply bw | apply b1 | refine bs ?_ GE216.out | refine bs ?_ GE217.out) | exact HB.out)⟩⟩
                ·rw [if_neg c50] at H
                 exact absurd H (by simp)
               ·rw [if_neg c47] at H
                exact absurd H (by simp)
             ·rw [if_neg c37] at H
              exact absurd H (by simp)
          ·rw [if_neg c36] at H
           exact absurd H (by simp)
         ·rw [if_neg c35] at H
          exact absurd H (by simp)
        ·rw [if_neg c34] at H
         have c34b0 : decide (x43_2 < (l0.length : Int)) = false := decide_eq_false c34
         clear c34
         have H' := As.mk H
         clear H
         go_wp2
         (try simp only [Act.put, List.setIfInBounds_toArray, List.set_cons_zero, List.set_cons_succ])
         go_loopg [8] k2 (fun kq v8 w' => ∃ (x8_3 : List Int), As (impl_SparseOf.l2 kq l0 t221 x7_2 x8_3 a1 = some (r1, r2, r3, r4, r5, r6, r7, r8, r9)) ∧ As (kq ≤ k2) ∧ As (Kd.R (Kd.int .i64) 3 w' w.heap.size (fun k_ => some k_ ≠ (v8 : Value).ownBlock ∧ k_ ≠ gb216) u7 x7_2) ∧ As (Kd.R (Kd.int .i64) 3 w' w.heap.size (fun k_ => some k_ ≠ (u7 : Value).ownBlock ∧ k_ ≠ gb216) v8 x8_3) ∧ As (w'.heap[gb216]? = some (.cells #[.int .i64 a1] 3 (0, 0))) ∧ As (w'.heap[gb217]? = some (.cells #[.int .i64 0, .int .i64 0, .int .i64 0, .int .i64 0, .int .i64 0, (.slice none 0 0), .int .i64 0, (.slice none 0 0)] 51 (0, 0))) ∧ As (Below w.heap.size w w'))
         case atStart => exact ⟨(x8_2), H', ⟨Nat.le_refl _⟩, ⟨by (with_reducible repeat first | apply rA | apply rN | apply rD); exact HO_7.out⟩, ⟨by (with_reducible repeat first | apply rA | apply rN | apply rD); exact HO_8.out⟩, ⟨by (with_reducible repeat first | apply bN | apply bD | apply bA); exact BK216.out⟩, ⟨by (with_reducible repeat first | apply bN | apply bD | apply bA); exact BK217.out⟩, ⟨by repeat (first | (with_reducible first | exact HB.out | apply ba | apply bw | apply b1 | refine bs ?_ GE216.out | refine bs ?_ GE217.out) | exact HB.out)⟩⟩
         case round =>
          clear H'
          try clear p2
          try clear q2
          try clear hx2
          try clear c3
          try clear c4
          try clear c5
          try clear p6
          try clear p22
          try clear q22
          try clear hx22
          try clear c34
          try clear c34b0
          try clear c35
          try clear c36
          try clear c37
          try clear c37b0
          try clear c37b1
          try clear c39
          try clear c39b0
          try clear c40
          try clear c47
          try clear c48
          try clear c48b0
          try clear c50
          try clear hcz29_4
          try clear hcz29_5
          try clear hcz29_6
          try clear hcz29_7
          try clear hcz31_0
          try clear hcz33_0
          try clear hfz12_0
          try clear hfz15_0
          try clear hfz17_0
          try clear hfz20_0
          try clear hfz20_1
          try clear hfz20_2
          try clear hfz20_3
          try clear hfz20_4
          try clear hfz20_5
          try clear hfz20_6
          try clear hfz20_7
          try clear hfz26_0
          try clear hfz28_0
          try clear hfz29_0
          try clear hfz29_1
          try clear hfz29_2
          try clear hfz29_3
          try clear hfz29_4
          try clear hfz29_5
          try clear hfz29_6
          try clear hfz29_7
          try clear hfz31_0
          try clear hfz33_0
          try clear hx222_0
          try clear p2
          try clear p222
          try clear p6
          try clear q222
          obtain ⟨x8_3, HA, HK3, HO_7, HO_8, BK216, BK217, HB⟩ := hrel
          cases gk with
          | zero => exact absurd HA.out (by simp [impl_SparseOf.l2])
          | succ k3 =>
           have H := HA.out
           clear HA
           simp only [impl_SparseOf.l2] at H
           by_cases c63 : 0 ≤ t221
           ·rw [if_pos c63] at H
            have c63b0 := eq_true c63
            have c63b1 : decide (0 ≤ t221) = true := decide_eq_true c63
            clear c63
            obtain ⟨ji64, hji64⟩ : ∃ j_ : Int, (shr .i64 a1 t221) = j_ := ⟨_, rfl⟩
            replace H : (if (wrap64 ((x8_3.length : Int) - (x7_2.length : Int))) ≤ (ji64) then ((some (([0] : List Int) : List Int)).bind fun y241 => (if x8_3.length + y241.length < 17592186044416 then (impl_SparseOf.l2 k3 l0 t221 x7_2 (x8_3 ++ y241) a1) else (none))) else ((impl_PackOf.f k3 x7_2 t221).bind fun bt247 => (if bt247.2.2.2.2 = true then ((impl_bitsOf.f k3 x8_3).bind fun bt255 => (some (a1, (l0.length : Int), bt247.1, bt247.2.1, bt247.2.2.1, bt247.2.2.2.1, bt255.1, bt255.2, true))) else (some (0, 0, 0, 0, 0, ([] : List Int), 0, ([] : List Int), false))))) = some (r1, r2, r3, r4, r5, r6, r7, r8, r9) := by first | (rw [hji64] at H; exact H) | (simp only [hji64] at H ⊢; exact H)
            have hji64_ : (a1 / 2 ^ min t221.toNat 64) = ji64 := hji64
            have hji64z : t221 ≤ 64 → (a1 / 2 ^ t221.toNat) = ji64 := shr_small hji64
            clear hji23 hji23_ hji23z
            by_cases c65 : (wrap64 ((x8_3.length : Int) - (x7_2.length : Int))) ≤ (ji64)
            ·rw [if_pos c65] at H
             have c65b0 : decide ((wrap64 ((x8_3.length : Int) - (x7_2.length : Int))) ≤ (ji64)) = true := decide_eq_true c65
             clear c65
             obtain ⟨y241, hy241⟩ : ∃ y_ : List Int, y_ = (([0] : List Int)) := ⟨_, rfl⟩
             replace H : (if x8_3.length + y241.length < 17592186044416 then (impl_SparseOf.l2 k3 l0 t221 x7_2 (x8_3 ++ y241) a1) else (none)) = some (r1, r2, r3, r4, r5, r6, r7, r8, r9) := by first | (rw [hy241]; with_reducible exact H) | (have H2_ := (Option.bind_some _ _).symm.trans H; rw [hy241]; with_reducible exact H2_) | (have H2_ := (Option.bind_some _ _).symm.trans H; with_reducible exact H2_) | with_reducible exact H | (rw [hy241]; exact H) | exact H
             have Ny241 := As.mk hy241
             clear hy241
             by_cases c66 : x8_3.length + y241.length < 17592186044416
             ·rw [if_pos c66] at H
              have LMc66 := As.mk c66
              clear c66
              obtain ⟨y244, hy244⟩ : ∃ y_ : List Int, y_ = (x8_3 ++ y241) := ⟨_, rfl⟩
              replace H : (impl_SparseOf.l2 k3 l0 t221 x7_2 y244 a1) = some (r1, r2, r3, r4, r5, r6, r7, r8, r9) := by first | (rw [hy244]; with_reducible exact H) | (have H2_ := (Option.bind_some _ _).symm.trans H; rw [hy244]; with_reducible exact H2_) | (have H2_ := (Option.bind_some _ _).symm.trans H; with_reducible exact H2_) | with_reducible exact H | (rw [hy244]; exact H) | exact H
              have Ny244 := As.mk hy244
              clear hy244
              have H' := As.mk H
              clear H
              obtain ⟨Ao67, co67, eo67⟩ := rS HO_8.out
              subst eo67
              obtain ⟨Ao68, co68, eo68⟩ := rS HO_7.out
              subst eo68
              have hnb69 := NB216_217.out
              have hnc69 := NB217_216.out
              have hcz70_0 : wr.cell? ⟨gb216, 0, none⟩ = some (.int .i64 a1) := (blk_cell BK216.out 0).trans rfl
              have hfz70_0 := blk_frozen BK216.out 0
              go_wp2_with (first | ((with_reducible refine gd (N := 81) rfl ?_); refine Kd.R_lit (Kd.int .i64) _ 3 ?hg (N := 81) ?hd (xs := ([0] : List Int)) (inner := [.int .i64 0]) (ok := fun _ => True) (okp := fun _ => True) ?hr ?hp (fun _ hk => hk) trivial (Below.refl _ _) (Nat.le_refl _) (by simp) ?_; (case hd => rfl); (case hg => rfl); (case hr => first | (go_simp; done) | (go_simp; rfl)); (case hp => exact (Reps.one (show Kd.M (Kd.int .i64) _ _ _ 0 [.int .i64 0] from rfl) (Reps.none _ _))); intro v242 w71 ho72 hb hg_ hnew_; clear hg_ hnew_; (first | rw [← Ny241.out] at ho72 | (simp only [Int.reduceToNat] at ho72; rw [← Ny241.out] at ho72)); have n0_ := As.mk (rE (by (with_reducible repeat first | apply rA | apply rN | apply rD); exact HO_7.out) (Kd.R_base ho72) hb); have n1_ := As.mk (rE (by (with_reducible repeat first | apply rA | apply rN | apply rD); exact HO_8.out) (Kd.R_base ho72) hb); have n2_ := As.mk (rL (Kd.R_newB (rW (rW ho72 (Kd.R_lt (by (with_reducible repeat first | apply rA | apply rN | apply rD); exact HO_7.out))) (Kd.R_lt (by (with_reducible repeat first | apply rA | apply rN | apply rD); exact HO_8.out))) (g := gb216) (o := .cells #[.int .i64 a1] 3 (0, 0)) (by (with_reducible repeat first | apply bN | apply bD | apply bA); exact BK216.out)) (bz (by repeat (first | (with_reducible first | exact HB.out | apply ba | apply bw | apply b1 | refine bs ?_ GE216.out | refine bs ?_ GE217.out) | exact HB.out)))); have n3_ := As.mk (bb (g := gb216) (o := .cells #[.int .i64 a1] 3 (0, 0)) (by (with_reducible repeat first | apply bN | apply bD | apply bA); exact BK216.out) hb); have n4_ := As.mk (bb (g := gb217) (o := .cells #[.int .i64 0, .int .i64 0, .int .i64 0, .int .i64 0, .int .i64 0, .slice none 0 0, .int .i64 0, .slice none 0 0] 51 (0, 0)) (by (with_reducible repeat first | apply bN | apply bD | apply bA); exact BK217.out) hb); have n5_ := As.mk (bt (by repeat (first | (with_reducible first | exact HB.out | apply ba | apply bw | apply b1 | refine bs ?_ GE216.out | refine bs ?_ GE217.out) | exact HB.out)) hb); clear HO_7; clear HO_8; clear BK216; clear BK217; clear HB; have HO_7 := n0_; have HO_8 := n1_; have HO243 := n2_; have BK216 := n3_; have BK217 := n4_; have HB := n5_; clear n0_ n1_ n2_ n3_ n4_ n5_; clear hb ho72; obtain ⟨Ao74, co74, eo74⟩ := rS HO243.out; subst eo74) | ((with_reducible refine gate_builtin (b := .append) (xs := #[.tmp 80, .tmp 81]) rfl ?_); at_builtin; refine Kd.R_append_rows (Kd.int .i64) (w0 := w) w.heap.size rfl (.tmp 80) (.tmp 81) 37 3 (.int .i64 0) 8 rfl Try.underlying37 info3 rfl (by decide) (by omega) (.slice Ao67 x8_3.length co67) x8_3 y241 _ _ _ (fun k_ => some k_ ≠ (.slice Ao68 x7_2.length co68 : Value).ownBlock ∧ some k_ ≠ (.slice Ao74 y241.length co74 : Value).ownBlock ∧ k_ ≠ gb216) (fun _ => False) rfl rfl ?aO ?aR (fun _ _ h => h) (fun _ h => h.elim) ?aF ?aB ?aS ?aL ?_; (case aR => repeat (first | exact (rR HO243.out).2.2 | (with_reducible refine cA ?_ _) | (with_reducible refine cN ?_ _) | (with_reducible refine cD ?_))); (case aB => exact (by repeat (first | (with_reducible first | exact HB.out | apply ba | apply bw | apply b1 | refine bs ?_ GE216.out | refine bs ?_ GE217.out) | exact HB.out))); (case aF => exact (fun k_ hk => ⟨Kd.fresh' (Kd.R_lt (by (with_reducible repeat first | apply rA | apply rN | apply rD); exact HO_7.out)) k_ hk, Kd.fresh' (Kd.R_lt (by (with_reducible repeat first | apply rA | apply rN | apply rD); exact HO243.out)) k_ hk, Kd.freshB (g := gb216) (o := .cells #[.int .i64 a1] 3 (0, 0)) (by (with_reducible repeat first | apply bN | apply bD | apply bA); exact BK216.out) k_ hk⟩)); (case aO => exact (by (with_reducible repeat first | apply rA | apply rN | apply rD); exact Kd.R_mono HO_8.out (fun _ hk => ⟨hk.1.1, ⟨hk.2, hk.1.2⟩⟩))); (case aS => exact (bz (by repeat (first | (with_reducible first | exact HB.out | apply ba | apply bw | apply b1 | refine bs ?_ GE216.out | refine bs ?_ GE217.out) | exact HB.out)))); (case aL => have := LMc66.out; omega); intro v245 w73 ho hb hg hat; rw [← Ny244.out] at ho; have n0_ := As.mk (Kd.R_after (ok := (fun k_ => some k_ ≠ (.slice Ao74 y241.length co74 : Value).ownBlock ∧ k_ ≠ gb216)) (by (with_reducible repeat first | apply rA | apply rN | apply rD); exact Kd.R_mono HO_7.out (fun _ hk => ⟨⟨hk.2, hk.1.2⟩, hk.1.1⟩)) hg hat); have n1_ := As.mk (blk_grown (g := gb216) (o := .cells #[.int .i64 a1] 3 (0, 0)) (by (with_reducible repeat first | apply bN | apply bD | apply bA); exact BK216.out) hg (Kd.R_away HO_8.out (fun _ hk => hk.1.2))); have n2_ := As.mk (blk_grown (g := gb217) (o := .cells #[.int .i64 0, .int .i64 0, .int .i64 0, .int .i64 0, .int .i64 0, .slice none 0 0, .int .i64 0, .slice none 0 0] 51 (0, 0)) (by (with_reducible repeat first | apply bN | apply bD | apply bA); exact BK217.out) hg (Kd.R_ne HO_8.out BK217.out (by decide))); have n3_ := As.mk (Kd.R_after (ok := (fun k_ => some k_ ≠ (.slice Ao68 x7_2.length co68 : Value).ownBlock ∧ k_ ≠ gb216)) (by (with_reducible repeat first | apply rA | apply rN | apply rD); exact Kd.R_mono HO243.out (fun _ hk => ⟨⟨hk.1.1.2, hk.2⟩, hk.1.2⟩)) hg hat); have n4_ := As.mk (hb); have n5_ := As.mk (ho); clear HO_7; clear BK216; clear BK217; clear HO243; clear HB; clear HO_8; have HO_7 := n0_; have BK216 := n1_; have BK217 := n2_; have HO243 := n3_; have HB := n4_; have HO246 := n5_; clear n0_ n1_ n2_ n3_ n4_ n5_; clear ho hb hg hat))
              go_roundg k3
              case measure => have := HJ2.out; have := HK2.out; have := HK3.out; omega
              case rel => exact ⟨(y244), H', ⟨by have := HJ2.out; have := HK2.out; have := HK3.out; omega⟩, ⟨by (with_reducible repeat first | apply rA | apply rN | apply rD); exact Kd.R_mono HO_7.out (by first | exact (fun _ hk => ⟨hk.2, hk.1.2⟩) | (intro k_ hk_; simp [hk_]; done) | (intro k_ hk_; simp_all))⟩, ⟨by (with_reducible repeat first | apply rA | apply rN | apply rD); exact Kd.R_mono HO246.out (by first | exact (fun _ hk => ⟨hk.1, hk.2.2⟩) | (intro k_ hk_; simp [hk_]; done) | (intro k_ hk_; simp_all))⟩, ⟨by (with_reducible repeat first | apply bN | apply bD | apply bA); exact BK216.out⟩, ⟨by (with_reducible repeat first | apply bN | apply bD | apply bA); exact BK217.out⟩, ⟨by repeat (first | (with_reducible first | exact HB.out | apply ba | apply bw | apply b1 | refine bs ?_ GE216.out | refine bs ?_ GE217.out) | exact HB.out)⟩⟩
             ·rw [if_neg c66] at H
              exact absurd H (by simp)
            ·rw [if_neg c65] at H
             have c65b0 : decide ((wrap64 ((x8_3.length : Int) - (x7_2.length : Int))) ≤ (ji64)) = false := decide_eq_false c65
             clear c65
             replace H := Option.bind_eq_some_iff.mp H
             obtain ⟨⟨t247, t248, t249, t250, t253⟩, A750, H⟩ := H
             replace H : (if t253 = true then ((impl_bitsOf.f k3 x8_3).bind fun bt255 => (some (a1, (l0.length : Int), t247, t248, t249, t250, bt255.1, bt255.2, true))) else (some (0, 0, 0, 0, 0, ([] : List Int), 0, ([] : List Int), false))) = some (r1, r2, r3, r4, r5, r6, r7, r8, r9) := H
             have A75 := As.mk A750
             clear A750
             by_cases c76 : t253 = true
             ·subst c76
              have H1 : ((impl_bitsOf.f k3 x8_3).bind fun bt255 => (some (a1, (l0.length : Int), t247, t248, t249, t250, bt255.1, bt255.2, true))) = some (r1, r2, r3, r4, r5, r6, r7, r8, r9) := by rw [if_pos rfl] at H; exact H
              clear H
              have H := H1
              clear H1
              replace H := Option.bind_eq_some_iff.mp H
              obtain ⟨⟨t255, t256⟩, A770, H⟩ := H
              replace H : (some (a1, (l0.length : Int), t247, t248, t249, t250, t255, t256, true)) = some (r1, r2, r3, r4, r5, r6, r7, r8, r9) := H
              have A77 := As.mk A770
              clear A770
              simp only [Option.some.injEq, Prod.mk.injEq] at H
              obtain ⟨rfl, rfl, rfl, rfl, rfl, rfl, rfl, rfl, rfl⟩ := H
              obtain ⟨Ao78, co78, eo78⟩ := rS HO_8.out
              subst eo78
              obtain ⟨Ao79, co79, eo79⟩ := rS HO_7.out
              subst eo79
              have hnb80 := NB216_217.out
              have hnc80 := NB217_216.out
              have hcz81_0 : wr.cell? ⟨gb216, 0, none⟩ = some (.int .i64 a1) := (blk_cell BK216.out 0).trans rfl
              have hfz81_0 := blk_frozen BK216.out 0
              try go_wp2_with (first | ((with_reducible refine gc (f := 19) rfl ?_); refine goesL_ (some 86) rfl rfl Try.func19 (by kernel_rfl) rfl #[.slice Ao79 x7_2.length co79, .int .i64 t221] rfl (by (try simp only [List.map_toArray, List.map_cons, List.map_nil]); first | done | rfl | (simp only [List.length_drop, List.length_take]; rfl)) ?_; (with_reducible refine (impl_PackOf.calls k3 _ _ x7_2 t221 t247 t248 t249 t250 true _ ?side1 ?side2 A75.out).mono ?_); (case side1 => repeat (first | exact (rR HO_7.out).2.2 | (with_reducible refine cA ?_ _) | (with_reducible refine cN ?_ _) | (with_reducible refine cD ?_))); (case side2 => exact (rR HO_7.out).2.1); rintro e w82 ⟨v251, rfl, ho0, hb⟩; refine ⟨_, rfl, ?_⟩; have n0_ := As.mk (rB (by (with_reducible repeat first | apply rA | apply rN | apply rD); exact HO_7.out) hb); have n1_ := As.mk (rB (by (with_reducible repeat first | apply rA | apply rN | apply rD); exact HO_8.out) hb); have n2_ := As.mk (rL ho0 (bz (by repeat (first | (with_reducible first | exact HB.out | apply ba | apply bw | apply b1 | refine bs ?_ GE216.out | refine bs ?_ GE217.out) | exact HB.out)))); have n3_ := As.mk (bb (g := gb216) (o := .cells #[.int .i64 a1] 3 (0, 0)) (by (with_reducible repeat first | apply bN | apply bD | apply bA); exact BK216.out) hb); have n4_ := As.mk (bb (g := gb217) (o := .cells #[.int .i64 0, .int .i64 0, .int .i64 0, .int .i64 0, .int .i64 0, .slice none 0 0, .int .i64 0, .slice none 0 0] 51 (0, 0)) (by (with_reducible repeat first | apply bN | apply bD | apply bA); exact BK217.out) hb); have n5_ := As.mk (bt (by repeat (first | (with_reducible first | exact HB.out | apply ba | apply bw | apply b1 | refine bs ?_ GE216.out | refine bs ?_ GE217.out) | exact HB.out)) hb); clear HO_7; clear HO_8; clear BK216; clear BK217; clear HB; have HO_7 := n0_; have HO_8 := n1_; have HO252 := n2_; have BK216 := n3_; have BK217 := n4_; have HB := n5_; clear n0_ n1_ n2_ n3_ n4_ n5_; (try clear hb); (try clear hb2); (try clear hk); (try clear hi); (try clear ho0)) | ((with_reducible refine gd (N := 11) rfl ?_); refine box_event ?hg (N := 11) ?hd (cs := #[.int .i64 0, .int .i64 0, .int .i64 0, .slice none 0 0]) (t := 31) ?hr ?_; (case hd => rfl); (case hg => rfl); (case hr => first | (go_simp; done) | (go_simp; rfl)); intro gb254 hg w83 hbox hb; have n0_ := As.mk (rB (by (with_reducible repeat first | apply rA | apply rN | apply rD); exact HO_7.out) hb); have n1_ := As.mk (rB (by (with_reducible repeat first | apply rA | apply rN | apply rD); exact HO_8.out) hb); have n2_ := As.mk (rB (by (with_reducible repeat first | apply rA | apply rN | apply rD); exact HO252.out) hb); have n3_ := As.mk (bb (g := gb216) (o := .cells #[.int .i64 a1] 3 (0, 0)) (by (with_reducible repeat first | apply bN | apply bD | apply bA); exact BK216.out) hb); have n4_ := As.mk (bb (g := gb217) (o := .cells #[.int .i64 0, .int .i64 0, .int .i64 0, .int .i64 0, .int .i64 0, .slice none 0 0, .int .i64 0, .slice none 0 0] 51 (0, 0)) (by (with_reducible repeat first | apply bN | apply bD | apply bA); exact BK217.out) hb); have n5_ := As.mk (bt (by repeat (first | (with_reducible first | exact HB.out | apply ba | apply bw | apply b1 | refine bs ?_ GE216.out | refine bs ?_ GE217.out) | exact HB.out)) hb); have n6_ := As.mk (hbox); have n7_ := As.mk ((by rw [hg]; exact (bz (by repeat (first | (with_reducible first | exact HB.out | apply ba | apply bw | apply b1 | refine bs ?_ GE216.out | refine bs ?_ GE217.out) | exact HB.out))) : w.heap.size ≤ gb254)); have n8_ := n7_; have n9_ := As.mk ((by rw [hg]; exact Nat.ne_of_lt (blk_lt (g := gb216) (o := .cells #[.int .i64 a1] 3 (0, 0)) (by (with_reducible repeat first | apply bN | apply bD | apply bA); exact BK216.out)) : gb216 ≠ gb254)); have n10_ := As.mk n9_.out.symm; have n11_ := As.mk ((by rw [hg]; exact Nat.ne_of_lt (blk_lt (g := gb217) (o := .cells #[.int .i64 0, .int .i64 0, .int .i64 0, .int .i64 0, .int .i64 0, .slice none 0 0, .int .i64 0, .slice none 0 0] 51 (0, 0)) (by (with_reducible repeat first | apply bN | apply bD | apply bA); exact BK217.out)) : gb217 ≠ gb254)); have n12_ := As.mk n11_.out.symm; clear HO_7; clear HO_8; clear HO252; clear BK216; clear BK217; clear HB; have HO_7 := n0_; have HO_8 := n1_; have HO252 := n2_; have BK216 := n3_; have BK217 := n4_; have HB := n5_; have BK254 := n6_; have GW254 := n7_; have GE254 := n8_; have NB216_254 := n9_; have NB254_216 := n10_; have NB217_254 := n11_; have NB254_217 := n12_; clear n0_ n1_ n2_ n3_ n4_ n5_ n6_ n7_ n8_ n9_ n10_ n11_ n12_; clear hb hbox hg; have hnb84 := NB254_216.out; have hnc84 := NB216_254.out; have hnb85 := NB254_217.out; have hnc85 := NB217_254.out; have hcz86_0 : w83.cell? ⟨gb254, 0, none⟩ = some (.int .i64 0) := (blk_cell BK254.out 0).trans rfl; have hcz86_1 : w83.cell? ⟨gb254, 1, none⟩ = some (.int .i64 0) := (blk_cell BK254.out 1).trans rfl; have hcz86_2 : w83.cell? ⟨gb254, 2, none⟩ = some (.int .i64 0) := (blk_cell BK254.out 2).trans rfl; have hcz86_3 : w83.cell? ⟨gb254, 3, none⟩ = some (.slice none 0 0) := (blk_cell BK254.out 3).trans rfl; have hfz86_0 := blk_frozen BK254.out 0; have hfz86_1 := blk_frozen BK254.out 1; have hfz86_2 := blk_frozen BK254.out 2; have hfz86_3 := blk_frozen BK254.out 3; obtain ⟨Ao87, co87, eo87⟩ := rS HO252.out; subst eo87))
              have n0_ : As (Kd.R (Kd.int .i64) 3 ((((w83.setCell ⟨gb254, 0, none⟩ (.int .i64 t247)).setCell ⟨gb254, 1, none⟩ (.int .i64 t248)).setCell ⟨gb254, 2, none⟩ (.int .i64 t249)).setCell ⟨gb254, 3, none⟩ (.slice Ao87 t250.length co87)) w.heap.size (fun k_ => some k_ ≠ (.slice Ao78 x8_3.length co78 : Value).ownBlock ∧ k_ ≠ gb216) (.slice Ao79 x7_2.length co79) x7_2) := ⟨by (with_reducible repeat first | apply rA | apply rN | apply rD); exact Kd.R_mono (Kd.R_far (p := ⟨gb254, 3, none⟩) (Kd.R_far (p := ⟨gb254, 2, none⟩) (Kd.R_far (p := ⟨gb254, 1, none⟩) (Kd.R_far (p := ⟨gb254, 0, none⟩) (Kd.R_types HO_7.out BK254.out (by decide)) (fun _ hk => hk.2) (.int .i64 t247)) (fun _ hk => hk.2) (.int .i64 t248)) (fun _ hk => hk.2) (.int .i64 t249)) (fun _ hk => hk.2) (.slice Ao87 t250.length co87)) (by first | exact (fun _ hk => ⟨hk.1.1, hk.1.2⟩) | (intro k_ hk_; simp [hk_]; done) | (intro k_ hk_; simp_all))⟩
              have n1_ : As (Kd.R (Kd.int .i64) 3 ((((w83.setCell ⟨gb254, 0, none⟩ (.int .i64 t247)).setCell ⟨gb254, 1, none⟩ (.int .i64 t248)).setCell ⟨gb254, 2, none⟩ (.int .i64 t249)).setCell ⟨gb254, 3, none⟩ (.slice Ao87 t250.length co87)) w.heap.size (fun k_ => some k_ ≠ (.slice Ao79 x7_2.length co79 : Value).ownBlock ∧ k_ ≠ gb216) (.slice Ao78 x8_3.length co78) x8_3) := ⟨by (with_reducible repeat first | apply rA | apply rN | apply rD); exact Kd.R_mono (Kd.R_far (p := ⟨gb254, 3, none⟩) (Kd.R_far (p := ⟨gb254, 2, none⟩) (Kd.R_far (p := ⟨gb254, 1, none⟩) (Kd.R_far (p := ⟨gb254, 0, none⟩) (Kd.R_types HO_8.out BK254.out (by decide)) (fun _ hk => hk.2) (.int .i64 t247)) (fun _ hk => hk.2) (.int .i64 t248)) (fun _ hk => hk.2) (.int .i64 t249)) (fun _ hk => hk.2) (.slice Ao87 t250.length co87)) (by first | exact (fun _ hk => ⟨hk.1.1, hk.1.2⟩) | (intro k_ hk_; simp [hk_]; done) | (intro k_ hk_; simp_all))⟩
              have n2_ : As (Kd.R (Kd.int .u64) 86 ((((w83.setCell ⟨gb254, 0, none⟩ (.int .i64 t247)).setCell ⟨gb254, 1, none⟩ (.int .i64 t248)).setCell ⟨gb254, 2, none⟩ (.int .i64 t249)).setCell ⟨gb254, 3, none⟩ (.slice Ao87 t250.length co87)) w.heap.size (fun _ => True) (.slice Ao87 t250.length co87) t250) := ⟨by (with_reducible repeat first | apply rA | apply rN | apply rD); exact Kd.R_mono (Kd.R_far (p := ⟨gb254, 3, none⟩) (Kd.R_far (p := ⟨gb254, 2, none⟩) (Kd.R_far (p := ⟨gb254, 1, none⟩) (Kd.R_far (p := ⟨gb254, 0, none⟩) (Kd.R_types HO252.out BK254.out (by decide)) (fun _ hk => hk.2) (.int .i64 t247)) (fun _ hk => hk.2) (.int .i64 t248)) (fun _ hk => hk.2) (.int .i64 t249)) (fun _ hk => hk.2) (.slice Ao87 t250.length co87)) (fun _ hk => trivial)⟩
              have n3_ : As (((((w83.setCell ⟨gb254, 0, none⟩ (.int .i64 t247)).setCell ⟨gb254, 1, none⟩ (.int .i64 t248)).setCell ⟨gb254, 2, none⟩ (.int .i64 t249)).setCell ⟨gb254, 3, none⟩ (.slice Ao87 t250.length co87)).heap[gb216]? = some (.cells #[.int .i64 a1] 3 (0, 0))) := ⟨by (with_reducible repeat first | apply bN | apply bD | apply bA); refine blk_far ?_ NB216_254.out _; (with_reducible repeat first | apply bN | apply bD | apply bA); refine blk_far ?_ NB216_254.out _; (with_reducible repeat first | apply bN | apply bD | apply bA); refine blk_far ?_ NB216_254.out _; (with_reducible repeat first | apply bN | apply bD | apply bA); refine blk_far ?_ NB216_254.out _; (with_reducible repeat first | apply bN | apply bD | apply bA); exact BK216.out⟩
              have n4_ : As (((((w83.setCell ⟨gb254, 0, none⟩ (.int .i64 t247)).setCell ⟨gb254, 1, none⟩ (.int .i64 t248)).setCell ⟨gb254, 2, none⟩ (.int .i64 t249)).setCell ⟨gb254, 3, none⟩ (.slice Ao87 t250.length co87)).heap[gb217]? = some (.cells #[.int .i64 0, .int .i64 0, .int .i64 0, .int .i64 0, .int .i64 0, .slice none 0 0, .int .i64 0, .slice none 0 0] 51 (0, 0))) := ⟨by (with_reducible repeat first | apply bN | apply bD | apply bA); refine blk_far ?_ NB217_254.out _; (with_reducible repeat first | apply bN | apply bD | apply bA); refine blk_far ?_ NB217_254.out _; (with_reducible repeat first | apply bN | apply bD | apply bA); refine blk_far ?_ NB217_254.out _; (with_reducible repeat first | apply bN | apply bD | apply bA); refine blk_far ?_ NB217_254.out _; (with_reducible repeat first | apply bN | apply bD | apply bA); exact BK217.out⟩
              have n5_ : As (((((w83.setCell ⟨gb254, 0, none⟩ (.int .i64 t247)).setCell ⟨gb254, 1, none⟩ (.int .i64 t248)).setCell ⟨gb254, 2, none⟩ (.int .i64 t249)).setCell ⟨gb254, 3, none⟩ (.slice Ao87 t250.length co87)).heap[gb254]? = some (.cells #[.int .i64 t247, .int .i64 t248, .int .i64 t249, .slice Ao87 t250.length co87] 31 (0, 0))) := ⟨by (with_reducible repeat first | apply bN | apply bD | apply bA); refine blk_put (cs := #[.int .i64 t247, .int .i64 t248, .int .i64 t249, .slice none 0 0]) ?_ 3 _ rfl; (with_reducible repeat first | apply bN | apply bD | apply bA); refine blk_put (cs := #[.int .i64 t247, .int .i64 t248, .int .i64 0, .slice none 0 0]) ?_ 2 _ rfl; (with_reducible repeat first | apply bN | apply bD | apply bA); refine blk_put (cs := #[.int .i64 t247, .int .i64 0, .int .i64 0, .slice none 0 0]) ?_ 1 _ rfl; (with_reducible repeat first | apply bN | apply bD | apply bA); refine blk_put (cs := #[.int .i64 0, .int .i64 0, .int .i64 0, .slice none 0 0]) ?_ 0 _ rfl; (with_reducible repeat first | apply bN | apply bD | apply bA); exact BK254.out⟩
              have n6_ : As (Below w.heap.size w ((((w83.setCell ⟨gb254, 0, none⟩ (.int .i64 t247)).setCell ⟨gb254, 1, none⟩ (.int .i64 t248)).setCell ⟨gb254, 2, none⟩ (.int .i64 t249)).setCell ⟨gb254, 3, none⟩ (.slice Ao87 t250.length co87))) := ⟨by repeat (first | (with_reducible first | exact HB.out | apply ba | apply bw | apply b1 | refine bs ?_ GE216.out | refine bs ?_ GE217.out | refine bs ?_ GE254.out) | exact HB.out)⟩
              (try clear HO_7)
              (try clear HO_8)
              (try clear HO252)
              (try clear BK216)
              (try clear BK217)
              (try clear BK254)
              (try clear HB)
              generalize ((((w83.setCell ⟨gb254, 0, none⟩ (.int .i64 t247)).setCell ⟨gb254, 1, none⟩ (.int .i64 t248)).setCell ⟨gb254, 2, none⟩ (.int .i64 t249)).setCell ⟨gb254, 3, none⟩ (.slice Ao87 t250.length co87)) = w88 at n0_ n1_ n2_ n3_ n4_ n5_ n6_ ⊢
              have HO_7 := n0_
              have HO_8 := n1_
              have HO252 := n2_
              have BK216 := n3_
              have BK217 := n4_
              have BK254 := n5_
              have HB := n6_
              clear n0_ n1_ n2_ n3_ n4_ n5_ n6_
              have n0_ := As.mk (rD HO_7.out)
              have n1_ := As.mk (rD HO_8.out)
              have n2_ := As.mk (rD HO252.out)
              have n3_ := As.mk (bD BK216.out)
              have n4_ := As.mk (bD BK217.out)
              have n5_ := As.mk (bD BK254.out)
              have n6_ := As.mk (b1 HB.out)
              clear HO_7
              clear HO_8
              clear HO252
              clear BK216
              clear BK217
              clear BK254
              clear HB
              have HO_7 := n0_
              have HO_8 := n1_
              have HO252 := n2_
              have BK216 := n3_
              have BK217 := n4_
              have BK254 := n5_
              have HB := n6_
              clear n0_ n1_ n2_ n3_ n4_ n5_ n6_
              refine start_ (n := 9) (S := fun w' => w'.cell? ⟨gb216, 0, none⟩ = some (.int .i64 a1) ∧ w'.cell? ⟨gb254, 0, none⟩ = some (.int .i64 t247) ∧ w'.cell? ⟨gb254, 1, none⟩ = some (.int .i64 t248) ∧ w'.cell? ⟨gb254, 2, none⟩ = some (.int .i64 t249) ∧ w'.cell? ⟨gb254, 3, none⟩ = some (.slice Ao87 t250.length co87)) (ds := []) #[F_,F_,F_,F_,F_,F_,F_,F_,F_] (by kernel_rfl) rfl rfl ⟨(blk_cell BK216.out 0).trans rfl, (blk_cell BK254.out 0).trans rfl, (blk_cell BK254.out 1).trans rfl, (blk_cell BK254.out 2).trans rfl, (blk_cell BK254.out 3).trans rfl⟩ (fun hHeld => ?_); refine with_tabW impl_SparseOf.tab19 impl_SparseOf.bits19 (fun HT_ HW_ => ?_)
              generalize w88.drew = w89 at HO_7 HO_8 HO252 BK216 BK217 BK254 HB hHeld ⊢
              refine pure_ (i := 1) (N := some 93) (v := ?_) (a' := ?_) #[F_,T_,F_,F_,F_,F_,F_,F_,F_] rfl rfl (any_of HT_.out (by kernel_rfl)) (fun _ _ _ h => h) (Or.inl ⟨by rfl, ?_⟩) ?_ ?_
              rotate_left
              ·intro w'
               go_simp
               with_reducible rfl
              rotate_left
              ·simp only [Act.put, List.setIfInBounds_toArray, List.set_cons_zero, List.set_cons_succ, i64_w, i32_w]
               rfl
              refine pure_ (i := 2) (N := some 94) (v := ?_) (a' := ?_) #[F_,T_,T_,F_,F_,F_,F_,F_,F_] rfl rfl (any_of HT_.out (by kernel_rfl)) (fun _ _ _ h => h) (Or.inl ⟨by rfl, ?_⟩) ?_ ?_
              rotate_left
              ·intro w'
               go_simp
               with_reducible rfl
              rotate_left
              ·simp only [Act.put, List.setIfInBounds_toArray, List.set_cons_zero, List.set_cons_succ, i64_w, i32_w]
               rfl
              refine pure_ (i := 4) (N := some 96) (v := ?_) (a' := ?_) #[F_,T_,T_,F_,T_,F_,F_,F_,F_] rfl rfl (any_of HT_.out (by kernel_rfl)) (fun _ _ _ h => h) (Or.inl ⟨by rfl, ?_⟩) ?_ ?_
              rotate_left
              ·intro w'
               go_simp
               with_reducible rfl
              rotate_left
              ·simp only [Act.put, List.setIfInBounds_toArray, List.set_cons_zero, List.set_cons_succ, i64_w, i32_w]
               rfl
              refine take_ (i := 0) (N := some 92) (v := ?_) (a' := ?_) #[T_,T_,T_,F_,T_,F_,F_,F_,F_] rfl rfl (take_ofW HT_.out HW_.out (by kernel_rfl)) (fun _ _ _ h => h) (Or.inl ⟨by rfl, ?_⟩) hHeld ?_ ?_
              rotate_left
              ·rintro w' ⟨s0, s1, s2, s3, s4⟩
               go_simp
               with_reducible rfl
              rotate_left
              ·simp only [Act.put, List.setIfInBounds_toArray, List.set_cons_zero, List.set_cons_succ, i64_w, i32_w]
               rfl
              refine take_ (i := 3) (N := some 95) (v := ?_) (a' := ?_) #[T_,T_,T_,T_,T_,F_,F_,F_,F_] rfl rfl (take_ofW HT_.out HW_.out (by kernel_rfl)) (fun _ _ _ h => h) (Or.inl ⟨by rfl, ?_⟩) hHeld ?_ ?_
              rotate_left
              ·rintro w' ⟨s0, s1, s2, s3, s4⟩
               go_simp
               with_reducible rfl
              rotate_left
              ·simp only [Act.put, List.setIfInBounds_toArray, List.set_cons_zero, List.set_cons_succ, i64_w, i32_w]
               rfl
              refine one_ (i := 5) (N := some 97) #[T_,T_,T_,T_,T_,T_,F_,F_,F_] rfl rfl (one_of HT_.out (by kernel_rfl)) (by decide) (fun K hK => ?_)
              refine goes_ Try.func53 (by kernel_rfl) rfl #[.slice Ao78 x8_3.length co78] (by rfl) rfl rfl (by (try simp only [List.map_toArray, List.map_cons, List.map_nil]); first | done | rfl | (simp only [List.length_drop, List.length_take]; rfl)) ?_
              with_reducible refine (impl_bitsOf.calls k3 _ _ x8_3 t255 t256 _ ?side1 ?side2 A77.out).mono ?_
              (case side1 => repeat (first | exact (rR HO_8.out).2.2 | (with_reducible refine cA ?_ _) | (with_reducible refine cN ?_ _) | (with_reducible refine cD ?_)))
              (case side2 => exact (rR HO_8.out).2.1)
              rintro e w90 ⟨v257, rfl, ho0, hb⟩
              refine ⟨_, rfl, ?_⟩
              have n0_ := As.mk (rB (by (with_reducible repeat first | apply rA | apply rN | apply rD); exact HO_7.out) hb)
              have n1_ := As.mk (rB (by (with_reducible repeat first | apply rA | apply rN | apply rD); exact HO_8.out) hb)
              have n2_ := As.mk (rE (by (with_reducible repeat first | apply rA | apply rN | apply rD); exact HO252.out) (Kd.R_base ho0) hb)
              have n3_ := As.mk (rL (rW ho0 (Kd.R_lt (by (with_reducible repeat first | apply rA | apply rN | apply rD); exact HO252.out))) (bz (by repeat (first | (with_reducible first | exact HB.out | apply ba | apply bw | apply b1 | refine bs ?_ GE216.out | refine bs ?_ GE217.out | refine bs ?_ GE254.out) | exact HB.out))))
              have n4_ := As.mk (bb (g := gb216) (o := .cells #[.int .i64 a1] 3 (0, 0)) (by (with_reducible repeat first | apply bN | apply bD | apply bA); exact BK216.out) hb)
              have n5_ := As.mk (bb (g := gb217) (o := .cells #[.int .i64 0, .int .i64 0, .int .i64 0, .int .i64 0, .int .i64 0, .slice none 0 0, .int .i64 0, .slice none 0 0] 51 (0, 0)) (by (with_reducible repeat first | apply bN | apply bD | apply bA); exact BK217.out) hb)
              have n6_ := As.mk (bb (g := gb254) (o := .cells #[.int .i64 t247, .int .i64 t248, .int .i64 t249, .slice Ao87 t250.length co87] 31 (0, 0)) (by (with_reducible repeat first | apply bN | apply bD | apply bA); exact BK254.out) hb)
              have n7_ := As.mk (bt (by repeat (first | (with_reducible first | exact HB.out | apply ba | apply bw | apply b1 | refine bs ?_ GE216.out | refine bs ?_ GE217.out | refine bs ?_ GE254.out) | exact HB.out)) hb)
              clear HO_7
              clear HO_8
              clear HO252
              clear BK216
              clear BK217
              clear BK254
              clear HB
              have HO_7 := n0_
              have HO_8 := n1_
              have HO252 := n2_
              have HO258 := n3_
              have BK216 := n4_
              have BK217 := n5_
              have BK254 := n6_
              have HB := n7_
              clear n0_ n1_ n2_ n3_ n4_ n5_ n6_ n7_
              (try clear hb)
              (try clear hb2)
              (try clear hk)
              (try clear hi)
              (try clear ho0)
              obtain ⟨Ao91, co91, eo91⟩ := rS HO258.out
              (first | subst eo91 | (injection eo91 with f1_ f2_ f3_; have f4_ := f1_.symm; have f5_ := f3_.symm; clear f1_ f2_ f3_; subst f4_; subst f5_))
              refine hK.out _ _ ⟨(blk_cell BK216.out 0).trans rfl, (blk_cell BK254.out 0).trans rfl, (blk_cell BK254.out 1).trans rfl, (blk_cell BK254.out 2).trans rfl, (blk_cell BK254.out 3).trans rfl⟩ (fun hHeld => ?_)
              clear hK K
              refine norm_ (a' := ?_) ?_ ?_
              rotate_left
              ·show Act.put _ (some 97) _ = _
               simp only [Act.put, List.setIfInBounds_toArray, List.set_cons_zero, List.set_cons_succ, i64_w, i32_w]
               rfl
              refine pure_ (i := 6) (N := some 98) (v := ?_) (a' := ?_) #[T_,T_,T_,T_,T_,T_,T_,F_,F_] rfl rfl (any_of HT_.out (by kernel_rfl)) (fun _ _ _ h => h) (Or.inl ⟨by rfl, ?_⟩) ?_ ?_
              rotate_left
              ·intro w'
               go_simp
               with_reducible rfl
              rotate_left
              ·simp only [Act.put, List.setIfInBounds_toArray, List.set_cons_zero, List.set_cons_succ, i64_w, i32_w]
               rfl
              refine one_ (i := 7) (N := none) #[T_,T_,T_,T_,T_,T_,T_,T_,F_] rfl rfl (one_of HT_.out (by kernel_rfl)) (by decide) (fun K hK => ?_)
              have hs92 : w90.cell? ⟨gb217, 0, none⟩ = some (.int .i64 0) := (blk_cell BK217.out 0).trans rfl
              have hfs92 := blk_frozen BK217.out 0
              have hns92_0 := NB216_217.out
              have hns92_2 := NB254_217.out
              have hms92_0 := NB217_216.out
              have hms92_2 := NB217_254.out
              have hs93 : w90.cell? ⟨gb217, 1, none⟩ = some (.int .i64 0) := (blk_cell BK217.out 1).trans rfl
              have hfs93 := blk_frozen BK217.out 1
              have hns93_0 := NB216_217.out
              have hns93_2 := NB254_217.out
              have hms93_0 := NB217_216.out
              have hms93_2 := NB217_254.out
              have hs94 : w90.cell? ⟨gb217, 2, none⟩ = some (.int .i64 0) := (blk_cell BK217.out 2).trans rfl
              have hfs94 := blk_frozen BK217.out 2
              have hns94_0 := NB216_217.out
              have hns94_2 := NB254_217.out
              have hms94_0 := NB217_216.out
              have hms94_2 := NB217_254.out
              have hs95 : w90.cell? ⟨gb217, 3, none⟩ = some (.int .i64 0) := (blk_cell BK217.out 3).trans rfl
              have hfs95 := blk_frozen BK217.out 3
              have hns95_0 := NB216_217.out
              have hns95_2 := NB254_217.out
              have hms95_0 := NB217_216.out
              have hms95_2 := NB217_254.out
              have hs96 : w90.cell? ⟨gb217, 4, none⟩ = some (.int .i64 0) := (blk_cell BK217.out 4).trans rfl
              have hfs96 := blk_frozen BK217.out 4
              have hns96_0 := NB216_217.out
              have hns96_2 := NB254_217.out
              have hms96_0 := NB217_216.out
              have hms96_2 := NB217_254.out
              have hs97 : w90.cell? ⟨gb217, 5, none⟩ = some (.slice none 0 0) := (blk_cell BK217.out 5).trans rfl
              have hfs97 := blk_frozen BK217.out 5
              have hns97_0 := NB216_217.out
              have hns97_2 := NB254_217.out
              have hms97_0 := NB217_216.out
              have hms97_2 := NB217_254.out
              have hs98 : w90.cell? ⟨gb217, 6, none⟩ = some (.int .i64 0) := (blk_cell BK217.out 6).trans rfl
              have hfs98 := blk_frozen BK217.out 6
              have hns98_0 := NB216_217.out
              have hns98_2 := NB254_217.out
              have hms98_0 := NB217_216.out
              have hms98_2 := NB217_254.out
              have hs99 : w90.cell? ⟨gb217, 7, none⟩ = some (.slice none 0 0) := (blk_cell BK217.out 7).trans rfl
              have hfs99 := blk_frozen BK217.out 7
              have hns99_0 := NB216_217.out
              have hns99_2 := NB254_217.out
              have hms99_0 := NB217_216.out
              have hms99_2 := NB217_254.out
              refine skip_ (w1 := ?_) (by rfl) rfl ?_ ?_
              rotate_left
              ·go_simp
               rfl
              refine hK.out _ _ ⟨((cell_far (p := ⟨gb217, _, none⟩) NB216_217.out _).trans (((cell_far (p := ⟨gb217, _, none⟩) NB216_217.out _).trans (((cell_far (p := ⟨gb217, _, none⟩) NB216_217.out _).trans (((cell_far (p := ⟨gb217, _, none⟩) NB216_217.out _).trans (((cell_far (p := ⟨gb217, _, none⟩) NB216_217.out _).trans (((cell_far (p := ⟨gb217, _, none⟩) NB216_217.out _).trans (((cell_far (p := ⟨gb217, _, none⟩) NB216_217.out _).trans (((cell_far (p := ⟨gb217, _, none⟩) NB216_217.out _).trans (hHeld.1)))))))))))))))), ((cell_far (p := ⟨gb217, _, none⟩) NB254_217.out _).trans (((cell_far (p := ⟨gb217, _, none⟩) NB254_217.out _).trans (((cell_far (p := ⟨gb217, _, none⟩) NB254_217.out _).trans (((cell_far (p := ⟨gb217, _, none⟩) NB254_217.out _).trans (((cell_far (p := ⟨gb217, _, none⟩) NB254_217.out _).trans (((cell_far (p := ⟨gb217, _, none⟩) NB254_217.out _).trans (((cell_far (p := ⟨gb217, _, none⟩) NB254_217.out _).trans (((cell_far (p := ⟨gb217, _, none⟩) NB254_217.out _).trans (hHeld.2.1)))))))))))))))), ((cell_far (p := ⟨gb217, _, none⟩) NB254_217.out _).trans (((cell_far (p := ⟨gb217, _, none⟩) NB254_217.out _).trans (((cell_far (p := ⟨gb217, _, none⟩) NB254_217.out _).trans (((cell_far (p := ⟨gb217, _, none⟩) NB254_217.out _).trans (((cell_far (p := ⟨gb217, _, none⟩) NB254_217.out _).trans (((cell_far (p := ⟨gb217, _, none⟩) NB254_217.out _).trans (((cell_far (p := ⟨gb217, _, none⟩) NB254_217.out _).trans (((cell_far (p := ⟨gb217, _, none⟩) NB254_217.out _).trans (hHeld.2.2.1)))))))))))))))), ((cell_far (p := ⟨gb217, _, none⟩) NB254_217.out _).trans (((cell_far (p := ⟨gb217, _, none⟩) NB254_217.out _).trans (((cell_far (p := ⟨gb217, _, none⟩) NB254_217.out _).trans (((cell_far (p := ⟨gb217, _, none⟩) NB254_217.out _).trans (((cell_far (p := ⟨gb217, _, none⟩) NB254_217.out _).trans (((cell_far (p := ⟨gb217, _, none⟩) NB254_217.out _).trans (((cell_far (p := ⟨gb217, _, none⟩) NB254_217.out _).trans (((cell_far (p := ⟨gb217, _, none⟩) NB254_217.out _).trans (hHeld.2.2.2.1)))))))))))))))), ((cell_far (p := ⟨gb217, _, none⟩) NB254_217.out _).trans (((cell_far (p := ⟨gb217, _, none⟩) NB254_217.out _).trans (((cell_far (p := ⟨gb217, _, none⟩) NB254_217.out _).trans (((cell_far (p := ⟨gb217, _, none⟩) NB254_217.out _).trans (((cell_far (p := ⟨gb217, _, none⟩) NB254_217.out _).trans (((cell_far (p := ⟨gb217, _, none⟩) NB254_217.out _).trans (((cell_far (p := ⟨gb217, _, none⟩) NB254_217.out _).trans (((cell_far (p := ⟨gb217, _, none⟩) NB254_217.out _).trans (hHeld.2.2.2.2))))))))))))))))⟩ (fun hHeld => ?_)
              clear hK K
              refine pure_ (i := 8) (N := some 5) (v := ?_) (a' := ?_) #[T_,T_,T_,T_,T_,T_,T_,T_,T_] rfl rfl (any_of HT_.out (by kernel_rfl)) (fun _ _ _ h => h) (Or.inl ⟨by rfl, ?_⟩) ?_ ?_
              rotate_left
              ·intro w'
               go_simp
               with_reducible rfl
              rotate_left
              ·simp only [Act.put, List.setIfInBounds_toArray, List.set_cons_zero, List.set_cons_succ, i64_w, i32_w]
               rfl
              refine done_ (done_of HT_.out (by kernel_rfl)) ?_
              try go_wp2
              refine bodyPost_ret (results_ct rfl _ _ gb217 51 #[.int .i64 a1, .int .i64 (l0.length : Int), .int .i64 t247, .int .i64 t248, .int .i64 t249, .slice Ao87 t250.length co87, .int .i64 t255, .slice Ao91 t256.length co91] (0, 0) _ rfl (by (with_reducible repeat first | apply bN | apply bD | apply bA); refine blk_put (cs := #[.int .i64 a1, .int .i64 (l0.length : Int), .int .i64 t247, .int .i64 t248, .int .i64 t249, .slice Ao87 t250.length co87, .int .i64 t255, .slice none 0 0]) ?_ 7 _ rfl; (with_reducible repeat first | apply bN | apply bD | apply bA); refine blk_put (cs := #[.int .i64 a1, .int .i64 (l0.length : Int), .int .i64 t247, .int .i64 t248, .int .i64 t249, .slice Ao87 t250.length co87, .int .i64 0, .slice none 0 0]) ?_ 6 _ rfl; (with_reducible repeat first | apply bN | apply bD | apply bA); refine blk_put (cs := #[.int .i64 a1, .int .i64 (l0.length : Int), .int .i64 t247, .int .i64 t248, .int .i64 t249, .slice none 0 0, .int .i64 0, .slice none 0 0]) ?_ 5 _ rfl; (with_reducible repeat first | apply bN | apply bD | apply bA); refine blk_put (cs := #[.int .i64 a1, .int .i64 (l0.length : Int), .int .i64 t247, .int .i64 t248, .int .i64 0, .slice none 0 0, .int .i64 0, .slice none 0 0]) ?_ 4 _ rfl; (with_reducible repeat first | apply bN | apply bD | apply bA); refine blk_put (cs := #[.int .i64 a1, .int .i64 (l0.length : Int), .int .i64 t247, .int .i64 0, .int .i64 0, .slice none 0 0, .int .i64 0, .slice none 0 0]) ?_ 3 _ rfl; (with_reducible repeat first | apply bN | apply bD | apply bA); refine blk_put (cs := #[.int .i64 a1, .int .i64 (l0.length : Int), .int .i64 0, .int .i64 0, .int .i64 0, .slice none 0 0, .int .i64 0, .slice none 0 0]) ?_ 2 _ rfl; (with_reducible repeat first | apply bN | apply bD | apply bA); refine blk_put (cs := #[.int .i64 a1, .int .i64 0, .int .i64 0, .int .i64 0, .int .i64 0, .slice none 0 0, .int .i64 0, .slice none 0 0]) ?_ 1 _ rfl; (with_reducible repeat first | apply bN | apply bD | apply bA); refine blk_put (cs := #[.int .i64 0, .int .i64 0, .int .i64 0, .int .i64 0, .int .i64 0, .slice none 0 0, .int .i64 0, .slice none 0 0]) ?_ 0 _ rfl; (with_reducible repeat first | apply bN | apply bD | apply bA); exact BK217.out) Try.underlying51 rfl (by kernel_rfl)) rfl ?_
              exact ⟨_, _, by first | rfl | (simp [errW_none, errW_some] <;> rfl) | (simp only [← hji64]; first | rfl | (simp [errW_none, errW_some] <;> rfl)) | (simp [*, errW_none, errW_some] <;> rfl), by (with_reducible repeat first | apply rA | apply rN | apply rD); exact Kd.R_mono (Kd.R_far (p := ⟨gb217, 7, none⟩) (Kd.R_far (p := ⟨gb217, 6, none⟩) (Kd.R_far (p := ⟨gb217, 5, none⟩) (Kd.R_far (p := ⟨gb217, 4, none⟩) (Kd.R_far (p := ⟨gb217, 3, none⟩) (Kd.R_far (p := ⟨gb217, 2, none⟩) (Kd.R_far (p := ⟨gb217, 1, none⟩) (Kd.R_far (p := ⟨gb217, 0, none⟩) (Kd.R_types HO252.out BK217.out (by decide)) (fun _ hk => hk.2) (.int .i64 a1)) (fun _ hk => hk.2) (.int .i64 (l0.length : Int))) (fun _ hk => hk.2) (.int .i64 t247)) (fun _ hk => hk.2) (.int .i64 t248)) (fun _ hk => hk.2) (.int .i64 t249)) (fun _ hk => hk.2) (.slice Ao87 t250.length co87)) (fun _ hk => hk.2) (.int .i64 t255)) (fun _ hk => hk.2) (.slice Ao91 t256.length co91)) (fun _ hk => hk.1.2), by (with_reducible repeat first | apply rA | apply rN | apply rD); exact Kd.R_mono (Kd.R_far (p := ⟨gb217, 7, none⟩) (Kd.R_far (p := ⟨gb217, 6, none⟩) (Kd.R_far (p := ⟨gb217, 5, none⟩) (Kd.R_far (p := ⟨gb217, 4, none⟩) (Kd.R_far (p := ⟨gb217, 3, none⟩) (Kd.R_far (p := ⟨gb217, 2, none⟩) (Kd.R_far (p := ⟨gb217, 1, none⟩) (Kd.R_far (p := ⟨gb217, 0, none⟩) (Kd.R_types HO258.out BK217.out (by decide)) (fun _ hk => hk.2) (.int .i64 a1)) (fun _ hk => hk.2) (.int .i64 (l0.length : Int))) (fun _ hk => hk.2) (.int .i64 t247)) (fun _ hk => hk.2) (.int .i64 t248)) (fun _ hk => hk.2) (.int .i64 t249)) (fun _ hk => hk.2) (.slice Ao87 t250.length co87)) (fun _ hk => hk.2) (.int .i64 t255)) (fun _ hk => hk.2) (.slice Ao91 t256.length co91)) (fun _ hk => hk.1.2), by repeat (first | (with_reducible first | exact HB.out | apply ba | apply bw | apply b1 | refine bs ?_ GE216.out | refine bs ?_ GE217.out | refine bs ?_ GE254.out) | exact HB.out)⟩
             ·replace c76 := Bool.eq_false_iff.mpr c76
              subst c76
              have H1 : (some (0, 0, 0, 0, 0, ([] : List Int), 0, ([] : List Int), false)) = some (r1, r2, r3, r4, r5, r6, r7, r8, r9) := by rw [if_neg (show ¬ (false = true) by decide)] at H; exact H
              clear H
              have H := H1
              clear H1
              simp only [Option.some.injEq, Prod.mk.injEq] at H
              obtain ⟨rfl, rfl, rfl, rfl, rfl, rfl, rfl, rfl, rfl⟩ := H
              obtain ⟨Ao100, co100, eo100⟩ := rS HO_8.out
              subst eo100
              obtain ⟨Ao101, co101, eo101⟩ := rS HO_7.out
              subst eo101
              have hnb102 := NB216_217.out
              have hnc102 := NB217_216.out
              have hcz103_0 : wr.cell? ⟨gb216, 0, none⟩ = some (.int .i64 a1) := (blk_cell BK216.out 0).trans rfl
              have hfz103_0 := blk_frozen BK216.out 0
              go_wp2_with (first | ((with_reducible refine gc (f := 19) rfl ?_); refine goesL_ (some 86) rfl rfl Try.func19 (by kernel_rfl) rfl #[.slice Ao101 x7_2.length co101, .int .i64 t221] rfl (by (try simp only [List.map_toArray, List.map_cons, List.map_nil]); first | done | rfl | (simp only [List.length_drop, List.length_take]; rfl)) ?_; (with_reducible refine (impl_PackOf.calls k3 _ _ x7_2 t221 t247 t248 t249 t250 false _ ?side1 ?side2 A75.out).mono ?_); (case side1 => repeat (first | exact (rR HO_7.out).2.2 | (with_reducible refine cA ?_ _) | (with_reducible refine cN ?_ _) | (with_reducible refine cD ?_))); (case side2 => exact (rR HO_7.out).2.1); rintro e w104 ⟨v251, rfl, ho0, hb⟩; refine ⟨_, rfl, ?_⟩; have n0_ := As.mk (rB (by (with_reducible repeat first | apply rA | apply rN | apply rD); exact HO_7.out) hb); have n1_ := As.mk (rB (by (with_reducible repeat first | apply rA | apply rN | apply rD); exact HO_8.out) hb); have n2_ := As.mk (rL ho0 (bz (by repeat (first | (with_reducible first | exact HB.out | apply ba | apply bw | apply b1 | refine bs ?_ GE216.out | refine bs ?_ GE217.out) | exact HB.out)))); have n3_ := As.mk (bb (g := gb216) (o := .cells #[.int .i64 a1] 3 (0, 0)) (by (with_reducible repeat first | apply bN | apply bD | apply bA); exact BK216.out) hb); have n4_ := As.mk (bb (g := gb217) (o := .cells #[.int .i64 0, .int .i64 0, .int .i64 0, .int .i64 0, .int .i64 0, .slice none 0 0, .int .i64 0, .slice none 0 0] 51 (0, 0)) (by (with_reducible repeat first | apply bN | apply bD | apply bA); exact BK217.out) hb); have n5_ := As.mk (bt (by repeat (first | (with_reducible first | exact HB.out | apply ba | apply bw | apply b1 | refine bs ?_ GE216.out | refine bs ?_ GE217.out) | exact HB.out)) hb); clear HO_7; clear HO_8; clear BK216; clear BK217; clear HB; have HO_7 := n0_; have HO_8 := n1_; have HO252 := n2_; have BK216 := n3_; have BK217 := n4_; have HB := n5_; clear n0_ n1_ n2_ n3_ n4_ n5_; (try clear hb); (try clear hb2); (try clear hk); (try clear hi); (try clear ho0)) | ((with_reducible refine gd (N := 11) rfl ?_); refine box_event ?hg (N := 11) ?hd (cs := #[.int .i64 0, .int .i64 0, .int .i64 0, .slice none 0 0]) (t := 31) ?hr ?_; (case hd => rfl); (case hg => rfl); (case hr => first | (go_simp; done) | (go_simp; rfl)); intro gb254 hg w105 hbox hb; have n0_ := As.mk (rB (by (with_reducible repeat first | apply rA | apply rN | apply rD); exact HO_7.out) hb); have n1_ := As.mk (rB (by (with_reducible repeat first | apply rA | apply rN | apply rD); exact HO_8.out) hb); have n2_ := As.mk (rB (by (with_reducible repeat first | apply rA | apply rN | apply rD); exact HO252.out) hb); have n3_ := As.mk (bb (g := gb216) (o := .cells #[.int .i64 a1] 3 (0, 0)) (by (with_reducible repeat first | apply bN | apply bD | apply bA); exact BK216.out) hb); have n4_ := As.mk (bb (g := gb217) (o := .cells #[.int .i64 0, .int .i64 0, .int .i64 0, .int .i64 0, .int .i64 0, .slice none 0 0, .int .i64 0, .slice none 0 0] 51 (0, 0)) (by (with_reducible repeat first | apply bN | apply bD | apply bA); exact BK217.out) hb); have n5_ := As.mk (bt (by repeat (first | (with_reducible first | exact HB.out | apply ba | apply bw | apply b1 | refine bs ?_ GE216.out | refine bs ?_ GE217.out) | exact HB.out)) hb); have n6_ := As.mk (hbox); have n7_ := As.mk ((by rw [hg]; exact (bz (by repeat (first | (with_reducible first | exact HB.out | apply ba | apply bw | apply b1 | refine bs ?_ GE216.out | refine bs ?_ GE217.out) | exact HB.out))) : w.heap.size ≤ gb254)); have n8_ := n7_; have n9_ := As.mk ((by rw [hg]; exact Nat.ne_of_lt (blk_lt (g := gb216) (o := .cells #[.int .i64 a1] 3 (0, 0)) (by (with_reducible repeat first | apply bN | apply bD | apply bA); exact BK216.out)) : gb216 ≠ gb254)); have n10_ := As.mk n9_.out.symm; have n11_ := As.mk ((by rw [hg]; exact Nat.ne_of_lt (blk_lt (g := gb217) (o := .cells #[.int .i64 0, .int .i64 0, .int .i64 0, .int .i64 0, .int .i64 0, .slice none 0 0, .int .i64 0, .slice none 0 0] 51 (0, 0)) (by (with_reducible repeat first | apply bN | apply bD | apply bA); exact BK217.out)) : gb217 ≠ gb254)); have n12_ := As.mk n11_.out.symm; clear HO_7; clear HO_8; clear HO252; clear BK216; clear BK217; clear HB; have HO_7 := n0_; have HO_8 := n1_; have HO252 := n2_; have BK216 := n3_; have BK217 := n4_; have HB := n5_; have BK254 := n6_; have GW254 := n7_; have GE254 := n8_; have NB216_254 := n9_; have NB254_216 := n10_; have NB217_254 := n11_; have NB254_217 := n12_; clear n0_ n1_ n2_ n3_ n4_ n5_ n6_ n7_ n8_ n9_ n10_ n11_ n12_; clear hb hbox hg; have hnb106 := NB254_216.out; have hnc106 := NB216_254.out; have hnb107 := NB254_217.out; have hnc107 := NB217_254.out; have hcz108_0 : w105.cell? ⟨gb254, 0, none⟩ = some (.int .i64 0) := (blk_cell BK254.out 0).trans rfl; have hcz108_1 : w105.cell? ⟨gb254, 1, none⟩ = some (.int .i64 0) := (blk_cell BK254.out 1).trans rfl; have hcz108_2 : w105.cell? ⟨gb254, 2, none⟩ = some (.int .i64 0) := (blk_cell BK254.out 2).trans rfl; have hcz108_3 : w105.cell? ⟨gb254, 3, none⟩ = some (.slice none 0 0) := (blk_cell BK254.out 3).trans rfl; have hfz108_0 := blk_frozen BK254.out 0; have hfz108_1 := blk_frozen BK254.out 1; have hfz108_2 := blk_frozen BK254.out 2; have hfz108_3 := blk_frozen BK254.out 3; obtain ⟨Ao109, co109, eo109⟩ := rS HO252.out; subst eo109; have hcz110_0 : w105.cell? ⟨gb217, 0, none⟩ = some (.int .i64 0) := (blk_cell BK217.out 0).trans rfl; have hcz110_1 : w105.cell? ⟨gb217, 1, none⟩ = some (.int .i64 0) := (blk_cell BK217.out 1).trans rfl; have hcz110_2 : w105.cell? ⟨gb217, 2, none⟩ = some (.int .i64 0) := (blk_cell BK217.out 2).trans rfl; have hcz110_3 : w105.cell? ⟨gb217, 3, none⟩ = some (.int .i64 0) := (blk_cell BK217.out 3).trans rfl; have hcz110_4 : w105.cell? ⟨gb217, 4, none⟩ = some (.int .i64 0) := (blk_cell BK217.out 4).trans rfl; have hcz110_5 : w105.cell? ⟨gb217, 5, none⟩ = some (.slice none 0 0) := (blk_cell BK217.out 5).trans rfl; have hcz110_6 : w105.cell? ⟨gb217, 6, none⟩ = some (.int .i64 0) := (blk_cell BK217.out 6).trans rfl; have hcz110_7 : w105.cell? ⟨gb217, 7, none⟩ = some (.slice none 0 0) := (blk_cell BK217.out 7).trans rfl; have hfz110_0 := blk_frozen BK217.out 0; have hfz110_1 := blk_frozen BK217.out 1; have hfz110_2 := blk_frozen BK217.out 2; have hfz110_3 := blk_frozen BK217.out 3; have hfz110_4 := blk_frozen BK217.out 4; have hfz110_5 := blk_frozen BK217.out 5; have hfz110_6 := blk_frozen BK217.out 6; have hfz110_7 := blk_frozen BK217.out 7))
              refine bodyPost_ret (results_ct rfl _ _ gb217 51 #[.int .i64 0, .int .i64 0, .int .i64 0, .int .i64 0, .int .i64 0, .slice none 0 0, .int .i64 0, .slice none 0 0] (0, 0) _ rfl (by (with_reducible repeat first | apply bN | apply bD | apply bA); refine blk_put (cs := #[.int .i64 0, .int .i64 0, .int .i64 0, .int .i64 0, .int .i64 0, .slice none 0 0, .int .i64 0, .slice none 0 0]) ?_ 7 _ rfl; (with_reducible repeat first | apply bN | apply bD | apply bA); refine blk_put (cs := #[.int .i64 0, .int .i64 0, .int .i64 0, .int .i64 0, .int .i64 0, .slice none 0 0, .int .i64 0, .slice none 0 0]) ?_ 6 _ rfl; (with_reducible repeat first | apply bN | apply bD | apply bA); refine blk_put (cs := #[.int .i64 0, .int .i64 0, .int .i64 0, .int .i64 0, .int .i64 0, .slice none 0 0, .int .i64 0, .slice none 0 0]) ?_ 5 _ rfl; (with_reducible repeat first | apply bN | apply bD | apply bA); refine blk_put (cs := #[.int .i64 0, .int .i64 0, .int .i64 0, .int .i64 0, .int .i64 0, .slice none 0 0, .int .i64 0, .slice none 0 0]) ?_ 4 _ rfl; (with_reducible repeat first | apply bN | apply bD | apply bA); refine blk_put (cs := #[.int .i64 0, .int .i64 0, .int .i64 0, .int .i64 0, .int .i64 0, .slice none 0 0, .int .i64 0, .slice none 0 0]) ?_ 3 _ rfl; (with_reducible repeat first | apply bN | apply bD | apply bA); refine blk_put (cs := #[.int .i64 0, .int .i64 0, .int .i64 0, .int .i64 0, .int .i64 0, .slice none 0 0, .int .i64 0, .slice none 0 0]) ?_ 2 _ rfl; (with_reducible repeat first | apply bN | apply bD | apply bA); refine blk_put (cs := #[.int .i64 0, .int .i64 0, .int .i64 0, .int .i64 0, .int .i64 0, .slice none 0 0, .int .i64 0, .slice none 0 0]) ?_ 1 _ rfl; (with_reducible repeat first | apply bN | apply bD | apply bA); refine blk_put (cs := #[.int .i64 0, .int .i64 0, .int .i64 0, .int .i64 0, .int .i64 0, .slice none 0 0, .int .i64 0, .slice none 0 0]) ?_ 0 _ rfl; (with_reducible repeat first | apply bN | apply bD | apply bA); refine blk_far ?_ NB217_254.out _; (with_reducible repeat first | apply bN | apply bD | apply bA); refine blk_far ?_ NB217_254.out _; (with_reducible repeat first | apply bN | apply bD | apply bA); refine blk_far ?_ NB217_254.out _; (with_reducible repeat first | apply bN | apply bD | apply bA); refine blk_far ?_ NB217_254.out _; (with_reducible repeat first | apply bN | apply bD | apply bA); exact BK217.out) Try.underlying51 rfl (by kernel_rfl)) rfl ?_
              exact ⟨_, _, by first | rfl | (simp [errW_none, errW_some] <;> rfl) | (simp only [← hji64]; first | rfl | (simp [errW_none, errW_some] <;> rfl)) | (simp [*, errW_none, errW_some] <;> rfl), by first | exact Kd.R_nil _ _ _ _ _ | exact Kd.N_nil _ _ _ _ _ | exact Kd.V_nil _ _ _ _ _ | exact Kd.Q_nil _ _ _ _ _ | exact Kd.S_nil _ _ _ _ _, by first | exact Kd.R_nil _ _ _ _ _ | exact Kd.N_nil _ _ _ _ _ | exact Kd.V_nil _ _ _ _ _ | exact Kd.Q_nil _ _ _ _ _ | exact Kd.S_nil _ _ _ _ _, by repeat (first | (with_reducible first | exact HB.out | apply ba | apply bw | apply b1 | refine bs ?_ GE216.out | refine bs ?_ GE217.out | refine bs ?_ GE254.out) | exact HB.out)⟩
           ·rw [if_neg c63] at H
            exact absurd H (by simp)
    ·rw [if_neg c22] at H
     exact absurd H (by simp)

end Go.Proofs.Yteckcjjkblkfkaa.QFnExactSparseOf
