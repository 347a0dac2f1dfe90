-- WRITTEN BY A PROGRAM OF THIS SESSION (wip/tools/print2.py) out of Lean's own print of the loaded program; Lean checks every row.
import Derived.Test.YteckcjjkblkfkaaQFnExactSparseOfx0
import Derived.Test.YteckcjjkblkfkaaQFnExactSparseOfx5
namespace Go.Proofs.Yteckcjjkblkfkaa.QFnExactSparseOf
open Go.RowKit Go.Proofs.YteckcjjkblkfkaaW.PrintWords Go.Proofs.YteckcjjkblkfkaaW.PrintLast Go.Proofs.YteckcjjkblkfkaaW.PrintMore
open Go.Proofs.YteckcjjkblkfkaaW.PrintWords renaming below_alloc → ba, pw_below_drewN → bw, below_drew1 → b1, below_set → bs, blk_drewN → bN, blk_drew → bD, blk_alloc → bA, below_step → bt, below_size → bz, blk_below → bb, gate_callee → gc, gate_dst → gd, Aside0 → As
open Go.Proofs.YteckcjjkblkfkaaW.PrintWords.Kd renaming R_alloc → rA, R_drewN → rN, R_drew → rD, R_slice → rS, R_below → rB, R_elder' → rE, R_lower → rL, R_new' → rW, R_reads' → rR, C_alloc → cA, C_drewN → cN, C_drew → cD, C_below → cB
open Bool renaming true → T_, false → F_
attribute [local go_sem] max2_int min2_int max_two min_two max_three min_three max_four min_four   -- for this text's walks alone
set_option linter.unusedVariables false
set_option linter.unusedSimpArgs false

/-! ### impl_PackOf: function 19 -/
mutual
def impl_PackOf.j0 : Nat → List Int → Bool → Int → Option (Int × Int × Int × List Int × Bool)
 | 0, _, _, _ => none
 | k + 1, x0, x29, x194000 => if x29 = true then (some (0, 0, 0, ([] : List Int), false)) else (impl_PackOf.l0 k x0 ([] : List Int) x0 (x0.length : Int) 0 x194000)
def impl_PackOf.l0 : Nat → List Int → List Int → List Int → Int → Int → Int → Option (Int × Int × Int × List Int × Bool)
 | 0, _, _, _, _, _, _ => none
 | k + 1, x0, x6, x31, x32, x33, x194000 => if x33 < x32 then (if 0 ≤ x33 then (if x33 < (x31.length : Int) then ((impl_digits.f k (rd x31 x33) x194000).bind fun t198 => (if x6.length + t198.length < 17592186044416 then (impl_PackOf.l0 k x0 (x6 ++ t198) x31 x32 (wrap64 (x33 + 1)) x194000) else (none))) else (none)) else (none)) else ((impl_bitsOf.f k x6).bind fun bt204 => (some (x194000, (x0.length : Int), bt204.1, bt204.2, true)))
end
def impl_PackOf.f (k : Nat) (l0 : List Int) (a1 : Int) : Option (Int × Int × Int × List Int × Bool) := (impl_within.f a1 0 32).bind fun t195 => (if t195 = true then (if (l0.length : Int) > 5000 then (impl_PackOf.j0 k l0 true a1) else (if (wrap64 ((l0.length : Int) * a1)) > 5000 then (impl_PackOf.j0 k l0 true a1) else ((impl_areAll_PackOf_1.f l0 a1).bind fun t196 => (impl_PackOf.j0 k l0 (!t196) a1)))) else (impl_PackOf.j0 k l0 true a1))
theorem impl_PackOf.mono_l : ∀ k, (∀ y0 y1 y2, LeO (impl_PackOf.j0 k y0 y1 y2) (impl_PackOf.j0 (k + 1) y0 y1 y2)) ∧ (∀ y0 y1 y2 y3 y4 y5, LeO (impl_PackOf.l0 k y0 y1 y2 y3 y4 y5) (impl_PackOf.l0 (k + 1) y0 y1 y2 y3 y4 y5))
 | 0 => ⟨fun _ _ _ r h => by simp [impl_PackOf.j0] at h, fun _ _ _ _ _ _ r h => by simp [impl_PackOf.l0] at h⟩
 | k + 1 => by
  obtain ⟨ih0, ih1⟩ := impl_PackOf.mono_l k
  refine ⟨?_, ?_⟩
  ·intro y0 y1 y2
   unfold impl_PackOf.j0
   repeat' first
   | (with_reducible exact ih0 _ _ _)
   | (with_reducible exact ih1 _ _ _ _ _ _)
   | (with_reducible exact impl_bitsOf.mono _ _)
   | (with_reducible exact impl_digits.mono _ _ _)
   | (with_reducible exact LeO.refl _)
   | (with_reducible exact LeO.none _)
   | (with_reducible refine LeO.ite ?_ ?_)
   | (with_reducible refine LeO.bind ?_ (fun _ => ?_))
   | exact ih0 _ _ _
   | exact ih1 _ _ _ _ _ _
   | exact impl_bitsOf.mono _ _
   | exact impl_digits.mono _ _ _
   | exact LeO.none _
   | refine LeO.ite ?_ ?_
   | refine LeO.bind ?_ (fun _ => ?_)
  ·intro y0 y1 y2 y3 y4 y5
   unfold impl_PackOf.l0
   repeat' first
   | (with_reducible exact ih0 _ _ _)
   | (with_reducible exact ih1 _ _ _ _ _ _)
   | (with_reducible exact impl_bitsOf.mono _ _)
   | (with_reducible exact impl_digits.mono _ _ _)
   | (with_reducible exact LeO.refl _)
   | (with_reducible exact LeO.none _)
   | (with_reducible refine LeO.ite ?_ ?_)
   | (with_reducible refine LeO.bind ?_ (fun _ => ?_))
   | exact ih0 _ _ _
   | exact ih1 _ _ _ _ _ _
   | exact impl_bitsOf.mono _ _
   | exact impl_digits.mono _ _ _
   | exact LeO.none _
   | refine LeO.ite ?_ ?_
   | refine LeO.bind ?_ (fun _ => ?_)
theorem impl_PackOf.mono : ∀ a0 a1 k, LeO (impl_PackOf.f k a0 a1) (impl_PackOf.f (k + 1) a0 a1) := by
 intro a0 a1 k
 obtain ⟨ih0, ih1⟩ := impl_PackOf.mono_l k
 unfold impl_PackOf.f
 repeat' first
   | (with_reducible exact ih0 _ _ _)
   | (with_reducible exact ih1 _ _ _ _ _ _)
   | (with_reducible exact impl_bitsOf.mono _ _)
   | (with_reducible exact impl_digits.mono _ _ _)
   | (with_reducible exact LeO.refl _)
   | (with_reducible exact LeO.none _)
   | (with_reducible refine LeO.ite ?_ ?_)
   | (with_reducible refine LeO.bind ?_ (fun _ => ?_))
   | exact ih0 _ _ _
   | exact ih1 _ _ _ _ _ _
   | exact impl_bitsOf.mono _ _
   | exact impl_digits.mono _ _ _
   | exact LeO.none _
   | refine LeO.ite ?_ ?_
   | refine LeO.bind ?_ (fun _ => ?_)
def impl_PackOf.T9 : Bool × List (List Nat × List Nat) := (true, [([], []), ([], []), ([1], [1]), ([], []), ([3], [3]), ([0, 2, 4], [0, 2, 4]), ([5, 4, 0, 1, 2, 3, 4, 5], [5]), ([6, 0, 1, 2, 3, 4, 5, 6], [])])
def impl_PackOf.B9 : List Nat := [0, 0, 2, 0, 8, 31, 63, 127]
theorem impl_PackOf.tab9 : rtab .any (opsOf Try.f19 9) = impl_PackOf.T9 := by kernel_rfl
theorem impl_PackOf.bits9 : waitsOk impl_PackOf.T9.2 impl_PackOf.B9 = true := by kernel_rfl
set_option maxHeartbeats 8000000 in
set_option maxRecDepth 100000 in
theorem impl_PackOf.calls (k : Nat) (A0 : Option Addr) (c0 : Nat) (l0 : List Int) (a1 : Int) (r1 : Int) (r2 : Int) (r3 : Int) (r4 : List Int) (r5 : Bool) (w : World) (hr0 : Kd.C (Kd.int .i64) w A0 l0.length l0) (hc0 : l0.length ≤ c0) (h : impl_PackOf.f k l0 a1 = some (r1, r2, r3, r4, r5)) :
  Calls Try.prog 19 #[.slice A0 l0.length c0, .int .i64 a1] w fun e w' => ∃ v3_ : Value, e = .returned (.tuple #[.agg #[.int .i64 r1, .int .i64 r2, .int .i64 r3, v3_], .bool r5]) ∧ Kd.R (Kd.int .u64) 86 w' w.heap.size (fun _ => True) v3_ r4 ∧ Below w.heap.size w w' := by
 have hu31 := Try.underlying31
 have HR0 := As.mk hr0
 have HC0 := As.mk hc0
 clear hr0 hc0
 have HB := As.mk (Below.refl w.heap.size w)
 have H : ((impl_within.f a1 0 32).bind fun t195 => (if t195 = true then (if (l0.length : Int) > 5000 then (impl_PackOf.j0 k l0 true a1) else (if (wrap64 ((l0.length : Int) * a1)) > 5000 then (impl_PackOf.j0 k l0 true a1) else ((impl_areAll_PackOf_1.f l0 a1).bind fun t196 => (impl_PackOf.j0 k l0 (!t196) a1)))) else (impl_PackOf.j0 k l0 true a1))) = some (r1, r2, r3, r4, r5) := h
 clear h
 have HC3 := As.mk H
 clear H
 go_enter Try.func19, Try.ntmps19
 go_upto_region 1 with (first | ((with_reducible refine gd (N := 3) rfl ?_); (try (refine gate_guard (by rfl) ?_; dsimp only)); refine box_event ?hg (N := 3) ?hd (cs := #[.int .i64 a1]) (t := 3) ?hr ?_; (case hd => rfl); (case hg => rfl); (case hr => first | (go_simp; done) | (go_simp; rfl)); intro gb193 hg w4 hbox hb; have n0_ := As.mk (bt (by repeat (first | (with_reducible first | exact HB.out | apply ba | apply bw | apply b1) | exact HB.out)) hb); have n1_ := As.mk (hbox); have n2_ := As.mk ((by rw [hg]; exact (bz (by repeat (first | (with_reducible first | exact HB.out | apply ba | apply bw | apply b1) | exact HB.out))) : w.heap.size ≤ gb193)); have n3_ := n2_; clear HB; have HB := n0_; have BK193 := n1_; have GW193 := n2_; have GE193 := n3_; clear n0_ n1_ n2_ n3_; clear hb hbox hg) | ((with_reducible refine gd (N := 4) rfl ?_); (try (refine gate_guard (by rfl) ?_; dsimp only)); refine box_event ?hg (N := 4) ?hd (cs := #[.int .i64 0, .int .i64 0, .int .i64 0, .slice none 0 0]) (t := 31) ?hr ?_; (case hd => rfl); (case hg => rfl); (case hr => first | (go_simp; done) | (go_simp; rfl)); intro gb194 hg w5 hbox hb; have n0_ := As.mk (bb (g := gb193) (o := .cells #[.int .i64 a1] 3 (0, 0)) (by (with_reducible repeat first | apply bN | apply bD | apply bA); exact BK193.out) hb); have n1_ := As.mk (bt (by repeat (first | (with_reducible first | exact HB.out | apply ba | apply bw | apply b1 | refine bs ?_ GE193.out) | exact HB.out)) hb); have n2_ := As.mk (hbox); have n3_ := As.mk ((by rw [hg]; exact (bz (by repeat (first | (with_reducible first | exact HB.out | apply ba | apply bw | apply b1 | refine bs ?_ GE193.out) | exact HB.out))) : w.heap.size ≤ gb194)); have n4_ := n3_; have n5_ := As.mk ((by rw [hg]; exact Nat.ne_of_lt (blk_lt (g := gb193) (o := .cells #[.int .i64 a1] 3 (0, 0)) (by (with_reducible repeat first | apply bN | apply bD | apply bA); exact BK193.out)) : gb193 ≠ gb194)); have n6_ := As.mk n5_.out.symm; clear BK193; clear HB; have BK193 := n0_; have HB := n1_; have BK194 := n2_; have GW194 := n3_; have GE194 := n4_; have NB193_194 := n5_; have NB194_193 := n6_; clear n0_ n1_ n2_ n3_ n4_ n5_ n6_; clear hb hbox hg))
 (try simp only [Act.put, List.setIfInBounds_toArray, List.set_cons_zero, List.set_cons_succ])
 go_cut [29] (fun v29 wc => ∃ (kq : Nat) (x29_2 : Bool), v29 = .bool x29_2 ∧ As (impl_PackOf.j0 kq l0 x29_2 a1 = some (r1, r2, r3, r4, r5)) ∧ As (kq ≤ k) ∧ As (wc.heap[gb193]? = some (.cells #[.int .i64 a1] 3 (0, 0))) ∧ As (wc.heap[gb194]? = some (.cells #[.int .i64 0, .int .i64 0, .int .i64 0, (.slice none 0 0)] 31 (0, 0))) ∧ As (Below w.heap.size w wc))
 case first =>
  have H := HC3.out
  clear HC3
  replace H := Option.bind_eq_some_iff.mp H
  obtain ⟨t195, A60, H⟩ := H
  replace H : (if t195 = true then (if (l0.length : Int) > 5000 then (impl_PackOf.j0 k l0 true a1) else (if (wrap64 ((l0.length : Int) * a1)) > 5000 then (impl_PackOf.j0 k l0 true a1) else ((impl_areAll_PackOf_1.f l0 a1).bind fun t196 => (impl_PackOf.j0 k l0 (!t196) a1)))) else (impl_PackOf.j0 k l0 true a1)) = some (r1, r2, r3, r4, r5) := H
  have A6 := As.mk A60
  clear A60
  by_cases c7 : t195 = true
  ·subst c7
   have H1 : (if (l0.length : Int) > 5000 then (impl_PackOf.j0 k l0 true a1) else (if (wrap64 ((l0.length : Int) * a1)) > 5000 then (impl_PackOf.j0 k l0 true a1) else ((impl_areAll_PackOf_1.f l0 a1).bind fun t196 => (impl_PackOf.j0 k l0 (!t196) a1)))) = some (r1, r2, r3, r4, r5) := by rw [if_pos rfl] at H; exact H
   clear H
   have H := H1
   clear H1
   by_cases c8 : (l0.length : Int) > 5000
   ·rw [if_pos c8] at H
    have c8b0 : decide (5000 < (l0.length : Int)) = true := decide_eq_true c8
    have c8b1 : decide (5000 < l0.length) = true := decide_eq_true (by omega)
    clear c8
    (first | rw [c8b0] | (simp only [i64_w, i32_w]; rw [c8b0]) | skip)
    have H' := As.mk H
    clear H
    have hnb9 := NB193_194.out
    have hnc9 := NB194_193.out
    have hcz10_0 : w5.cell? ⟨gb193, 0, none⟩ = some (.int .i64 a1) := (blk_cell BK193.out 0).trans rfl
    have hfz10_0 := blk_frozen BK193.out 0
    go_wp2_with (first | ((with_reducible refine gc (f := 44) rfl ?_); refine goesL_ (some 10) rfl rfl Try.func44 (by kernel_rfl) rfl #[.int .i64 a1, .int .i64 0, .int .i64 32] rfl (by (try simp only [List.map_toArray, List.map_cons, List.map_nil]); first | done | rfl | (simp only [List.length_drop, List.length_take]; rfl)) ?_; (with_reducible refine (impl_within.calls a1 0 32 true _ A6.out).mono ?_); rintro e w' ⟨rfl, ⟨nd, rfl⟩⟩; refine ⟨_, rfl, ?_⟩))
    go_meet
    case rel => exact ⟨_, (true), (by first | rfl | (simp; done) | (simp [*]; done)), H', ⟨by first | omega | exact Nat.le_refl _⟩, ⟨by (with_reducible repeat first | apply bN | apply bD | apply bA); exact BK193.out⟩, ⟨by (with_reducible repeat first | apply bN | apply bD | apply bA); exact BK194.out⟩, ⟨by repeat (first | (with_reducible first | exact HB.out | apply ba | apply bw | apply b1 | refine bs ?_ GE193.out | refine bs ?_ GE194.out) | exact HB.out)⟩⟩
   ·rw [if_neg c8] at H
    have c8b0 : decide (5000 < (l0.length : Int)) = false := decide_eq_false c8
    have c8b1 : decide (5000 < l0.length) = false := decide_eq_false (by omega)
    clear c8
    (first | rw [c8b0] | (simp only [i64_w, i32_w]; rw [c8b0]) | skip)
    by_cases c11 : (wrap64 ((l0.length : Int) * a1)) > 5000
    ·rw [if_pos c11] at H
     have c11b0 : decide (5000 < (wrap64 ((l0.length : Int) * a1))) = true := decide_eq_true c11
     clear c11
     have H' := As.mk H
     clear H
     have hnb12 := NB193_194.out
     have hnc12 := NB194_193.out
     have hcz13_0 : w5.cell? ⟨gb193, 0, none⟩ = some (.int .i64 a1) := (blk_cell BK193.out 0).trans rfl
     have hfz13_0 := blk_frozen BK193.out 0
     go_wp2_with (first | ((with_reducible refine gc (f := 44) rfl ?_); refine goesL_ (some 10) rfl rfl Try.func44 (by kernel_rfl) rfl #[.int .i64 a1, .int .i64 0, .int .i64 32] rfl (by (try simp only [List.map_toArray, List.map_cons, List.map_nil]); first | done | rfl | (simp only [List.length_drop, List.length_take]; rfl)) ?_; (with_reducible refine (impl_within.calls a1 0 32 true _ A6.out).mono ?_); rintro e w' ⟨rfl, ⟨nd, rfl⟩⟩; refine ⟨_, rfl, ?_⟩))
     go_meet
     case rel => exact ⟨_, (true), (by first | rfl | (simp; done) | (simp [*]; done)), H', ⟨by first | omega | exact Nat.le_refl _⟩, ⟨by (with_reducible repeat first | apply bN | apply bD | apply bA); exact BK193.out⟩, ⟨by (with_reducible repeat first | apply bN | apply bD | apply bA); exact BK194.out⟩, ⟨by repeat (first | (with_reducible first | exact HB.out | apply ba | apply bw | apply b1 | refine bs ?_ GE193.out | refine bs ?_ GE194.out) | exact HB.out)⟩⟩
    ·rw [if_neg c11] at H
     have c11b0 : decide (5000 < (wrap64 ((l0.length : Int) * a1))) = false := decide_eq_false c11
     clear c11
     replace H := Option.bind_eq_some_iff.mp H
     obtain ⟨t196, A140, H⟩ := H
     replace H : (impl_PackOf.j0 k l0 (!t196) a1) = some (r1, r2, r3, r4, r5) := H
     have A14 := As.mk A140
     clear A140
     have H' := As.mk H
     clear H
     have hnb15 := NB193_194.out
     have hnc15 := NB194_193.out
     have hcz16_0 : w5.cell? ⟨gb193, 0, none⟩ = some (.int .i64 a1) := (blk_cell BK193.out 0).trans rfl
     have hfz16_0 := blk_frozen BK193.out 0
     go_wp2_with (first | ((with_reducible refine gc (f := 44) rfl ?_); refine goesL_ (some 10) rfl rfl Try.func44 (by kernel_rfl) rfl #[.int .i64 a1, .int .i64 0, .int .i64 32] rfl (by (try simp only [List.map_toArray, List.map_cons, List.map_nil]); first | done | rfl | (simp only [List.length_drop, List.length_take]; rfl)) ?_; (with_reducible refine (impl_within.calls a1 0 32 true _ A6.out).mono ?_); rintro e w' ⟨rfl, ⟨nd, rfl⟩⟩; refine ⟨_, rfl, ?_⟩) | (go_at_call 50; (with_reducible refine (impl_areAll_PackOf_1.calls _ _ l0 gb193 a1 t196 _ ?side1 ?side2 ?side3 A14.out).mono ?_); (case side1 => repeat (first | exact (cB HR0.out (by repeat (first | (with_reducible first | exact HB.out | apply ba | apply bw | apply b1 | refine bs ?_ GE193.out | refine bs ?_ GE194.out) | exact HB.out))) | (with_reducible refine cA ?_ _) | (with_reducible refine cN ?_ _) | (with_reducible refine cD ?_))); (case side2 => exact HC0.out); (case side3 => exact by (with_reducible repeat first | apply bN | apply bD | apply bA); exact BK193.out); rintro e w17 ⟨rfl, hb⟩; have n0_ := As.mk (bb (g := gb193) (o := .cells #[.int .i64 a1] 3 (0, 0)) (by (with_reducible repeat first | apply bN | apply bD | apply bA); exact BK193.out) hb); have n1_ := As.mk (bb (g := gb194) (o := .cells #[.int .i64 0, .int .i64 0, .int .i64 0, .slice none 0 0] 31 (0, 0)) (by (with_reducible repeat first | apply bN | apply bD | apply bA); exact BK194.out) hb); have n2_ := As.mk (bt (by repeat (first | (with_reducible first | exact HB.out | apply ba | apply bw | apply b1 | refine bs ?_ GE193.out | refine bs ?_ GE194.out) | exact HB.out)) hb); clear BK193; clear BK194; clear HB; have BK193 := n0_; have BK194 := n1_; have HB := n2_; clear n0_ n1_ n2_; (try clear hb); (try clear hb2); (try clear hk); (try clear hi)))
     go_meet
     case rel => exact ⟨_, (!t196), (by first | rfl | (simp; done) | (simp [*]; done)), H', ⟨by first | omega | exact Nat.le_refl _⟩, ⟨by (with_reducible repeat first | apply bN | apply bD | apply bA); exact BK193.out⟩, ⟨by (with_reducible repeat first | apply bN | apply bD | apply bA); exact BK194.out⟩, ⟨by repeat (first | (with_reducible first | exact HB.out | apply ba | apply bw | apply b1 | refine bs ?_ GE193.out | refine bs ?_ GE194.out) | exact HB.out)⟩⟩
  ·replace c7 := Bool.eq_false_iff.mpr c7
   subst c7
   have H1 : (impl_PackOf.j0 k l0 true a1) = some (r1, r2, r3, r4, r5) := by rw [if_neg (show ¬ (false = true) by decide)] at H; exact H
   clear H
   have H := H1
   clear H1
   have H' := As.mk H
   clear H
   have hnb18 := NB193_194.out
   have hnc18 := NB194_193.out
   have hcz19_0 : w5.cell? ⟨gb193, 0, none⟩ = some (.int .i64 a1) := (blk_cell BK193.out 0).trans rfl
   have hfz19_0 := blk_frozen BK193.out 0
   go_wp2_with (first | ((with_reducible refine gc (f := 44) rfl ?_); refine goesL_ (some 10) rfl rfl Try.func44 (by kernel_rfl) rfl #[.int .i64 a1, .int .i64 0, .int .i64 32] rfl (by (try simp only [List.map_toArray, List.map_cons, List.map_nil]); first | done | rfl | (simp only [List.length_drop, List.length_take]; rfl)) ?_; (with_reducible refine (impl_within.calls a1 0 32 false _ A6.out).mono ?_); rintro e w' ⟨rfl, ⟨nd, rfl⟩⟩; refine ⟨_, rfl, ?_⟩))
   go_meet
   case rel => exact ⟨_, (true), (by first | rfl | (simp; done) | (simp [*]; done)), H', ⟨by first | omega | exact Nat.le_refl _⟩, ⟨by (with_reducible repeat first | apply bN | apply bD | apply bA); exact BK193.out⟩, ⟨by (with_reducible repeat first | apply bN | apply bD | apply bA); exact BK194.out⟩, ⟨by repeat (first | (with_reducible first | exact HB.out | apply ba | apply bw | apply b1 | refine bs ?_ GE193.out | refine bs ?_ GE194.out) | exact HB.out)⟩⟩
 case rest =>
  clear HC3
  try clear c1
  try clear p2
  try clear c4
  try clear p6
  try clear c7
  try clear c8
  try clear c8b0
  try clear c8b1
  try clear c9
  try clear c11
  try clear c11b0
  try clear c12
  try clear c15
  try clear c18
  try clear c19
  try clear hcz10_0
  try clear hcz13_0
  try clear hcz16_0
  try clear hcz19_0
  try clear hfz10_0
  try clear hfz13_0
  try clear hfz16_0
  try clear hfz19_0
  obtain ⟨kq, x29_2, rfl, HA, HJ2, BK193, BK194, HB⟩ := hcut
  cases kq with
  | zero => exact absurd HA.out (by simp [impl_PackOf.j0])
  | succ kj2 =>
   have H := HA.out
   clear HA
   simp only [impl_PackOf.j0] at H
   by_cases c20 : x29_2 = true
   ·subst c20
    have H1 : (some (0, 0, 0, ([] : List Int), false)) = some (r1, r2, r3, r4, r5) := by rw [if_pos rfl] at H; exact H
    clear H
    have H := H1
    clear H1
    simp only [Option.some.injEq, Prod.mk.injEq] at H
    obtain ⟨rfl, rfl, rfl, rfl, rfl⟩ := H
    have hnb21 := NB194_193.out
    have hnc21 := NB193_194.out
    have hcz22_0 : wc.cell? ⟨gb194, 0, none⟩ = some (.int .i64 0) := (blk_cell BK194.out 0).trans rfl
    have hcz22_1 : wc.cell? ⟨gb194, 1, none⟩ = some (.int .i64 0) := (blk_cell BK194.out 1).trans rfl
    have hcz22_2 : wc.cell? ⟨gb194, 2, none⟩ = some (.int .i64 0) := (blk_cell BK194.out 2).trans rfl
    have hcz22_3 : wc.cell? ⟨gb194, 3, none⟩ = some (.slice none 0 0) := (blk_cell BK194.out 3).trans rfl
    have hfz22_0 := blk_frozen BK194.out 0
    have hfz22_1 := blk_frozen BK194.out 1
    have hfz22_2 := blk_frozen BK194.out 2
    have hfz22_3 := blk_frozen BK194.out 3
    go_wp2
    refine bodyPost_ret (results_ct rfl _ _ gb194 31 #[.int .i64 0, .int .i64 0, .int .i64 0, .slice none 0 0] (0, 0) _ rfl (by (with_reducible repeat first | apply bN | apply bD | apply bA); refine blk_put (cs := #[.int .i64 0, .int .i64 0, .int .i64 0, .slice none 0 0]) ?_ 3 _ rfl; (with_reducible repeat first | apply bN | apply bD | apply bA); refine blk_put (cs := #[.int .i64 0, .int .i64 0, .int .i64 0, .slice none 0 0]) ?_ 2 _ rfl; (with_reducible repeat first | apply bN | apply bD | apply bA); refine blk_put (cs := #[.int .i64 0, .int .i64 0, .int .i64 0, .slice none 0 0]) ?_ 1 _ rfl; (with_reducible repeat first | apply bN | apply bD | apply bA); refine blk_put (cs := #[.int .i64 0, .int .i64 0, .int .i64 0, .slice none 0 0]) ?_ 0 _ rfl; (with_reducible repeat first | apply bN | apply bD | apply bA); exact BK194.out) Try.underlying31 rfl (by kernel_rfl)) rfl ?_
    exact ⟨_, by first | rfl | (simp [errW_none, errW_some] <;> rfl) | (simp [*, errW_none, errW_some] <;> rfl), by first | exact Kd.R_nil _ _ _ _ _ | exact Kd.N_nil _ _ _ _ _ | exact Kd.V_nil _ _ _ _ _ | exact Kd.Q_nil _ _ _ _ _ | exact Kd.S_nil _ _ _ _ _, by repeat (first | (with_reducible first | exact HB.out | apply ba | apply bw | apply b1 | refine bs ?_ GE193.out | refine bs ?_ GE194.out) | exact HB.out)⟩
   ·replace c20 := Bool.eq_false_iff.mpr c20
    subst c20
    have H1 : (impl_PackOf.l0 kj2 l0 ([] : List Int) l0 (l0.length : Int) 0 a1) = some (r1, r2, r3, r4, r5) := by rw [if_neg (show ¬ (false = true) by decide)] at H; exact H
    clear H
    have H := H1
    clear H1
    have H' := As.mk H
    clear H
    go_wp2
    (try simp only [Act.put, List.setIfInBounds_toArray, List.set_cons_zero, List.set_cons_succ])
    go_loopg [6, 33] kj2 (fun kq v6 v33 w' => ∃ (x6_2 : List Int) (x33_2 : Int), v33 = .int .i64 x33_2 ∧ As (impl_PackOf.l0 kq l0 x6_2 l0 (l0.length : Int) x33_2 a1 = some (r1, r2, r3, r4, r5)) ∧ As (kq ≤ kj2) ∧ As (Kd.R (Kd.int .i64) 3 w' w.heap.size (fun k_ => k_ ≠ gb193) v6 x6_2) ∧ As (w'.heap[gb193]? = some (.cells #[.int .i64 a1] 3 (0, 0))) ∧ As (w'.heap[gb194]? = some (.cells #[.int .i64 0, .int .i64 0, .int .i64 0, (.slice none 0 0)] 31 (0, 0))) ∧ As (Below w.heap.size w w'))
    case atStart => exact ⟨(([] : List Int)), (0), (by first | rfl | (simp; done) | (simp [*]; done)), H', ⟨Nat.le_refl _⟩, ⟨by first | exact Kd.R_nil _ _ _ _ _ | exact Kd.N_nil _ _ _ _ _ | exact Kd.V_nil _ _ _ _ _ | exact Kd.Q_nil _ _ _ _ _ | exact Kd.S_nil _ _ _ _ _⟩, ⟨by (with_reducible repeat first | apply bN | apply bD | apply bA); exact BK193.out⟩, ⟨by (with_reducible repeat first | apply bN | apply bD | apply bA); exact BK194.out⟩, ⟨by repeat (first | (with_reducible first | exact HB.out | apply ba | apply bw | apply b1 | refine bs ?_ GE193.out | refine bs ?_ GE194.out) | exact HB.out)⟩⟩
    case round =>
     clear H'
     try clear c1
     try clear c2
     try clear p2
     try clear c4
     try clear p6
     try clear c7
     try clear c8
     try clear c8b0
     try clear c8b1
     try clear c9
     try clear c11
     try clear c11b0
     try clear c12
     try clear c15
     try clear c18
     try clear c19
     try clear c20
     try clear c21
     try clear hcz10_0
     try clear hcz13_0
     try clear hcz16_0
     try clear hcz19_0
     try clear hcz22_0
     try clear hcz22_1
     try clear hcz22_2
     try clear hcz22_3
     try clear hfz10_0
     try clear hfz13_0
     try clear hfz16_0
     try clear hfz19_0
     try clear hfz22_0
     try clear hfz22_1
     try clear hfz22_2
     try clear hfz22_3
     try clear p2
     try clear p6
     obtain ⟨x6_2, x33_2, rfl, HA, HK2, HO_6, BK193, BK194, HB⟩ := hrel
     cases gk with
     | zero => exact absurd HA.out (by simp [impl_PackOf.l0])
     | succ k2 =>
      have H := HA.out
      clear HA
      simp only [impl_PackOf.l0] at H
      by_cases c23 : x33_2 < (l0.length : Int)
      ·rw [if_pos c23] at H
       have c23b0 : decide (x33_2 < (l0.length : Int)) = true := decide_eq_true c23
       clear c23
       by_cases c24 : 0 ≤ x33_2
       ·rw [if_pos c24] at H
        have c24b0 : decide (0 ≤ x33_2) = true := decide_eq_true c24
        clear c24
        by_cases c25 : x33_2 < (l0.length : Int)
        ·rw [if_pos c25] at H
         have c25b0 : decide (x33_2 < (l0.length : Int)) = true := decide_eq_true c25
         clear c25
         replace H := Option.bind_eq_some_iff.mp H
         obtain ⟨t198, A260, H⟩ := H
         replace H : (if x6_2.length + t198.length < 17592186044416 then (impl_PackOf.l0 k2 l0 (x6_2 ++ t198) l0 (l0.length : Int) (wrap64 (x33_2 + 1)) a1) else (none)) = some (r1, r2, r3, r4, r5) := H
         have A26 := As.mk A260
         clear A260
         by_cases c27 : x6_2.length + t198.length < 17592186044416
         ·rw [if_pos c27] at H
          have LMc27 := As.mk c27
          clear c27
          obtain ⟨y201, hy201⟩ : ∃ y_ : List Int, y_ = (x6_2 ++ t198) := ⟨_, rfl⟩
          replace H : (impl_PackOf.l0 k2 l0 y201 l0 (l0.length : Int) (wrap64 (x33_2 + 1)) a1) = some (r1, r2, r3, r4, r5) := by first | (rw [hy201]; with_reducible exact H) | (have H2_ := (Option.bind_some _ _).symm.trans H; rw [hy201]; with_reducible exact H2_) | (have H2_ := (Option.bind_some _ _).symm.trans H; with_reducible exact H2_) | with_reducible exact H | (rw [hy201]; exact H) | exact H
          have Ny201 := As.mk hy201
          clear hy201
          have H' := As.mk H
          clear H
          have p197 : 0 ≤ (x33_2 : Int) := of_decide_eq_true (by first | (with_reducible assumption) | assumption)
          have q197 : x33_2 < (l0.length : Int) := of_decide_eq_true (by first | (with_reducible assumption) | assumption)
          obtain ⟨ad197, e197, hx197_0⟩ := Kd.at_int HR0.out x33_2 p197 q197
          cases e197
          replace hx197_0 := (HB.out.cell (World.block_lt_of_cell? w _ hx197_0)).trans hx197_0
          replace p197 := eq_true p197
          replace q197 := eq_true q197
          have hnb28 := NB193_194.out
          have hnc28 := NB194_193.out
          have hcz29_0 : wr.cell? ⟨gb193, 0, none⟩ = some (.int .i64 a1) := (blk_cell BK193.out 0).trans rfl
          have hfz29_0 := blk_frozen BK193.out 0
          go_wp2_with (first | ((with_reducible refine gc (f := 52) rfl ?_); refine goesL_ (some 40) rfl rfl Try.func52 (by kernel_rfl) rfl #[.int .i64 (rd l0 x33_2), .int .i64 a1] rfl (by (try simp only [List.map_toArray, List.map_cons, List.map_nil]); first | done | rfl | (simp only [List.length_drop, List.length_take]; rfl)) ?_; (with_reducible refine (impl_digits.calls k2 (rd l0 x33_2) a1 t198 _ A26.out).mono ?_); rintro e w30 ⟨v199, rfl, ho0, hb⟩; refine ⟨_, rfl, ?_⟩; have n0_ := As.mk (rE (by (with_reducible repeat first | apply rA | apply rN | apply rD); exact HO_6.out) (Kd.R_base ho0) hb); have n1_ := As.mk (rL (Kd.R_newB (rW ho0 (Kd.R_lt (by (with_reducible repeat first | apply rA | apply rN | apply rD); exact HO_6.out))) (g := gb193) (o := .cells #[.int .i64 a1] 3 (0, 0)) (by (with_reducible repeat first | apply bN | apply bD | apply bA); exact BK193.out)) (bz (by repeat (first | (with_reducible first | exact HB.out | apply ba | apply bw | apply b1 | refine bs ?_ GE193.out | refine bs ?_ GE194.out) | exact HB.out)))); have n2_ := As.mk (bb (g := gb193) (o := .cells #[.int .i64 a1] 3 (0, 0)) (by (with_reducible repeat first | apply bN | apply bD | apply bA); exact BK193.out) hb); have n3_ := As.mk (bb (g := gb194) (o := .cells #[.int .i64 0, .int .i64 0, .int .i64 0, .slice none 0 0] 31 (0, 0)) (by (with_reducible repeat first | apply bN | apply bD | apply bA); exact BK194.out) hb); have n4_ := As.mk (bt (by repeat (first | (with_reducible first | exact HB.out | apply ba | apply bw | apply b1 | refine bs ?_ GE193.out | refine bs ?_ GE194.out) | exact HB.out)) hb); clear HO_6; clear BK193; clear BK194; clear HB; have HO_6 := n0_; have HO200 := n1_; have BK193 := n2_; have BK194 := n3_; have HB := n4_; clear n0_ n1_ n2_ n3_ n4_; (try clear hb); (try clear hb2); (try clear hk); (try clear hi); (try clear ho0); obtain ⟨Ao32, co32, eo32⟩ := rS HO200.out; subst eo32) | ((with_reducible refine gate_builtin (b := .append) (xs := #[.tmp 37, .tmp 40]) rfl ?_); (try (refine gate_guard (by rfl) ?_; dsimp only)); at_builtin; refine Kd.R_append_rows (Kd.int .i64) (w0 := w) w.heap.size rfl (.tmp 37) (.tmp 40) 37 3 (.int .i64 0) 8 rfl Try.underlying37 info3 rfl (by decide) (by omega) u6 x6_2 t198 _ _ _ (fun k_ => some k_ ≠ (.slice Ao32 t198.length co32 : Value).ownBlock ∧ k_ ≠ gb193) (fun _ => False) rfl rfl ?aO ?aR (fun _ _ h => h) (fun _ h => h.elim) ?aF ?aB ?aS ?aL ?_; (case aR => repeat (first | exact (rR HO200.out).2.2 | (with_reducible refine cA ?_ _) | (with_reducible refine cN ?_ _) | (with_reducible refine cD ?_))); (case aB => exact (by repeat (first | (with_reducible first | exact HB.out | apply ba | apply bw | apply b1 | refine bs ?_ GE193.out | refine bs ?_ GE194.out) | exact HB.out))); (case aF => exact (fun k_ hk => ⟨Kd.fresh' (Kd.R_lt (by (with_reducible repeat first | apply rA | apply rN | apply rD); exact HO200.out)) k_ hk, Kd.freshB (g := gb193) (o := .cells #[.int .i64 a1] 3 (0, 0)) (by (with_reducible repeat first | apply bN | apply bD | apply bA); exact BK193.out) k_ hk⟩)); (case aO => exact (by (with_reducible repeat first | apply rA | apply rN | apply rD); exact Kd.R_mono HO_6.out (by first | exact (fun _ hk => ⟨hk.2, hk.1⟩) | (intro k_ hk_; simp [hk_]; done) | (intro k_ hk_; simp_all)))); (case aS => exact (bz (by repeat (first | (with_reducible first | exact HB.out | apply ba | apply bw | apply b1 | refine bs ?_ GE193.out | refine bs ?_ GE194.out) | exact HB.out)))); (case aL => have := LMc27.out; omega); intro v202 w31 ho hb hg hat; rw [← Ny201.out] at ho; have n0_ := As.mk (blk_grown (g := gb193) (o := .cells #[.int .i64 a1] 3 (0, 0)) (by (with_reducible repeat first | apply bN | apply bD | apply bA); exact BK193.out) hg (Kd.R_away HO_6.out (fun _ hk => hk.1))); have n1_ := As.mk (blk_grown (g := gb194) (o := .cells #[.int .i64 0, .int .i64 0, .int .i64 0, .slice none 0 0] 31 (0, 0)) (by (with_reducible repeat first | apply bN | apply bD | apply bA); exact BK194.out) hg (Kd.R_ne HO_6.out BK194.out (by decide))); have n2_ := As.mk (Kd.R_after (ok := (fun k_ => k_ ≠ gb193)) (by (with_reducible repeat first | apply rA | apply rN | apply rD); exact Kd.R_mono HO200.out (by first | exact (fun _ hk => ⟨hk.2, hk.1.2⟩) | (intro k_ hk_; simp [hk_]; done) | (intro k_ hk_; simp_all))) hg hat); have n3_ := As.mk (hb); have n4_ := As.mk (ho); clear BK193; clear BK194; clear HO200; clear HB; clear HO_6; have BK193 := n0_; have BK194 := n1_; have HO200 := n2_; have HB := n3_; have HO203 := n4_; clear n0_ n1_ n2_ n3_ n4_; clear ho hb hg hat))
          go_roundg k2
          case measure => have := HJ2.out; have := HK2.out; omega
          case rel => exact ⟨(y201), (wrap64 (x33_2 + 1)), (by first | rfl | (simp; done) | (simp [*]; done)), H', ⟨by have := HJ2.out; have := HK2.out; omega⟩, ⟨by (with_reducible repeat first | apply rA | apply rN | apply rD); exact Kd.R_mono HO203.out (fun _ hk => hk.2)⟩, ⟨by (with_reducible repeat first | apply bN | apply bD | apply bA); exact BK193.out⟩, ⟨by (with_reducible repeat first | apply bN | apply bD | apply bA); exact BK194.out⟩, ⟨by repeat (first | (with_reducible first | exact HB.out | apply ba | apply bw | apply b1 | refine bs ?_ GE193.out | refine bs ?_ GE194.out) | exact HB.out)⟩⟩
         ·rw [if_neg c27] at H
          exact absurd H (by simp)
        ·rw [if_neg c25] at H
         exact absurd H (by simp)
       ·rw [if_neg c24] at H
        exact absurd H (by simp)
      ·rw [if_neg c23] at H
       have c23b0 : decide (x33_2 < (l0.length : Int)) = false := decide_eq_false c23
       clear c23
       replace H := Option.bind_eq_some_iff.mp H
       obtain ⟨⟨t204, t205⟩, A330, H⟩ := H
       replace H : (some (a1, (l0.length : Int), t204, t205, true)) = some (r1, r2, r3, r4, r5) := H
       have A33 := As.mk A330
       clear A330
       simp only [Option.some.injEq, Prod.mk.injEq] at H
       obtain ⟨rfl, rfl, rfl, rfl, rfl⟩ := H
       try go_wp2
       have n0_ := As.mk (rD HO_6.out)
       have n1_ := As.mk (bD BK193.out)
       have n2_ := As.mk (bD BK194.out)
       have n3_ := As.mk (b1 HB.out)
       clear HO_6
       clear BK193
       clear BK194
       clear HB
       have HO_6 := n0_
       have BK193 := n1_
       have BK194 := n2_
       have HB := n3_
       clear n0_ n1_ n2_ n3_
       obtain ⟨Ao35, co35, eo35⟩ := rS HO_6.out
       (first | subst eo35 | (injection eo35 with f1_ f2_ f3_; have f4_ := f1_.symm; have f5_ := f3_.symm; clear f1_ f2_ f3_; subst f4_; subst f5_))
       refine start_ (n := 8) (S := fun w' => w'.cell? ⟨gb193, 0, none⟩ = some (.int .i64 a1)) (ds := []) #[F_,F_,F_,F_,F_,F_,F_,F_] (by kernel_rfl) rfl rfl ((blk_cell BK193.out 0).trans rfl) (fun hHeld => ?_); refine with_tabW impl_PackOf.tab9 impl_PackOf.bits9 (fun HT_ HW_ => ?_)
       generalize wr.drew = w34 at HO_6 BK193 BK194 HB hHeld ⊢
       refine pure_ (i := 1) (N := some 44) (v := ?_) (a' := ?_) #[F_,T_,F_,F_,F_,F_,F_,F_] rfl rfl (any_of HT_.out (by kernel_rfl)) (fun _ _ _ h => h) (Or.inl ⟨by rfl, ?_⟩) ?_ ?_
       rotate_left
       ·intro w'
        go_simp
        with_reducible rfl
       rotate_left
       ·simp only [Act.put, List.setIfInBounds_toArray, List.set_cons_zero, List.set_cons_succ, i64_w, i32_w]
        rfl
       refine pure_ (i := 2) (N := some 45) (v := ?_) (a' := ?_) #[F_,T_,T_,F_,F_,F_,F_,F_] rfl rfl (any_of HT_.out (by kernel_rfl)) (fun _ _ _ h => h) (Or.inl ⟨by rfl, ?_⟩) ?_ ?_
       rotate_left
       ·intro w'
        go_simp
        with_reducible rfl
       rotate_left
       ·simp only [Act.put, List.setIfInBounds_toArray, List.set_cons_zero, List.set_cons_succ, i64_w, i32_w]
        rfl
       refine pure_ (i := 3) (N := some 46) (v := ?_) (a' := ?_) #[F_,T_,T_,T_,F_,F_,F_,F_] rfl rfl (any_of HT_.out (by kernel_rfl)) (fun _ _ _ h => h) (Or.inl ⟨by rfl, ?_⟩) ?_ ?_
       rotate_left
       ·intro w'
        go_simp
        with_reducible rfl
       rotate_left
       ·simp only [Act.put, List.setIfInBounds_toArray, List.set_cons_zero, List.set_cons_succ, i64_w, i32_w]
        rfl
       refine take_ (i := 0) (N := some 43) (v := ?_) (a' := ?_) #[T_,T_,T_,T_,F_,F_,F_,F_] rfl rfl (take_ofW HT_.out HW_.out (by kernel_rfl)) (fun _ _ _ h => h) (Or.inl ⟨by rfl, ?_⟩) hHeld ?_ ?_
       rotate_left
       ·intro w' s0
        go_simp
        with_reducible rfl
       rotate_left
       ·simp only [Act.put, List.setIfInBounds_toArray, List.set_cons_zero, List.set_cons_succ, i64_w, i32_w]
        rfl
       refine one_ (i := 4) (N := some 47) #[T_,T_,T_,T_,T_,F_,F_,F_] rfl rfl (one_of HT_.out (by kernel_rfl)) (by decide) (fun K hK => ?_)
       refine goes_ Try.func53 (by kernel_rfl) rfl #[.slice Ao35 x6_2.length co35] (by rfl) rfl rfl (by (try simp only [List.map_toArray, List.map_cons, List.map_nil]); first | done | rfl | (simp only [List.length_drop, List.length_take]; rfl)) ?_
       with_reducible refine (impl_bitsOf.calls k2 _ _ x6_2 t204 t205 _ ?side1 ?side2 A33.out).mono ?_
       (case side1 => repeat (first | exact (rR HO_6.out).2.2 | (with_reducible refine cA ?_ _) | (with_reducible refine cN ?_ _) | (with_reducible refine cD ?_)))
       (case side2 => exact (rR HO_6.out).2.1)
       rintro e w36 ⟨v206, rfl, ho0, hb⟩
       refine ⟨_, rfl, ?_⟩
       have n0_ := As.mk (rB (by (with_reducible repeat first | apply rA | apply rN | apply rD); exact HO_6.out) hb)
       have n1_ := As.mk (rL ho0 (bz (by repeat (first | (with_reducible first | exact HB.out | apply ba | apply bw | apply b1 | refine bs ?_ GE193.out | refine bs ?_ GE194.out) | exact HB.out))))
       have n2_ := As.mk (bb (g := gb193) (o := .cells #[.int .i64 a1] 3 (0, 0)) (by (with_reducible repeat first | apply bN | apply bD | apply bA); exact BK193.out) hb)
       have n3_ := As.mk (bb (g := gb194) (o := .cells #[.int .i64 0, .int .i64 0, .int .i64 0, .slice none 0 0] 31 (0, 0)) (by (with_reducible repeat first | apply bN | apply bD | apply bA); exact BK194.out) hb)
       have n4_ := As.mk (bt (by repeat (first | (with_reducible first | exact HB.out | apply ba | apply bw | apply b1 | refine bs ?_ GE193.out | refine bs ?_ GE194.out) | exact HB.out)) hb)
       clear HO_6
       clear BK193
       clear BK194
       clear HB
       have HO_6 := n0_
       have HO207 := n1_
       have BK193 := n2_
       have BK194 := n3_
       have HB := n4_
       clear n0_ n1_ n2_ n3_ n4_
       (try clear hb)
       (try clear hb2)
       (try clear hk)
       (try clear hi)
       (try clear ho0)
       obtain ⟨Ao37, co37, eo37⟩ := rS HO207.out
       (first | subst eo37 | (injection eo37 with f1_ f2_ f3_; have f4_ := f1_.symm; have f5_ := f3_.symm; clear f1_ f2_ f3_; subst f4_; subst f5_))
       refine hK.out _ _ ((blk_cell BK193.out 0).trans rfl) (fun hHeld => ?_)
       clear hK K
       refine norm_ (a' := ?_) ?_ ?_
       rotate_left
       ·show Act.put _ (some 47) _ = _
        simp only [Act.put, List.setIfInBounds_toArray, List.set_cons_zero, List.set_cons_succ, i64_w, i32_w]
        rfl
       refine pure_ (i := 5) (N := some 48) (v := ?_) (a' := ?_) #[T_,T_,T_,T_,T_,T_,F_,F_] rfl rfl (any_of HT_.out (by kernel_rfl)) (fun _ _ _ h => h) (Or.inl ⟨by rfl, ?_⟩) ?_ ?_
       rotate_left
       ·intro w'
        go_simp
        with_reducible rfl
       rotate_left
       ·simp only [Act.put, List.setIfInBounds_toArray, List.set_cons_zero, List.set_cons_succ, i64_w, i32_w]
        rfl
       refine one_ (i := 6) (N := none) #[T_,T_,T_,T_,T_,T_,T_,F_] rfl rfl (one_of HT_.out (by kernel_rfl)) (by decide) (fun K hK => ?_)
       have hs38 : w36.cell? ⟨gb194, 0, none⟩ = some (.int .i64 0) := (blk_cell BK194.out 0).trans rfl
       have hfs38 := blk_frozen BK194.out 0
       have hns38_0 := NB193_194.out
       have hms38_0 := NB194_193.out
       have hs39 : w36.cell? ⟨gb194, 1, none⟩ = some (.int .i64 0) := (blk_cell BK194.out 1).trans rfl
       have hfs39 := blk_frozen BK194.out 1
       have hns39_0 := NB193_194.out
       have hms39_0 := NB194_193.out
       have hs40 : w36.cell? ⟨gb194, 2, none⟩ = some (.int .i64 0) := (blk_cell BK194.out 2).trans rfl
       have hfs40 := blk_frozen BK194.out 2
       have hns40_0 := NB193_194.out
       have hms40_0 := NB194_193.out
       have hs41 : w36.cell? ⟨gb194, 3, none⟩ = some (.slice none 0 0) := (blk_cell BK194.out 3).trans rfl
       have hfs41 := blk_frozen BK194.out 3
       have hns41_0 := NB193_194.out
       have hms41_0 := NB194_193.out
       refine skip_ (w1 := ?_) (by rfl) rfl ?_ ?_
       rotate_left
       ·go_simp
        rfl
       refine hK.out _ _ (((cell_far (p := ⟨gb194, _, none⟩) NB193_194.out _).trans (((cell_far (p := ⟨gb194, _, none⟩) NB193_194.out _).trans (((cell_far (p := ⟨gb194, _, none⟩) NB193_194.out _).trans (((cell_far (p := ⟨gb194, _, none⟩) NB193_194.out _).trans (hHeld))))))))) (fun hHeld => ?_)
       clear hK K
       refine pure_ (i := 7) (N := some 5) (v := ?_) (a' := ?_) #[T_,T_,T_,T_,T_,T_,T_,T_] rfl rfl (any_of HT_.out (by kernel_rfl)) (fun _ _ _ h => h) (Or.inl ⟨by rfl, ?_⟩) ?_ ?_
       rotate_left
       ·intro w'
        go_simp
        with_reducible rfl
       rotate_left
       ·simp only [Act.put, List.setIfInBounds_toArray, List.set_cons_zero, List.set_cons_succ, i64_w, i32_w]
        rfl
       refine done_ (done_of HT_.out (by kernel_rfl)) ?_
       try go_wp2
       refine bodyPost_ret (results_ct rfl _ _ gb194 31 #[.int .i64 a1, .int .i64 (l0.length : Int), .int .i64 t204, .slice Ao37 t205.length co37] (0, 0) _ rfl (by (with_reducible repeat first | apply bN | apply bD | apply bA); refine blk_put (cs := #[.int .i64 a1, .int .i64 (l0.length : Int), .int .i64 t204, .slice none 0 0]) ?_ 3 _ rfl; (with_reducible repeat first | apply bN | apply bD | apply bA); refine blk_put (cs := #[.int .i64 a1, .int .i64 (l0.length : Int), .int .i64 0, .slice none 0 0]) ?_ 2 _ rfl; (with_reducible repeat first | apply bN | apply bD | apply bA); refine blk_put (cs := #[.int .i64 a1, .int .i64 0, .int .i64 0, .slice none 0 0]) ?_ 1 _ rfl; (with_reducible repeat first | apply bN | apply bD | apply bA); refine blk_put (cs := #[.int .i64 0, .int .i64 0, .int .i64 0, .slice none 0 0]) ?_ 0 _ rfl; (with_reducible repeat first | apply bN | apply bD | apply bA); exact BK194.out) Try.underlying31 rfl (by kernel_rfl)) rfl ?_
       exact ⟨_, by first | rfl | (simp [errW_none, errW_some] <;> rfl) | (simp [*, errW_none, errW_some] <;> rfl), by (with_reducible repeat first | apply rA | apply rN | apply rD); exact Kd.R_mono (Kd.R_far (p := ⟨gb194, 3, none⟩) (Kd.R_far (p := ⟨gb194, 2, none⟩) (Kd.R_far (p := ⟨gb194, 1, none⟩) (Kd.R_far (p := ⟨gb194, 0, none⟩) (Kd.R_types HO207.out BK194.out (by decide)) (fun _ hk => hk.2) (.int .i64 a1)) (fun _ hk => hk.2) (.int .i64 (l0.length : Int))) (fun _ hk => hk.2) (.int .i64 t204)) (fun _ hk => hk.2) (.slice Ao37 t205.length co37)) (fun _ hk => trivial), by repeat (first | (with_reducible first | exact HB.out | apply ba | apply bw | apply b1 | refine bs ?_ GE193.out | refine bs ?_ GE194.out) | exact HB.out)⟩

/-! ### cmp_isNaN_int: function 86 -/
def cmp_isNaN_int.f (a0 : Int) : Option (Bool) := some (a0 != a0)
set_option maxHeartbeats 8000000 in
set_option maxRecDepth 100000 in
theorem cmp_isNaN_int.calls (a0 : Int) (r : Bool) (w : World) (h : cmp_isNaN_int.f a0 = some r) :
  Calls Try.prog 86 #[.int .i64 a0] w fun e w' => e = .returned (.bool r) ∧ Drawn0 w w' := by
 have H : (some (a0 != a0)) = some r := h
 clear h
 obtain rfl := Option.some.inj H
 go_enter Try.func86, Try.ntmps86
 go_wp2
 go_ret
 exact ⟨by first | rfl | (simp; done) | (simp [*]; done), by repeat (first | exact Drawn0.refl _ | apply Drawn0.step)⟩

/-! ### cmp_Less_int: function 82 -/
def cmp_Less_int.f (a0 : Int) (a1 : Int) : Option (Bool) := (cmp_isNaN_int.f a0).bind fun t208 => (if t208 = true then ((cmp_isNaN_int.f a1).bind fun t209 => (if t209 = true then (some (decide (a0 < a1))) else (some true))) else (some (decide (a0 < a1))))
set_option maxHeartbeats 8000000 in
set_option maxRecDepth 100000 in
theorem cmp_Less_int.calls (a0 : Int) (a1 : Int) (r : Bool) (w : World) (h : cmp_Less_int.f a0 a1 = some r) :
  Calls Try.prog 82 #[.int .i64 a0, .int .i64 a1] w fun e w' => e = .returned (.bool r) ∧ Drawn0 w w' := by
 have H : ((cmp_isNaN_int.f a0).bind fun t208 => (if t208 = true then ((cmp_isNaN_int.f a1).bind fun t209 => (if t209 = true then (some (decide (a0 < a1))) else (some true))) else (some (decide (a0 < a1))))) = some r := h
 clear h
 replace H := Option.bind_eq_some_iff.mp H
 obtain ⟨t208, A30, H⟩ := H
 replace H : (if t208 = true then ((cmp_isNaN_int.f a1).bind fun t209 => (if t209 = true then (some (decide (a0 < a1))) else (some true))) else (some (decide (a0 < a1)))) = some r := H
 have A3 := As.mk A30
 clear A30
 by_cases c4 : t208 = true
 ·subst c4
  have H1 : ((cmp_isNaN_int.f a1).bind fun t209 => (if t209 = true then (some (decide (a0 < a1))) else (some true))) = some r := by rw [if_pos rfl] at H; exact H
  clear H
  have H := H1
  clear H1
  replace H := Option.bind_eq_some_iff.mp H
  obtain ⟨t209, A50, H⟩ := H
  replace H : (if t209 = true then (some (decide (a0 < a1))) else (some true)) = some r := H
  have A5 := As.mk A50
  clear A50
  by_cases c6 : t209 = true
  ·subst c6
   have H1 : (some (decide (a0 < a1))) = some r := by rw [if_pos rfl] at H; exact H
   clear H
   have H := H1
   clear H1
   obtain rfl := Option.some.inj H
   go_enter Try.func82, Try.ntmps82
   go_wp2_with (first | ((with_reducible refine gc (f := 86) rfl ?_); refine goesL_ (some 6) rfl rfl Try.func86 (by kernel_rfl) rfl #[.int .i64 a0] rfl (by (try simp only [List.map_toArray, List.map_cons, List.map_nil]); first | done | rfl | (simp only [List.length_drop, List.length_take]; rfl)) ?_; (with_reducible refine (cmp_isNaN_int.calls a0 true _ A3.out).mono ?_); rintro e w' ⟨rfl, ⟨nd, rfl⟩⟩; refine ⟨_, rfl, ?_⟩) | (go_at_call 86; (with_reducible refine (cmp_isNaN_int.calls a1 true _ A5.out).mono ?_); rintro e w' ⟨rfl, ⟨nd, rfl⟩⟩))
   go_ret
   exact ⟨by first | rfl | (simp; done) | (simp [*]; done), by repeat (first | exact Drawn0.refl _ | apply Drawn0.step)⟩
  ·replace c6 := Bool.eq_false_iff.mpr c6
   subst c6
   have H1 : (some true) = some r := by rw [if_neg (show ¬ (false = true) by decide)] at H; exact H
   clear H
   have H := H1
   clear H1
   obtain rfl := Option.some.inj H
   go_enter Try.func82, Try.ntmps82
   go_wp2_with (first | ((with_reducible refine gc (f := 86) rfl ?_); refine goesL_ (some 6) rfl rfl Try.func86 (by kernel_rfl) rfl #[.int .i64 a0] rfl (by (try simp only [List.map_toArray, List.map_cons, List.map_nil]); first | done | rfl | (simp only [List.length_drop, List.length_take]; rfl)) ?_; (with_reducible refine (cmp_isNaN_int.calls a0 true _ A3.out).mono ?_); rintro e w' ⟨rfl, ⟨nd, rfl⟩⟩; refine ⟨_, rfl, ?_⟩) | (go_at_call 86; (with_reducible refine (cmp_isNaN_int.calls a1 false _ A5.out).mono ?_); rintro e w' ⟨rfl, ⟨nd, rfl⟩⟩))
   go_ret
   exact ⟨by first | rfl | (simp; done) | (simp [*]; done), by repeat (first | exact Drawn0.refl _ | apply Drawn0.step)⟩
 ·replace c4 := Bool.eq_false_iff.mpr c4
  subst c4
  have H1 : (some (decide (a0 < a1))) = some r := by rw [if_neg (show ¬ (false = true) by decide)] at H; exact H
  clear H
  have H := H1
  clear H1
  obtain rfl := Option.some.inj H
  go_enter Try.func82, Try.ntmps82
  go_wp2_with (first | ((with_reducible refine gc (f := 86) rfl ?_); refine goesL_ (some 6) rfl rfl Try.func86 (by kernel_rfl) rfl #[.int .i64 a0] rfl (by (try simp only [List.map_toArray, List.map_cons, List.map_nil]); first | done | rfl | (simp only [List.length_drop, List.length_take]; rfl)) ?_; (with_reducible refine (cmp_isNaN_int.calls a0 false _ A3.out).mono ?_); rintro e w' ⟨rfl, ⟨nd, rfl⟩⟩; refine ⟨_, rfl, ?_⟩))
  go_ret
  exact ⟨by first | rfl | (simp; done) | (simp [*]; done), by repeat (first | exact Drawn0.refl _ | apply Drawn0.step)⟩

/-! ### slices_IsSorted_int_int: function 62 -/
def slices_IsSorted_int_int.l0 : Nat → List Int → Int → Option (Bool)
 | 0, _, _ => none
 | k + 1, x0, x3 => if x3 > 0 then (if 0 ≤ x3 then (if x3 < (x0.length : Int) then (if 0 ≤ (wrap64 (x3 - 1)) then (if (wrap64 (x3 - 1)) < (x0.length : Int) then ((cmp_Less_int.f (rd x0 x3) (rd x0 (wrap64 (x3 - 1)))).bind fun t212 => (if t212 = true then (some false) else (slices_IsSorted_int_int.l0 k x0 (wrap64 (x3 - 1))))) else (none)) else (none)) else (none)) else (none)) else (some true)
def slices_IsSorted_int_int.f (k : Nat) (l0 : List Int) : Option (Bool) := slices_IsSorted_int_int.l0 k l0 (wrap64 ((l0.length : Int) - 1))
theorem slices_IsSorted_int_int.mono_l : ∀ k, (∀ y0 y1, LeO (slices_IsSorted_int_int.l0 k y0 y1) (slices_IsSorted_int_int.l0 (k + 1) y0 y1))
 | 0 => fun _ _ r h => by simp [slices_IsSorted_int_int.l0] at h
 | k + 1 => by
  have ih0 := slices_IsSorted_int_int.mono_l k
  ·intro y0 y1
   unfold slices_IsSorted_int_int.l0
   repeat' first
   | (with_reducible exact ih0 _ _)
   | (with_reducible exact LeO.refl _)
   | (with_reducible exact LeO.none _)
   | (with_reducible refine LeO.ite ?_ ?_)
   | (with_reducible refine LeO.bind ?_ (fun _ => ?_))
   | exact ih0 _ _
   | exact LeO.none _
   | refine LeO.ite ?_ ?_
   | refine LeO.bind ?_ (fun _ => ?_)
theorem slices_IsSorted_int_int.mono : ∀ a0 k, LeO (slices_IsSorted_int_int.f k a0) (slices_IsSorted_int_int.f (k + 1) a0) := by
 intro a0 k
 have ih0 := slices_IsSorted_int_int.mono_l k
 unfold slices_IsSorted_int_int.f
 repeat' first
   | (with_reducible exact ih0 _ _)
   | (with_reducible exact LeO.refl _)
   | (with_reducible exact LeO.none _)
   | (with_reducible refine LeO.ite ?_ ?_)
   | (with_reducible refine LeO.bind ?_ (fun _ => ?_))
   | exact ih0 _ _
   | exact LeO.none _
   | refine LeO.ite ?_ ?_
   | refine LeO.bind ?_ (fun _ => ?_)
set_option maxHeartbeats 8000000 in
set_option maxRecDepth 100000 in
theorem slices_IsSorted_int_int.calls (k : Nat) (A0 : Option Addr) (c0 : Nat) (l0 : List Int) (r : Bool) (w : World) (hr0 : Kd.C (Kd.int .i64) w A0 l0.length l0) (hc0 : l0.length ≤ c0) (h : slices_IsSorted_int_int.f k l0 = some r) :
  Calls Try.prog 62 #[.slice A0 l0.length c0] w fun e w' => e = .returned (.bool r) ∧ Drawn0 w w' := by
 have HR0 := As.mk hr0
 have HC0 := As.mk hc0
 clear hr0 hc0
 have H : (slices_IsSorted_int_int.l0 k l0 (wrap64 ((l0.length : Int) - 1))) = some r := h
 clear h
 have H' := As.mk H
 clear H
 go_enter Try.func62, Try.ntmps62
 go_wp2
 repeat (go_quiet (fail); try go_wp2)
 (try simp only [Act.put, List.setIfInBounds_toArray, List.set_cons_zero, List.set_cons_succ])
 go_loopg [3] k (fun kq v3 w' => ∃ (x3_1 : Int), v3 = .int .i64 x3_1 ∧ As (slices_IsSorted_int_int.l0 kq l0 x3_1 = some r) ∧ As (kq ≤ k) ∧ Drawn0 w w')
 case atStart => exact ⟨(wrap64 ((l0.length : Int) - 1)), (by first | rfl | (simp; done) | (simp [*]; done)), H', ⟨Nat.le_refl _⟩, by repeat (first | exact Drawn0.refl _ | apply Drawn0.step)⟩
 case round =>
  clear H'
  obtain ⟨x3_1, rfl, HA, HK1, ⟨m1, rfl⟩⟩ := hrel
  cases gk with
  | zero => exact absurd HA.out (by simp [slices_IsSorted_int_int.l0])
  | succ k1 =>
   have H := HA.out
   clear HA
   simp only [slices_IsSorted_int_int.l0] at H
   by_cases c2 : x3_1 > 0
   ·rw [if_pos c2] at H
    have c2b0 : decide (0 < x3_1) = true := decide_eq_true c2
    clear c2
    by_cases c3 : 0 ≤ x3_1
    ·rw [if_pos c3] at H
     have c3b0 : decide (0 ≤ x3_1) = true := decide_eq_true c3
     clear c3
     by_cases c4 : x3_1 < (l0.length : Int)
     ·rw [if_pos c4] at H
      have c4b0 : decide (x3_1 < (l0.length : Int)) = true := decide_eq_true c4
      clear c4
      obtain ⟨ji5, hji5⟩ : ∃ j_ : Int, (wrap64 (x3_1 - 1)) = j_ := ⟨_, rfl⟩
      replace H : (if 0 ≤ (ji5) then (if (ji5) < (l0.length : Int) then ((cmp_Less_int.f (rd l0 x3_1) (rd l0 (ji5))).bind fun t212 => (if t212 = true then (some false) else (slices_IsSorted_int_int.l0 k1 l0 ji5))) else (none)) else (none)) = some r := by first | (rw [hji5] at H; exact H) | (simp only [hji5] at H ⊢; exact H)
      have hji5w : (IntKind.i64.wrap (x3_1 - 1)) = ji5 := (i64_w _).trans hji5
      by_cases c6 : 0 ≤ (ji5)
      ·rw [if_pos c6] at H
       have c6b0 : decide (0 ≤ (ji5)) = true := decide_eq_true c6
       clear c6
       by_cases c7 : (ji5) < (l0.length : Int)
       ·rw [if_pos c7] at H
        have c7b0 : decide ((ji5) < (l0.length : Int)) = true := decide_eq_true c7
        clear c7
        replace H := Option.bind_eq_some_iff.mp H
        obtain ⟨t212, A80, H⟩ := H
        replace H : (if t212 = true then (some false) else (slices_IsSorted_int_int.l0 k1 l0 ji5)) = some r := H
        have A8 := As.mk A80
        clear A80
        by_cases c9 : t212 = true
        ·subst c9
         have H1 : (some false) = some r := by rw [if_pos rfl] at H; exact H
         clear H
         have H := H1
         clear H1
         obtain rfl := Option.some.inj H
         have p210 : 0 ≤ (x3_1 : Int) := of_decide_eq_true (by first | (with_reducible assumption) | assumption)
         have q210 : x3_1 < (l0.length : Int) := of_decide_eq_true (by first | (with_reducible assumption) | assumption)
         obtain ⟨ad210, e210, hx210_0⟩ := Kd.at_int HR0.out x3_1 p210 q210
         cases e210
         replace p210 := eq_true p210
         replace q210 := eq_true q210
         have p211 : 0 ≤ ((ji5) : Int) := of_decide_eq_true (by first | (with_reducible assumption) | assumption)
         have q211 : (ji5) < (l0.length : Int) := of_decide_eq_true (by first | (with_reducible assumption) | assumption)
         obtain ⟨ad211, e211, hx211_0⟩ := Kd.at_int HR0.out (ji5) p211 q211
         obtain rfl : ad210 = ad211 := (by injection e211)
         replace p211 := eq_true p211
         replace q211 := eq_true q211
         go_wp2_with (first | (go_at_call 82; (with_reducible refine (cmp_Less_int.calls (rd l0 x3_1) (rd l0 (ji5)) true _ A8.out).mono ?_); rintro e w' ⟨rfl, ⟨nd, rfl⟩⟩; (try first | exact ⟨rfl, _, World.drewN_drewN _ _ _⟩ | exact ⟨rfl, _, Eq.trans (World.drewN_drewN _ _ _) (congrArg (World.drewN _) (Nat.add_assoc _ _ _))⟩)))
         repeat (go_quiet (first | (go_at_call 82; (with_reducible refine (cmp_Less_int.calls (rd l0 x3_1) (rd l0 (ji5)) true _ A8.out).mono ?_); rintro e w' ⟨rfl, ⟨nd, rfl⟩⟩; (try first | exact ⟨rfl, _, World.drewN_drewN _ _ _⟩ | exact ⟨rfl, _, Eq.trans (World.drewN_drewN _ _ _) (congrArg (World.drewN _) (Nat.add_assoc _ _ _))⟩))); try go_wp2_with (first | (go_at_call 82; (with_reducible refine (cmp_Less_int.calls (rd l0 x3_1) (rd l0 (ji5)) true _ A8.out).mono ?_); rintro e w' ⟨rfl, ⟨nd, rfl⟩⟩; (try first | exact ⟨rfl, _, World.drewN_drewN _ _ _⟩ | exact ⟨rfl, _, Eq.trans (World.drewN_drewN _ _ _) (congrArg (World.drewN _) (Nat.add_assoc _ _ _))⟩))))
         go_ret
         exact ⟨by first | rfl | (simp; done) | (simp only [← hji5] <;> (first | rfl | simp)) | (simp [*]; done), by repeat (first | exact Drawn0.refl _ | apply Drawn0.step)⟩
        ·replace c9 := Bool.eq_false_iff.mpr c9
         subst c9
         have H1 : (slices_IsSorted_int_int.l0 k1 l0 ji5) = some r := by rw [if_neg (show ¬ (false = true) by decide)] at H; exact H
         clear H
         have H := H1
         clear H1
         have H' := As.mk H
         clear H
         have p210 : 0 ≤ (x3_1 : Int) := of_decide_eq_true (by first | (with_reducible assumption) | assumption)
         have q210 : x3_1 < (l0.length : Int) := of_decide_eq_true (by first | (with_reducible assumption) | assumption)
         obtain ⟨ad210, e210, hx210_0⟩ := Kd.at_int HR0.out x3_1 p210 q210
         cases e210
         replace p210 := eq_true p210
         replace q210 := eq_true q210
         have p211 : 0 ≤ ((ji5) : Int) := of_decide_eq_true (by first | (with_reducible assumption) | assumption)
         have q211 : (ji5) < (l0.length : Int) := of_decide_eq_true (by first | (with_reducible assumption) | assumption)
         obtain ⟨ad211, e211, hx211_0⟩ := Kd.at_int HR0.out (ji5) p211 q211
         obtain rfl : ad210 = ad211 := (by injection e211)
         replace p211 := eq_true p211
         replace q211 := eq_true q211
         go_wp2_with (first | (go_at_call 82; (with_reducible refine (cmp_Less_int.calls (rd l0 x3_1) (rd l0 (ji5)) false _ A8.out).mono ?_); rintro e w' ⟨rfl, ⟨nd, rfl⟩⟩; (try first | exact ⟨rfl, _, World.drewN_drewN _ _ _⟩ | exact ⟨rfl, _, Eq.trans (World.drewN_drewN _ _ _) (congrArg (World.drewN _) (Nat.add_assoc _ _ _))⟩)))
         repeat (go_quiet (first | (go_at_call 82; (with_reducible refine (cmp_Less_int.calls (rd l0 x3_1) (rd l0 (ji5)) false _ A8.out).mono ?_); rintro e w' ⟨rfl, ⟨nd, rfl⟩⟩; (try first | exact ⟨rfl, _, World.drewN_drewN _ _ _⟩ | exact ⟨rfl, _, Eq.trans (World.drewN_drewN _ _ _) (congrArg (World.drewN _) (Nat.add_assoc _ _ _))⟩))); try go_wp2_with (first | (go_at_call 82; (with_reducible refine (cmp_Less_int.calls (rd l0 x3_1) (rd l0 (ji5)) false _ A8.out).mono ?_); rintro e w' ⟨rfl, ⟨nd, rfl⟩⟩; (try first | exact ⟨rfl, _, World.drewN_drewN _ _ _⟩ | exact ⟨rfl, _, Eq.trans (World.drewN_drewN _ _ _) (congrArg (World.drewN _) (Nat.add_assoc _ _ _))⟩))))
         go_roundg k1
         case measure => have := HK1.out; omega
         case rel => exact ⟨(ji5), (by first | rfl | (simp; done) | (simp only [← hji5] <;> (first | rfl | simp)) | (simp [*]; done)), H', ⟨by have := HK1.out; omega⟩, by repeat (first | exact Drawn0.refl _ | apply Drawn0.step)⟩
       ·rw [if_neg c7] at H
        exact absurd H (by simp)
      ·rw [if_neg c6] at H
       exact absurd H (by simp)
     ·rw [if_neg c4] at H
      exact absurd H (by simp)
    ·rw [if_neg c3] at H
     exact absurd H (by simp)
   ·rw [if_neg c2] at H
    have c2b0 : decide (0 < x3_1) = false := decide_eq_false c2
    clear c2
    obtain rfl := Option.some.inj H
    go_wp2
    repeat (go_quiet (fail); try go_wp2)
    go_ret
    exact ⟨by first | rfl | (simp; done) | (simp [*]; done), by repeat (first | exact Drawn0.refl _ | apply Drawn0.step)⟩

-- NOT PRINTED: function 63 (impl_SparseOf_1)

/-! ### bits_Len32: function 88 -/
def bits_Len32.f (_a0 : Int) : Option (Int) := none
theorem bits_Len32.calls (a0 : Int) (r : Int) (w : World) (h : bits_Len32.f a0 = some r) :
  Calls Try.prog 88 #[.int .u32 a0] w fun e w' => e = .returned (.int .i64 r) ∧ Drawn0 w w' := by cases h

/-! ### bits_Len64: function 89 -/
def lays129_ren : Go.Shelf.Ren := ⟨fun | 129 => 89 | n => n, fun | 53 => 86 | 3 => 3 | 4 => 4 | 46 => 89 | 5 => 5 | 9 => 9 | n => n, fun | n => n⟩
theorem lays129 : Go.Proofs.Lays.n129 Try.prog lays129_ren := {
 mixed := by kernel_rfl
 f129 := Try.func89.trans (congrArg some (by kernel_rfl))
 t3 := Try.underlying3
 a3 := Try.isAgg3
 z3 := Try.sizeOf3
 v3 := Try.zeroValue3
 t4 := Try.underlying4
 a4 := Try.isAgg4
 z4 := Try.sizeOf4
 v4 := Try.zeroValue4
 t5 := Try.underlying5
 a5 := Try.isAgg5
 z5 := Try.sizeOf5
 v5 := Try.zeroValue5
 t9 := Try.underlying9
 a9 := Try.isAgg9
 z9 := Try.sizeOf9
 v9 := Try.zeroValue9
 t46 := Try.underlying89
 a46 := Try.isAgg89
 z46 := Try.sizeOf89
 v46 := Try.zeroValue89
 t53 := Try.underlying86
 a53 := Try.isAgg86
 z53 := Try.sizeOf86
 v53 := Try.zeroValue86 }
def bits_Len64.f (a0 : Int) : Option (Int) := if 0 ≤ a0 ∧ a0 ≤ 18446744073709551615 then some ((Go.Lib.bitLen a0.toNat : Nat) : Int) else none
theorem bits_Len64.calls (a0 : Int) (r : Int) (w : World) (h : bits_Len64.f a0 = some r) :
  Calls Try.prog 89 #[.int .u64 a0] w fun e w' => e = .returned (.int .i64 r) ∧ Drawn0 w w' := by
 unfold bits_Len64.f at h
 by_cases c : 0 ≤ a0 ∧ a0 ≤ 18446744073709551615
 ·rw [if_pos c] at h
  injection h with h
  subst h
  refine (Go.Proofs.Any.bits_Len64 lays129 a0 w c.1 c.2).mono ?_
  rintro e w' ⟨rfl, rfl⟩
  exact ⟨rfl, Drawn0.refl _⟩
 ·rw [if_neg c] at h
  cases h

/-! ### bits_Len: function 87 -/
def bits_Len.f (a0 : Int) : Option (Int) := (bits_Len64.f a0).bind fun t213 => (some t213)
set_option maxHeartbeats 8000000 in
set_option maxRecDepth 100000 in
theorem bits_Len.calls (a0 : Int) (r : Int) (w : World) (h : bits_Len.f a0 = some r) :
  Calls Try.prog 87 #[.int .u64 a0] w fun e w' => e = .returned (.int .i64 r) ∧ Drawn0 w w' := by
 have H : ((bits_Len64.f a0).bind fun t213 => (some t213)) = some r := h
 clear h
 replace H := Option.bind_eq_some_iff.mp H
 obtain ⟨t213, A20, H⟩ := H
 replace H : (some t213) = some r := H
 have A2 := As.mk A20
 clear A20
 obtain rfl := Option.some.inj H
 go_enter Try.func87, Try.ntmps87
 go_wp2_with (first | ((with_reducible refine gc (f := 89) rfl ?_); refine goesL_ (some 7) rfl rfl Try.func89 (by kernel_rfl) rfl #[.int .u64 a0] rfl (by (try simp only [List.map_toArray, List.map_cons, List.map_nil]); first | done | rfl | (simp only [List.length_drop, List.length_take]; rfl)) ?_; (with_reducible refine (bits_Len64.calls a0 t213 _ A2.out).mono ?_); rintro e w' ⟨rfl, ⟨nd, rfl⟩⟩; refine ⟨_, rfl, ?_⟩))
 go_ret
 exact ⟨by first | rfl | (simp; done) | (simp [*]; done), by repeat (first | exact Drawn0.refl _ | apply Drawn0.step)⟩

/-! ### impl_WidthOf: function 83 -/
def impl_WidthOf.f (a0 : Int) : Option (Int) := if a0 < 0 then (some (-1)) else ((bits_Len.f (IntKind.u64.wrap (a0))).bind fun t214 => (some t214))
set_option maxHeartbeats 8000000 in
set_option maxRecDepth 100000 in
theorem impl_WidthOf.calls (a0 : Int) (r : Int) (w : World) (h : impl_WidthOf.f a0 = some r) :
  Calls Try.prog 83 #[.int .i64 a0] w fun e w' => e = .returned (.int .i64 r) ∧ Drawn0 w w' := by
 have H : (if a0 < 0 then (some (-1)) else ((bits_Len.f (IntKind.u64.wrap (a0))).bind fun t214 => (some t214))) = some r := h
 clear h
 by_cases c2 : a0 < 0
 ·rw [if_pos c2] at H
  have c2b0 : decide (a0 < 0) = true := decide_eq_true c2
  clear c2
  obtain rfl := Option.some.inj H
  go_enter Try.func83, Try.ntmps83
  go_wp2
  go_ret
  exact ⟨by first | rfl | (simp; done) | (simp [*]; done), by repeat (first | exact Drawn0.refl _ | apply Drawn0.step)⟩
 ·rw [if_neg c2] at H
  have c2b0 : decide (a0 < 0) = false := decide_eq_false c2
  clear c2
  replace H := Option.bind_eq_some_iff.mp H
  obtain ⟨t214, A30, H⟩ := H
  replace H : (some t214) = some r := H
  have A3 := As.mk A30
  clear A30
  obtain rfl := Option.some.inj H
  go_enter Try.func83, Try.ntmps83
  go_wp2_with (first | ((with_reducible refine gc (f := 87) rfl ?_); refine goesL_ (some 7) rfl rfl Try.func87 (by kernel_rfl) rfl #[.int .u64 (IntKind.u64.wrap (a0))] rfl (by (try simp only [List.map_toArray, List.map_cons, List.map_nil]); first | done | rfl | (simp only [List.length_drop, List.length_take]; rfl)) ?_; (with_reducible refine (bits_Len.calls (IntKind.u64.wrap (a0)) t214 _ A3.out).mono ?_); rintro e w' ⟨rfl, ⟨nd, rfl⟩⟩; refine ⟨_, rfl, ?_⟩))
  go_ret
  exact ⟨by first | rfl | (simp; done) | (simp [*]; done), by repeat (first | exact Drawn0.refl _ | apply Drawn0.step)⟩

/-! ### impl_lowWidth: function 64 -/
def impl_lowWidth.f (a0 : Int) (a1 : Int) : Option (Int) := if a1 = 0 then (some 0) else ((impl_WidthOf.f (wrap64 (Int.tdiv a0 a1))).bind fun t215 => (some (mx (wrap64 (t215 - 1)) 0)))
set_option maxHeartbeats 8000000 in
set_option maxRecDepth 100000 in
theorem impl_lowWidth.calls (a0 : Int) (a1 : Int) (r : Int) (w : World) (h : impl_lowWidth.f a0 a1 = some r) :
  Calls Try.prog 64 #[.int .i64 a0, .int .i64 a1] w fun e w' => e = .returned (.int .i64 r) ∧ Below w.heap.size w w' := by
 have HB := As.mk (Below.refl w.heap.size w)
 have H : (if a1 = 0 then (some 0) else ((impl_WidthOf.f (wrap64 (Int.tdiv a0 a1))).bind fun t215 => (some (mx (wrap64 (t215 - 1)) 0)))) = some r := h
 clear h
 by_cases c3 : a1 = 0
 ·rw [if_pos c3] at H
  have c3b0 : (a1 == 0) = true := beq_iff_eq.mpr c3
  have c3b1 : (a1 != 0) = false := bne_eq_false_iff_eq.mpr c3
  clear c3
  obtain rfl := Option.some.inj H
  go_enter Try.func64, Try.ntmps64
  go_wp2
  go_ret
  exact ⟨by first | rfl | (simp [errW_none, errW_some] <;> rfl) | (simp [*, errW_none, errW_some] <;> rfl), by repeat (first | (with_reducible first | exact HB.out | apply ba | apply bw | apply b1) | exact HB.out)⟩
 ·rw [if_neg c3] at H
  have c3b0 : (a1 == 0) = false := beq_eq_false_iff_ne.mpr c3
  have c3b1 : (a1 != 0) = true := bne_iff_ne.mpr c3
  replace H := Option.bind_eq_some_iff.mp H
  obtain ⟨t215, A40, H⟩ := H
  replace H : (some (mx (wrap64 (t215 - 1)) 0)) = some r := H
  have A4 := As.mk A40
  clear A40
  obtain ⟨ji5, hji5⟩ : ∃ j_ : Int, (mx (wrap64 (t215 - 1)) 0) = j_ := ⟨_, rfl⟩
  replace H : (some ji5) = some r := by first | (rw [hji5] at H; exact H) | (simp only [hji5] at H ⊢; exact H)
  (try rw [hji5] at A4)
  (try (have hji5l : 0 ≤ ji5 := by (rw [← hji5]; unfold mx; (repeat' split) <;> omega)))
  (try (have hji5m : 0 ≤ ji5 := by omega))
  have hji5_ : (if (wrap64 (t215 - 1)) < 0 then 0 else (wrap64 (t215 - 1))) = ji5 := hji5
  obtain rfl := Option.some.inj H
  go_enter Try.func64, Try.ntmps64
  go_wp2_with (first | ((with_reducible refine gc (f := 83) rfl ?_); refine goesL_ (some 10) rfl rfl Try.func83 (by kernel_rfl) rfl #[.int .i64 (wrap64 (Int.tdiv a0 a1))] rfl (by (try simp only [List.map_toArray, List.map_cons, List.map_nil]); first | done | rfl | (simp only [List.length_drop, List.length_take]; rfl)) ?_; (with_reducible refine (impl_WidthOf.calls (wrap64 (Int.tdiv a0 a1)) t215 _ A4.out).mono ?_); rintro e w' ⟨rfl, ⟨nd, rfl⟩⟩; refine ⟨_, rfl, ?_⟩))
  go_ret
  exact ⟨by first | rfl | (simp [errW_none, errW_some] <;> rfl) | (simp only [← hji5]; first | rfl | (simp [errW_none, errW_some] <;> rfl)) | (simp [*, errW_none, errW_some] <;> rfl), by repeat (first | (with_reducible first | exact HB.out | apply ba | apply bw | apply b1) | exact HB.out)⟩

/-! ### impl_areAll_SparseOf_1_pred: function 63, a closure over one variable: within(x, 0, u-1) -/
def impl_areAll_SparseOf_1.p (a1 : Int) (x : Int) : Option Bool := impl_within.f x 0 (wrap64 (a1 - 1))
theorem impl_areAll_SparseOf_1.pcalls (g : Nat) (a1 x : Int) (b : Bool) (W : World) (hg : W.heap[g]? = some (.cells #[.int .i64 a1] 3 (0, 0))) (h : impl_areAll_SparseOf_1.p a1 x = some b) :
  Calls Try.prog 63 (#[.int .i64 x] ++ #[.pointer (some ⟨g, 0, none⟩)]) W fun e w' => e = .returned (.bool b) ∧ ∃ n, w' = W.drewN n := by
 have hcell : W.cell? ⟨g, 0, none⟩ = some (.int .i64 a1) := (blk_cell hg 0).trans rfl
 unfold impl_areAll_SparseOf_1.p at h
 have HC := As.mk (fun W' => impl_within.calls x 0 (wrap64 (a1 - 1)) b W' h)
 clear h hg
 change Calls Try.prog 63 #[.int .i64 x, .pointer (some ⟨g, 0, none⟩)] W _
 go_enter Try.func63, Try.ntmps63
 go_wp2_with (go_at_call 44; refine (HC.out _).mono ?_; rintro e w' ⟨rfl, ⟨n, rfl⟩⟩)
 go_ret
 exact ⟨rfl, _, rfl⟩
/-! ### impl_areAll_SparseOf_1: function 50 at function 63 -/
def impl_areAll_SparseOf_1.f (l0 : List Int) (a1 : Int) : Option (Bool) := allO (fun x => impl_areAll_SparseOf_1.p a1 x) l0
theorem impl_areAll_SparseOf_1.calls (A0 : Option Addr) (c0 : Nat) (l0 : List Int) (g : Nat) (a1 : Int) (r : Bool) (w : World) (hr0 : Kd.C (Kd.int .i64) w A0 l0.length l0) (hc0 : l0.length ≤ c0) (hg : w.heap[g]? = some (.cells #[.int .i64 a1] 3 (0, 0))) (h : impl_areAll_SparseOf_1.f l0 a1 = some r) :
  Calls Try.prog 50 #[.slice A0 l0.length c0, .func (.func 63) #[] #[.pointer (some ⟨g, 0, none⟩)]] w fun e w' => e = .returned (.bool r) ∧ Below w.heap.size w w' :=
 areAll_any 63 #[.pointer (some ⟨g, 0, none⟩)] (enters_of Try.func63 (by kernel_rfl) rfl) (fun x => impl_areAll_SparseOf_1.p a1 x) A0 c0 l0 r w hr0 h (fun x b W hb hx => impl_areAll_SparseOf_1.pcalls g a1 x b W ((hb.block g (blk_lt hg)).trans hg) hx)

end Go.Proofs.Yteckcjjkblkfkaa.QFnExactSparseOf
