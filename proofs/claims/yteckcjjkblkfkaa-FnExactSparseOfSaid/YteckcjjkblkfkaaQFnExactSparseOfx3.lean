-- WRITTEN BY A PROGRAM OF THIS SESSION (wip/tools/print2.py) out of Lean's own print of the loaded program; Lean checks every row.
import Derived.Test.YteckcjjkblkfkaaQFnExactSparseOfx0
import Derived.Test.YteckcjjkblkfkaaQFnExactSparseOfx1
import Derived.Test.YteckcjjkblkfkaaQFnExactSparseOfx2
namespace Go.Proofs.Yteckcjjkblkfkaa.QFnExactSparseOf
open Go.RowKit Go.Proofs.YteckcjjkblkfkaaW.PrintWords Go.Proofs.YteckcjjkblkfkaaW.PrintLast Go.Proofs.YteckcjjkblkfkaaW.PrintMore
open Go.Proofs.YteckcjjkblkfkaaW.PrintWords renaming below_alloc → ba, pw_below_drewN → bw, below_drew1 → b1, below_set → bs, blk_drewN → bN, blk_drew → bD, blk_alloc → bA, below_step → bt, below_size → bz, blk_below → bb, gate_callee → gc, gate_dst → gd, Aside0 → As
open Go.Proofs.YteckcjjkblkfkaaW.PrintWords.Kd renaming R_alloc → rA, R_drewN → rN, R_drew → rD, R_slice → rS, R_below → rB, R_lower → rL, R_reads' → rR, C_alloc → cA, C_drewN → cN, C_drew → cD
attribute [local go_sem] max2_int min2_int max_two min_two max_three min_three max_four min_four   -- for this text's walks alone
set_option linter.unusedVariables false
set_option linter.unusedSimpArgs false

/-! ### spec_PackOf: function 17 -/
mutual
def spec_PackOf.j0 : Nat → List Int → Int → Bool → Option (Int × Int × Int × List Int × Bool)
 | 0, _, _, _ => none
 | k + 1, x0, x1, x29 => if x29 = true then (some (0, 0, 0, ([] : List Int), false)) else (spec_PackOf.l0 k x0 x1 (([] : List Int)) 0)
def spec_PackOf.l0 : Nat → List Int → Int → List Int → Int → Option (Int × Int × Int × List Int × Bool)
 | 0, _, _, _, _ => none
 | k + 1, x0, x1, x6, x7 => if x7 < (x0.length : Int) then (if 0 ≤ x7 then (if (rd x0 x7) < 0 then (spec_PackOf.j2 k x0 x1 x6 x7 (rd x0 x7) true) else ((spec_l02Pow.f k x1).bind fun t135 => (spec_PackOf.j2 k x0 x1 x6 x7 (rd x0 x7) (decide ((rd x0 x7) ≥ t135))))) else (none)) else ((spec_BitsOf.f k x6).bind fun bt128 => (some (x1, (x0.length : Int), bt128.1, bt128.2.1, true)))
def spec_PackOf.j2 : Nat → List Int → Int → List Int → Int → Int → Bool → Option (Int × Int × Int × List Int × Bool)
 | 0, _, _, _, _, _, _ => none
 | k + 1, x0, x1, x6, x7, x8, x49 => if x49 = true then (some (0, 0, 0, ([] : List Int), false)) else (spec_PackOf.l1 k x0 x1 x6 x7 x8 0)
def spec_PackOf.l1 : Nat → List Int → Int → List Int → Int → Int → Int → Option (Int × Int × Int × List Int × Bool)
 | 0, _, _, _, _, _, _ => none
 | k + 1, x0, x1, x6, x7, x8, x9 => if x9 < x1 then (if x6.length < 17592186044416 then (spec_PackOf.l1 k x0 x1 (x6 ++ [Int.tmod x8 2]) x7 (wrap64 (Int.tdiv x8 2)) (wrap64 (x9 + 1))) else (none)) else (spec_PackOf.l0 k x0 x1 x6 (wrap64 (x7 + 1)))
end
def spec_PackOf.f (k : Nat) (l0 : List Int) (a1 : Int) : Option (Int × Int × Int × List Int × Bool) := if a1 < 0 then (spec_PackOf.j0 k l0 a1 true) else (if a1 > 32 then (spec_PackOf.j0 k l0 a1 true) else (if (l0.length : Int) > 5000 then (spec_PackOf.j0 k l0 a1 true) else (spec_PackOf.j0 k l0 a1 (decide ((wrap64 ((l0.length : Int) * a1)) > 5000)))))
theorem spec_PackOf.mono_l : ∀ k, (∀ y0 y1 y2, LeO (spec_PackOf.j0 k y0 y1 y2) (spec_PackOf.j0 (k + 1) y0 y1 y2)) ∧ (∀ y0 y1 y2 y3, LeO (spec_PackOf.l0 k y0 y1 y2 y3) (spec_PackOf.l0 (k + 1) y0 y1 y2 y3)) ∧ (∀ y0 y1 y2 y3 y4 y5, LeO (spec_PackOf.j2 k y0 y1 y2 y3 y4 y5) (spec_PackOf.j2 (k + 1) y0 y1 y2 y3 y4 y5)) ∧ (∀ y0 y1 y2 y3 y4 y5, LeO (spec_PackOf.l1 k y0 y1 y2 y3 y4 y5) (spec_PackOf.l1 (k + 1) y0 y1 y2 y3 y4 y5))
 | 0 => ⟨fun _ _ _ r h => by simp [spec_PackOf.j0] at h, fun _ _ _ _ r h => by simp [spec_PackOf.l0] at h, fun _ _ _ _ _ _ r h => by simp [spec_PackOf.j2] at h, fun _ _ _ _ _ _ r h => by simp [spec_PackOf.l1] at h⟩
 | k + 1 => by
  obtain ⟨ih0, ih1, ih2, ih3⟩ := spec_PackOf.mono_l k
  refine ⟨?_, ?_, ?_, ?_⟩
  ·intro y0 y1 y2
   unfold spec_PackOf.j0
   repeat' first
   | (with_reducible exact ih0 _ _ _)
   | (with_reducible exact ih1 _ _ _ _)
   | (with_reducible exact ih2 _ _ _ _ _ _)
   | (with_reducible exact ih3 _ _ _ _ _ _)
   | (with_reducible exact spec_BitsOf.mono _ _)
   | (with_reducible exact spec_l02Pow.mono _ _)
   | (with_reducible exact LeO.refl _)
   | (with_reducible exact LeO.none _)
   | (with_reducible refine LeO.ite ?_ ?_)
   | (with_reducible refine LeO.bind ?_ (fun _ => ?_))
   | exact ih0 _ _ _
   | exact ih1 _ _ _ _
   | exact ih2 _ _ _ _ _ _
   | exact ih3 _ _ _ _ _ _
   | exact spec_BitsOf.mono _ _
   | exact spec_l02Pow.mono _ _
   | exact LeO.none _
   | refine LeO.ite ?_ ?_
   | refine LeO.bind ?_ (fun _ => ?_)
  ·intro y0 y1 y2 y3
   unfold spec_PackOf.l0
   repeat' first
   | (with_reducible exact ih0 _ _ _)
   | (with_reducible exact ih1 _ _ _ _)
   | (with_reducible exact ih2 _ _ _ _ _ _)
   | (with_reducible exact ih3 _ _ _ _ _ _)
   | (with_reducible exact spec_BitsOf.mono _ _)
   | (with_reducible exact spec_l02Pow.mono _ _)
   | (with_reducible exact LeO.refl _)
   | (with_reducible exact LeO.none _)
   | (with_reducible refine LeO.ite ?_ ?_)
   | (with_reducible refine LeO.bind ?_ (fun _ => ?_))
   | exact ih0 _ _ _
   | exact ih1 _ _ _ _
   | exact ih2 _ _ _ _ _ _
   | exact ih3 _ _ _ _ _ _
   | exact spec_BitsOf.mono _ _
   | exact spec_l02Pow.mono _ _
   | exact LeO.none _
   | refine LeO.ite ?_ ?_
   | refine LeO.bind ?_ (fun _ => ?_)
  ·intro y0 y1 y2 y3 y4 y5
   unfold spec_PackOf.j2
   repeat' first
   | (with_reducible exact ih0 _ _ _)
   | (with_reducible exact ih1 _ _ _ _)
   | (with_reducible exact ih2 _ _ _ _ _ _)
   | (with_reducible exact ih3 _ _ _ _ _ _)
   | (with_reducible exact spec_BitsOf.mono _ _)
   | (with_reducible exact spec_l02Pow.mono _ _)
   | (with_reducible exact LeO.refl _)
   | (with_reducible exact LeO.none _)
   | (with_reducible refine LeO.ite ?_ ?_)
   | (with_reducible refine LeO.bind ?_ (fun _ => ?_))
   | exact ih0 _ _ _
   | exact ih1 _ _ _ _
   | exact ih2 _ _ _ _ _ _
   | exact ih3 _ _ _ _ _ _
   | exact spec_BitsOf.mono _ _
   | exact spec_l02Pow.mono _ _
   | exact LeO.none _
   | refine LeO.ite ?_ ?_
   | refine LeO.bind ?_ (fun _ => ?_)
  ·intro y0 y1 y2 y3 y4 y5
   unfold spec_PackOf.l1
   repeat' first
   | (with_reducible exact ih0 _ _ _)
   | (with_reducible exact ih1 _ _ _ _)
   | (with_reducible exact ih2 _ _ _ _ _ _)
   | (with_reducible exact ih3 _ _ _ _ _ _)
   | (with_reducible exact spec_BitsOf.mono _ _)
   | (with_reducible exact spec_l02Pow.mono _ _)
   | (with_reducible exact LeO.refl _)
   | (with_reducible exact LeO.none _)
   | (with_reducible refine LeO.ite ?_ ?_)
   | (with_reducible refine LeO.bind ?_ (fun _ => ?_))
   | exact ih0 _ _ _
   | exact ih1 _ _ _ _
   | exact ih2 _ _ _ _ _ _
   | exact ih3 _ _ _ _ _ _
   | exact spec_BitsOf.mono _ _
   | exact spec_l02Pow.mono _ _
   | exact LeO.none _
   | refine LeO.ite ?_ ?_
   | refine LeO.bind ?_ (fun _ => ?_)
theorem spec_PackOf.mono : ∀ a0 a1 k, LeO (spec_PackOf.f k a0 a1) (spec_PackOf.f (k + 1) a0 a1) := by
 intro a0 a1 k
 obtain ⟨ih0, ih1, ih2, ih3⟩ := spec_PackOf.mono_l k
 unfold spec_PackOf.f
 repeat' first
   | (with_reducible exact ih0 _ _ _)
   | (with_reducible exact ih1 _ _ _ _)
   | (with_reducible exact ih2 _ _ _ _ _ _)
   | (with_reducible exact ih3 _ _ _ _ _ _)
   | (with_reducible exact spec_BitsOf.mono _ _)
   | (with_reducible exact spec_l02Pow.mono _ _)
   | (with_reducible exact LeO.refl _)
   | (with_reducible exact LeO.none _)
   | (with_reducible refine LeO.ite ?_ ?_)
   | (with_reducible refine LeO.bind ?_ (fun _ => ?_))
   | exact ih0 _ _ _
   | exact ih1 _ _ _ _
   | exact ih2 _ _ _ _ _ _
   | exact ih3 _ _ _ _ _ _
   | exact spec_BitsOf.mono _ _
   | exact spec_l02Pow.mono _ _
   | exact LeO.none _
   | refine LeO.ite ?_ ?_
   | refine LeO.bind ?_ (fun _ => ?_)
set_option maxHeartbeats 8000000 in
set_option maxRecDepth 100000 in
theorem spec_PackOf.calls (k : Nat) (A0 : Option Addr) (c0 : Nat) (l0 : List Int) (a1 : Int) (r1 : Int) (r2 : Int) (r3 : Int) (r4 : List Int) (r5 : Bool) (w : World) (hr0 : Kd.C (Kd.int .i64) w A0 l0.length l0) (hc0 : l0.length ≤ c0) (h : spec_PackOf.f k l0 a1 = some (r1, r2, r3, r4, r5)) :
  Calls Try.prog 17 #[.slice A0 l0.length c0, .int .i64 a1] w fun e w' => ∃ v3_ : Value, e = .returned (.tuple #[.agg #[.int .i64 r1, .int .i64 r2, .int .i64 r3, v3_], .bool r5]) ∧ Kd.R (Kd.int .u64) 86 w' w.heap.size (fun _ => True) v3_ r4 ∧ Below w.heap.size w w' := by
 have hu31 := Try.underlying31
 have hu29 := Try.underlying29
 have HR0 := As.mk hr0
 have HC0 := As.mk hc0
 clear hr0 hc0
 have HB := As.mk (Below.refl w.heap.size w)
 have H : (if a1 < 0 then (spec_PackOf.j0 k l0 a1 true) else (if a1 > 32 then (spec_PackOf.j0 k l0 a1 true) else (if (l0.length : Int) > 5000 then (spec_PackOf.j0 k l0 a1 true) else (spec_PackOf.j0 k l0 a1 (decide ((wrap64 ((l0.length : Int) * a1)) > 5000)))))) = some (r1, r2, r3, r4, r5) := h
 clear h
 have HC3 := As.mk H
 clear H
 go_enter Try.func17, Try.ntmps17
 go_upto_region 1 with (first | ((with_reducible refine gd (N := 4) rfl ?_); (try (refine gate_guard (by rfl) ?_; dsimp only)); refine box_event ?hg (N := 4) ?hd (cs := #[.int .i64 0, .int .i64 0, .int .i64 0, .slice none 0 0]) (t := 31) ?hr ?_; (case hd => rfl); (case hg => rfl); (case hr => first | (go_simp; done) | (go_simp; rfl)); intro gb124 hg w4 hbox hb; have n0_ := As.mk (bt (by repeat (first | (with_reducible first | exact HB.out | apply ba | apply bw | apply b1) | exact HB.out)) hb); have n1_ := As.mk (hbox); have n2_ := As.mk ((by rw [hg]; exact (bz (by repeat (first | (with_reducible first | exact HB.out | apply ba | apply bw | apply b1) | exact HB.out))) : w.heap.size ≤ gb124)); have n3_ := n2_; clear HB; have HB := n0_; have BK124 := n1_; have GW124 := n2_; have GE124 := n3_; clear n0_ n1_ n2_ n3_; clear hb hbox hg))
 (try simp only [Act.put, List.setIfInBounds_toArray, List.set_cons_zero, List.set_cons_succ])
 go_cut [29] (fun v29 wc => ∃ (kq : Nat) (x29_2 : Bool), v29 = .bool x29_2 ∧ As (spec_PackOf.j0 kq l0 a1 x29_2 = some (r1, r2, r3, r4, r5)) ∧ As (kq ≤ k) ∧ As (wc.heap[gb124]? = some (.cells #[.int .i64 0, .int .i64 0, .int .i64 0, (.slice none 0 0)] 31 (0, 0))) ∧ As (Below w.heap.size w wc))
 case first =>
  have H := HC3.out
  clear HC3
  by_cases c5 : a1 < 0
  ·rw [if_pos c5] at H
   have c5b0 : decide (a1 < 0) = true := decide_eq_true c5
   clear c5
   (first | rw [c5b0] | (simp only [i64_w, i32_w]; rw [c5b0]) | skip)
   have H' := As.mk H
   clear H
   go_wp2
   go_meet
   case rel => exact ⟨_, (true), (by first | rfl | (simp; done) | (simp [*]; done)), H', ⟨by first | omega | exact Nat.le_refl _⟩, ⟨by (with_reducible repeat first | apply bN | apply bD | apply bA); exact BK124.out⟩, ⟨by repeat (first | (with_reducible first | exact HB.out | apply ba | apply bw | apply b1 | refine bs ?_ GE124.out) | exact HB.out)⟩⟩
  ·rw [if_neg c5] at H
   have c5b0 : decide (a1 < 0) = false := decide_eq_false c5
   clear c5
   (first | rw [c5b0] | (simp only [i64_w, i32_w]; rw [c5b0]) | skip)
   by_cases c6 : a1 > 32
   ·rw [if_pos c6] at H
    have c6b0 : decide (32 < a1) = true := decide_eq_true c6
    clear c6
    have H' := As.mk H
    clear H
    go_wp2
    go_meet
    case rel => exact ⟨_, (true), (by first | rfl | (simp; done) | (simp [*]; done)), H', ⟨by first | omega | exact Nat.le_refl _⟩, ⟨by (with_reducible repeat first | apply bN | apply bD | apply bA); exact BK124.out⟩, ⟨by repeat (first | (with_reducible first | exact HB.out | apply ba | apply bw | apply b1 | refine bs ?_ GE124.out) | exact HB.out)⟩⟩
   ·rw [if_neg c6] at H
    have c6b0 : decide (32 < a1) = false := decide_eq_false c6
    clear c6
    by_cases c7 : (l0.length : Int) > 5000
    ·rw [if_pos c7] at H
     have c7b0 : decide (5000 < (l0.length : Int)) = true := decide_eq_true c7
     have c7b1 : decide (5000 < l0.length) = true := decide_eq_true (by omega)
     clear c7
     have H' := As.mk H
     clear H
     go_wp2
     go_meet
     case rel => exact ⟨_, (true), (by first | rfl | (simp; done) | (simp [*]; done)), H', ⟨by first | omega | exact Nat.le_refl _⟩, ⟨by (with_reducible repeat first | apply bN | apply bD | apply bA); exact BK124.out⟩, ⟨by repeat (first | (with_reducible first | exact HB.out | apply ba | apply bw | apply b1 | refine bs ?_ GE124.out) | exact HB.out)⟩⟩
    ·rw [if_neg c7] at H
     have c7b0 : decide (5000 < (l0.length : Int)) = false := decide_eq_false c7
     have c7b1 : decide (5000 < l0.length) = false := decide_eq_false (by omega)
     clear c7
     have H' := As.mk H
     clear H
     go_wp2
     go_meet
     case rel => exact ⟨_, (decide ((wrap64 ((l0.length : Int) * a1)) > 5000)), (by first | rfl | (simp; done) | (simp [*]; done)), H', ⟨by first | omega | exact Nat.le_refl _⟩, ⟨by (with_reducible repeat first | apply bN | apply bD | apply bA); exact BK124.out⟩, ⟨by repeat (first | (with_reducible first | exact HB.out | apply ba | apply bw | apply b1 | refine bs ?_ GE124.out) | exact HB.out)⟩⟩
 case rest =>
  clear HC3
  try clear c1
  try clear p2
  try clear c5
  try clear c5b0
  try clear c6
  try clear c6b0
  try clear p6
  try clear c7
  try clear c7b0
  try clear c7b1
  obtain ⟨kq, x29_2, rfl, HA, HJ2, BK124, HB⟩ := hcut
  cases kq with
  | zero => exact absurd HA.out (by simp [spec_PackOf.j0])
  | succ kj2 =>
   have H := HA.out
   clear HA
   simp only [spec_PackOf.j0] at H
   by_cases c8 : x29_2 = true
   ·subst c8
    have H1 : (some (0, 0, 0, ([] : List Int), false)) = some (r1, r2, r3, r4, r5) := by rw [if_pos rfl] at H; exact H
    clear H
    have H := H1
    clear H1
    simp only [Option.some.injEq, Prod.mk.injEq] at H
    obtain ⟨rfl, rfl, rfl, rfl, rfl⟩ := H
    have hcz9_0 : wc.cell? ⟨gb124, 0, none⟩ = some (.int .i64 0) := (blk_cell BK124.out 0).trans rfl
    have hcz9_1 : wc.cell? ⟨gb124, 1, none⟩ = some (.int .i64 0) := (blk_cell BK124.out 1).trans rfl
    have hcz9_2 : wc.cell? ⟨gb124, 2, none⟩ = some (.int .i64 0) := (blk_cell BK124.out 2).trans rfl
    have hcz9_3 : wc.cell? ⟨gb124, 3, none⟩ = some (.slice none 0 0) := (blk_cell BK124.out 3).trans rfl
    have hfz9_0 := blk_frozen BK124.out 0
    have hfz9_1 := blk_frozen BK124.out 1
    have hfz9_2 := blk_frozen BK124.out 2
    have hfz9_3 := blk_frozen BK124.out 3
    go_wp2
    refine bodyPost_ret (results_ct rfl _ _ gb124 31 #[.int .i64 0, .int .i64 0, .int .i64 0, .slice none 0 0] (0, 0) _ rfl (by (with_reducible repeat first | apply bN | apply bD | apply bA); refine blk_put (cs := #[.int .i64 0, .int .i64 0, .int .i64 0, .slice none 0 0]) ?_ 3 _ rfl; (with_reducible repeat first | apply bN | apply bD | apply bA); refine blk_put (cs := #[.int .i64 0, .int .i64 0, .int .i64 0, .slice none 0 0]) ?_ 2 _ rfl; (with_reducible repeat first | apply bN | apply bD | apply bA); refine blk_put (cs := #[.int .i64 0, .int .i64 0, .int .i64 0, .slice none 0 0]) ?_ 1 _ rfl; (with_reducible repeat first | apply bN | apply bD | apply bA); refine blk_put (cs := #[.int .i64 0, .int .i64 0, .int .i64 0, .slice none 0 0]) ?_ 0 _ rfl; (with_reducible repeat first | apply bN | apply bD | apply bA); exact BK124.out) Try.underlying31 rfl (by kernel_rfl)) rfl ?_
    exact ⟨_, by first | rfl | (simp [errW_none, errW_some] <;> rfl) | (simp [*, errW_none, errW_some] <;> rfl), by first | exact Kd.R_nil _ _ _ _ _ | exact Kd.N_nil _ _ _ _ _ | exact Kd.V_nil _ _ _ _ _ | exact Kd.Q_nil _ _ _ _ _ | exact Kd.S_nil _ _ _ _ _, by repeat (first | (with_reducible first | exact HB.out | apply ba | apply bw | apply b1 | refine bs ?_ GE124.out) | exact HB.out)⟩
   ·replace c8 := Bool.eq_false_iff.mpr c8
    subst c8
    have H1 : (spec_PackOf.l0 kj2 l0 a1 (([] : List Int)) 0) = some (r1, r2, r3, r4, r5) := by rw [if_neg (show ¬ (false = true) by decide)] at H; exact H
    clear H
    have H := H1
    clear H1
    obtain ⟨y125, hy125⟩ : ∃ y_ : List Int, y_ = (([] : List Int)) := ⟨_, rfl⟩
    replace H : (spec_PackOf.l0 kj2 l0 a1 y125 0) = some (r1, r2, r3, r4, r5) := by first | (rw [hy125]; with_reducible exact H) | (have H2_ := (Option.bind_some _ _).symm.trans H; rw [hy125]; with_reducible exact H2_) | (have H2_ := (Option.bind_some _ _).symm.trans H; with_reducible exact H2_) | with_reducible exact H | (rw [hy125]; exact H) | exact H
    have Ny125 := As.mk hy125
    clear hy125
    have H' := As.mk H
    clear H
    go_wp2_with (first | ((with_reducible refine gd (N := 31) rfl ?_); (try (refine gate_guard (by rfl) ?_; dsimp only)); refine Kd.R_lit (Kd.int .i64) _ 3 ?hg (N := 31) ?hd (xs := ([] : List Int)) (inner := []) (ok := fun _ => True) (okp := fun _ => True) ?hr ?hp (fun _ hk => hk) trivial (Below.refl _ _) (Nat.le_refl _) (by simp) ?_; (case hd => rfl); (case hg => rfl); (case hr => first | (go_simp; done) | (go_simp; rfl)); (case hp => exact (Reps.none _ _)); intro v126 w10 ho11 hb hg_ hnew_; clear hg_ hnew_; (first | rw [← Ny125.out] at ho11 | (simp only [Int.reduceToNat] at ho11; rw [← Ny125.out] at ho11)); have n0_ := As.mk (rL ho11 (bz (by repeat (first | (with_reducible first | exact HB.out | apply ba | apply bw | apply b1 | refine bs ?_ GE124.out) | exact HB.out)))); have n1_ := As.mk (bb (g := gb124) (o := .cells #[.int .i64 0, .int .i64 0, .int .i64 0, .slice none 0 0] 31 (0, 0)) (by (with_reducible repeat first | apply bN | apply bD | apply bA); exact BK124.out) hb); have n2_ := As.mk (bt (by repeat (first | (with_reducible first | exact HB.out | apply ba | apply bw | apply b1 | refine bs ?_ GE124.out) | exact HB.out)) hb); clear BK124; clear HB; have HO127 := n0_; have BK124 := n1_; have HB := n2_; clear n0_ n1_ n2_; clear hb ho11))
    (try simp only [Act.put, List.setIfInBounds_toArray, List.set_cons_zero, List.set_cons_succ])
    go_loopg [6, 7] kj2 (fun kq v6 v7 w' => ∃ (x6_2 : List Int) (x7_2 : Int) (x125000_2 : Int) (x125001_2 : Int) (x125002_2 : Int), v7 = .int .i64 x7_2 ∧ As (spec_PackOf.l0 kq l0 a1 x6_2 x7_2 = some (r1, r2, r3, r4, r5)) ∧ As (kq ≤ kj2) ∧ As (Kd.R (Kd.int .i64) 3 w' w.heap.size (fun _ => True) v6 x6_2) ∧ As (w'.heap[gb124]? = some (.cells #[.int .i64 x125000_2, .int .i64 x125001_2, .int .i64 x125002_2, (.slice none 0 0)] 31 (0, 0))) ∧ As (Below w.heap.size w w'))
    case atStart => exact ⟨(y125), (0), (0), (0), (0), (by first | rfl | (simp; done) | (simp [*]; done)), H', ⟨Nat.le_refl _⟩, ⟨by (with_reducible repeat first | apply rA | apply rN | apply rD); exact HO127.out⟩, ⟨by (with_reducible repeat first | apply bN | apply bD | apply bA); exact BK124.out⟩, ⟨by repeat (first | (with_reducible first | exact HB.out | apply ba | apply bw | apply b1 | refine bs ?_ GE124.out) | exact HB.out)⟩⟩
    case round =>
     clear H'
     try clear c1
     try clear p2
     try clear c5
     try clear c5b0
     try clear c6
     try clear c6b0
     try clear p6
     try clear c7
     try clear c7b0
     try clear c7b1
     try clear c8
     try clear hcz9_0
     try clear hcz9_1
     try clear hcz9_2
     try clear hcz9_3
     try clear hfz9_0
     try clear hfz9_1
     try clear hfz9_2
     try clear hfz9_3
     try clear p2
     try clear p6
     obtain ⟨x6_2, x7_2, x125000_2, x125001_2, x125002_2, rfl, HA, HK2, HO_6, BK124, HB⟩ := hrel
     cases gk with
     | zero => exact absurd HA.out (by simp [spec_PackOf.l0])
     | succ k2 =>
      have H := HA.out
      clear HA
      simp only [spec_PackOf.l0] at H
      by_cases c12 : x7_2 < (l0.length : Int)
      ·rw [if_pos c12] at H
       have c12b0 : decide (x7_2 < (l0.length : Int)) = true := decide_eq_true c12
       clear c12
       by_cases c13 : 0 ≤ x7_2
       ·rw [if_pos c13] at H
        have c13b0 : decide (0 ≤ x7_2) = true := decide_eq_true c13
        clear c13
        have HC14 := As.mk H
        clear H
        have p134 : 0 ≤ (x7_2 : Int) := of_decide_eq_true (by first | (with_reducible assumption) | assumption)
        have q134 : x7_2 < (l0.length : Int) := of_decide_eq_true (by first | (with_reducible assumption) | assumption)
        obtain ⟨ad134, e134, hx134_0⟩ := Kd.at_int HR0.out x7_2 p134 q134
        cases e134
        replace hx134_0 := (HB.out.cell (World.block_lt_of_cell? w _ hx134_0)).trans hx134_0
        replace p134 := eq_true p134
        replace q134 := eq_true q134
        go_upto_region 8 with (fail)
        go_cut [49] (fun v49 wc => ∃ (kq : Nat) (x49_13 : Bool), v49 = .bool x49_13 ∧ As (spec_PackOf.j2 kq l0 a1 x6_2 x7_2 (rd l0 x7_2) x49_13 = some (r1, r2, r3, r4, r5)) ∧ As (kq ≤ k2) ∧ As (Kd.R (Kd.int .i64) 3 wc w.heap.size (fun _ => True) u6 x6_2) ∧ As (wc.heap[gb124]? = some (.cells #[.int .i64 x125000_2, .int .i64 x125001_2, .int .i64 x125002_2, (.slice none 0 0)] 31 (0, 0))) ∧ As (Below w.heap.size w wc))
        case first =>
         have H := HC14.out
         clear HC14
         by_cases c15 : (rd l0 x7_2) < 0
         ·rw [if_pos c15] at H
          have c15b0 : decide ((rd l0 x7_2) < 0) = true := decide_eq_true c15
          clear c15
          (first | rw [c15b0] | (simp only [i64_w, i32_w]; rw [c15b0]) | skip)
          have H' := As.mk H
          clear H
          go_wp2
          go_meet
          case rel => exact ⟨_, (true), (by first | rfl | (simp; done) | (simp [*]; done)), H', ⟨by have := HJ2.out; have := HK2.out; first | omega | exact Nat.le_refl _⟩, ⟨by (with_reducible repeat first | apply rA | apply rN | apply rD); exact HO_6.out⟩, ⟨by (with_reducible repeat first | apply bN | apply bD | apply bA); exact BK124.out⟩, ⟨by repeat (first | (with_reducible first | exact HB.out | apply ba | apply bw | apply b1 | refine bs ?_ GE124.out) | exact HB.out)⟩⟩
         ·rw [if_neg c15] at H
          have c15b0 : decide ((rd l0 x7_2) < 0) = false := decide_eq_false c15
          clear c15
          (first | rw [c15b0] | (simp only [i64_w, i32_w]; rw [c15b0]) | skip)
          replace H := Option.bind_eq_some_iff.mp H
          obtain ⟨t135, A160, H⟩ := H
          replace H : (spec_PackOf.j2 k2 l0 a1 x6_2 x7_2 (rd l0 x7_2) (decide ((rd l0 x7_2) ≥ t135))) = some (r1, r2, r3, r4, r5) := H
          have A16 := As.mk A160
          clear A160
          have H' := As.mk H
          clear H
          go_wp2_with (first | (go_at_call 48; (with_reducible refine (spec_l02Pow.calls k2 a1 t135 _ A16.out).mono ?_); rintro e w' ⟨rfl, ⟨nd, rfl⟩⟩))
          go_meet
          case rel => exact ⟨_, (decide ((rd l0 x7_2) ≥ t135)), (by first | rfl | (simp; done) | (simp [*]; done)), H', ⟨by have := HJ2.out; have := HK2.out; first | omega | exact Nat.le_refl _⟩, ⟨by (with_reducible repeat first | apply rA | apply rN | apply rD); exact HO_6.out⟩, ⟨by (with_reducible repeat first | apply bN | apply bD | apply bA); exact BK124.out⟩, ⟨by repeat (first | (with_reducible first | exact HB.out | apply ba | apply bw | apply b1 | refine bs ?_ GE124.out) | exact HB.out)⟩⟩
        case rest =>
         clear HC14
         try clear c1
         try clear p1
         try clear q1
         try clear hx1
         try clear p2
         try clear c5
         try clear c5b0
         try clear c6
         try clear c6b0
         try clear p6
         try clear c7
         try clear c7b0
         try clear c7b1
         try clear c8
         try clear c12
         try clear c12b0
         try clear c13
         try clear c13b0
         try clear p13
         try clear q13
         try clear hx13
         try clear c15
         try clear c15b0
         try clear hcz9_0
         try clear hcz9_1
         try clear hcz9_2
         try clear hcz9_3
         try clear hfz9_0
         try clear hfz9_1
         try clear hfz9_2
         try clear hfz9_3
         try clear hx134_0
         try clear p134
         try clear p2
         try clear p6
         try clear q134
         obtain ⟨kq, x49_13, rfl, HA, HJ13, HO_6, BK124, HB⟩ := hcut
         cases kq with
         | zero => exact absurd HA.out (by simp [spec_PackOf.j2])
         | succ kj13 =>
          have H := HA.out
          clear HA
          simp only [spec_PackOf.j2] at H
          by_cases c17 : x49_13 = true
          ·subst c17
           have H1 : (some (0, 0, 0, ([] : List Int), false)) = some (r1, r2, r3, r4, r5) := by rw [if_pos rfl] at H; exact H
           clear H
           have H := H1
           clear H1
           simp only [Option.some.injEq, Prod.mk.injEq] at H
           obtain ⟨rfl, rfl, rfl, rfl, rfl⟩ := H
           have hcz18_0 : wc.cell? ⟨gb124, 0, none⟩ = some (.int .i64 x125000_2) := (blk_cell BK124.out 0).trans rfl
           have hcz18_1 : wc.cell? ⟨gb124, 1, none⟩ = some (.int .i64 x125001_2) := (blk_cell BK124.out 1).trans rfl
           have hcz18_2 : wc.cell? ⟨gb124, 2, none⟩ = some (.int .i64 x125002_2) := (blk_cell BK124.out 2).trans rfl
           have hcz18_3 : wc.cell? ⟨gb124, 3, none⟩ = some (.slice none 0 0) := (blk_cell BK124.out 3).trans rfl
           have hfz18_0 := blk_frozen BK124.out 0
           have hfz18_1 := blk_frozen BK124.out 1
           have hfz18_2 := blk_frozen BK124.out 2
           have hfz18_3 := blk_frozen BK124.out 3
           go_wp2
           refine bodyPost_ret (results_ct rfl _ _ gb124 31 #[.int .i64 0, .int .i64 0, .int .i64 0, .slice none 0 0] (0, 0) _ rfl (by (with_reducible repeat first | apply bN | apply bD | apply bA); refine blk_put (cs := #[.int .i64 0, .int .i64 0, .int .i64 0, .slice none 0 0]) ?_ 3 _ rfl; (with_reducible repeat first | apply bN | apply bD | apply bA); refine blk_put (cs := #[.int .i64 0, .int .i64 0, .int .i64 x125002_2, .slice none 0 0]) ?_ 2 _ rfl; (with_reducible repeat first | apply bN | apply bD | apply bA); refine blk_put (cs := #[.int .i64 0, .int .i64 x125001_2, .int .i64 x125002_2, .slice none 0 0]) ?_ 1 _ rfl; (with_reducible repeat first | apply bN | apply bD | apply bA); refine blk_put (cs := #[.int .i64 x125000_2, .int .i64 x125001_2, .int .i64 x125002_2, .slice none 0 0]) ?_ 0 _ rfl; (with_reducible repeat first | apply bN | apply bD | apply bA); exact BK124.out) Try.underlying31 rfl (by kernel_rfl)) rfl ?_
           exact ⟨_, by first | rfl | (simp [errW_none, errW_some] <;> rfl) | (simp [*, errW_none, errW_some] <;> rfl), by first | exact Kd.R_nil _ _ _ _ _ | exact Kd.N_nil _ _ _ _ _ | exact Kd.V_nil _ _ _ _ _ | exact Kd.Q_nil _ _ _ _ _ | exact Kd.S_nil _ _ _ _ _, by repeat (first | (with_reducible first | exact HB.out | apply ba | apply bw | apply b1 | refine bs ?_ GE124.out) | exact HB.out)⟩
          ·replace c17 := Bool.eq_false_iff.mpr c17
           subst c17
           have H1 : (spec_PackOf.l1 kj13 l0 a1 x6_2 x7_2 (rd l0 x7_2) 0) = some (r1, r2, r3, r4, r5) := by rw [if_neg (show ¬ (false = true) by decide)] at H; exact H
           clear H
           have H := H1
           clear H1
           have H' := As.mk H
           clear H
           go_wp2
           (try simp only [Act.put, List.setIfInBounds_toArray, List.set_cons_zero, List.set_cons_succ])
           go_loopg [6, 8, 9] kj13 (fun kq v6 v8 v9 w' => ∃ (x6_4 : List Int) (x8_4 : Int) (x9_4 : Int), v8 = .int .i64 x8_4 ∧ v9 = .int .i64 x9_4 ∧ As (spec_PackOf.l1 kq l0 a1 x6_4 x7_2 x8_4 x9_4 = some (r1, r2, r3, r4, r5)) ∧ As (kq ≤ kj13) ∧ As (Kd.R (Kd.int .i64) 3 w' w.heap.size (fun _ => True) v6 x6_4) ∧ As (w'.heap[gb124]? = some (.cells #[.int .i64 x125000_2, .int .i64 x125001_2, .int .i64 x125002_2, (.slice none 0 0)] 31 (0, 0))) ∧ As (Below w.heap.size w w'))
           case atStart => exact ⟨(x6_2), ((rd l0 x7_2)), (0), (by first | rfl | (simp; done) | (simp [*]; done)), (by first | rfl | (simp; done) | (simp [*]; done)), H', ⟨Nat.le_refl _⟩, ⟨by (with_reducible repeat first | apply rA | apply rN | apply rD); exact HO_6.out⟩, ⟨by (with_reducible repeat first | apply bN | apply bD | apply bA); exact BK124.out⟩, ⟨by repeat (first | (with_reducible first | exact HB.out | apply ba | apply bw | apply b1 | refine bs ?_ GE124.out) | exact HB.out)⟩⟩
           case round =>
            clear H'
            try clear c1
            try clear p1
            try clear q1
            try clear hx1
            try clear p2
            try clear c5
            try clear c5b0
            try clear c6
            try clear c6b0
            try clear p6
            try clear c7
            try clear c7b0
            try clear c7b1
            try clear c8
            try clear c12
            try clear c12b0
            try clear c13
            try clear c13b0
            try clear p13
            try clear q13
            try clear hx13
            try clear c15
            try clear c15b0
            try clear c17
            try clear hcz18_0
            try clear hcz18_1
            try clear hcz18_2
            try clear hcz18_3
            try clear hcz9_0
            try clear hcz9_1
            try clear hcz9_2
            try clear hcz9_3
            try clear hfz18_0
            try clear hfz18_1
            try clear hfz18_2
            try clear hfz18_3
            try clear hfz9_0
            try clear hfz9_1
            try clear hfz9_2
            try clear hfz9_3
            try clear hx134_0
            try clear p1
            try clear p13
            try clear p134
            try clear p2
            try clear p6
            try clear q1
            try clear q13
            try clear q134
            obtain ⟨x6_4, x8_4, x9_4, rfl, rfl, HA, HK4, HO_6, BK124, HB⟩ := hrel
            cases gk with
            | zero => exact absurd HA.out (by simp [spec_PackOf.l1])
            | succ k4 =>
             have H := HA.out
             clear HA
             simp only [spec_PackOf.l1] at H
             by_cases c19 : x9_4 < a1
             ·rw [if_pos c19] at H
              have c19b0 : decide (x9_4 < a1) = true := decide_eq_true c19
              clear c19
              by_cases c20 : x6_4.length < 17592186044416
              ·rw [if_pos c20] at H
               have LMc20 := As.mk c20
               clear c20
               obtain ⟨y136, hy136⟩ : ∃ y_ : List Int, y_ = (x6_4 ++ [Int.tmod x8_4 2]) := ⟨_, rfl⟩
               replace H : (spec_PackOf.l1 k4 l0 a1 y136 x7_2 (wrap64 (Int.tdiv x8_4 2)) (wrap64 (x9_4 + 1))) = some (r1, r2, r3, r4, r5) := by first | (rw [hy136]; with_reducible exact H) | (have H2_ := (Option.bind_some _ _).symm.trans H; rw [hy136]; with_reducible exact H2_) | (have H2_ := (Option.bind_some _ _).symm.trans H; with_reducible exact H2_) | with_reducible exact H | (rw [hy136]; exact H) | exact H
               have Ny136 := As.mk hy136
               clear hy136
               have H' := As.mk H
               clear H
               go_wp2_with (first | ((with_reducible refine gate_builtin (b := .append) (xs := #[.tmp 56, .tmp 59]) rfl ?_); (try (refine gate_guard (by rfl) ?_; dsimp only)); at_builtin; refine Kd.R_append (Kd.int .i64) (w0 := w) w.heap.size rfl (.tmp 56) (.tmp 59) 37 3 (.int .i64 0) 8 rfl Try.underlying37 info3 rfl (by decide) (by omega) u6 x6_4 (Int.tmod x8_4 2) [.int .i64 (Int.tmod x8_4 2)] (fun _ => True) (fun _ => False) rfl rfl ?aP (fun _ hk => hk.elim) ?aF ?aO ?aB ?aS ?aL ?_; (case aP => exact rfl); (case aB => exact (by repeat (first | (with_reducible first | exact HB.out | apply ba | apply bw | apply b1 | refine bs ?_ GE124.out) | exact HB.out))); (case aF => exact (fun _ _ => trivial)); (case aO => exact (by (with_reducible repeat first | apply rA | apply rN | apply rD); exact HO_6.out)); (case aS => exact (bz (by repeat (first | (with_reducible first | exact HB.out | apply ba | apply bw | apply b1 | refine bs ?_ GE124.out) | exact HB.out)))); (case aL => have := LMc20.out; omega); intro v137 w21 ho hb hg hat; rw [← Ny136.out] at ho; have n0_ := As.mk (blk_grown (g := gb124) (o := .cells #[.int .i64 x125000_2, .int .i64 x125001_2, .int .i64 x125002_2, .slice none 0 0] 31 (0, 0)) (by (with_reducible repeat first | apply bN | apply bD | apply bA); exact BK124.out) hg (Kd.R_ne HO_6.out BK124.out (by decide))); have n1_ := As.mk (hb); have n2_ := As.mk (ho); clear BK124; clear HB; clear HO_6; have BK124 := n0_; have HB := n1_; have HO138 := n2_; clear n0_ n1_ n2_; clear ho hb hg hat))
               go_roundg k4
               case measure => have := HJ2.out; have := HK2.out; have := HJ13.out; have := HK4.out; omega
               case rel => exact ⟨(y136), (wrap64 (Int.tdiv x8_4 2)), (wrap64 (x9_4 + 1)), (by first | rfl | (simp; done) | (simp [*]; done)), (by first | rfl | (simp; done) | (simp [*]; done)), H', ⟨by have := HJ2.out; have := HK2.out; have := HJ13.out; have := HK4.out; omega⟩, ⟨by (with_reducible repeat first | apply rA | apply rN | apply rD); exact HO138.out⟩, ⟨by (with_reducible repeat first | apply bN | apply bD | apply bA); exact BK124.out⟩, ⟨by repeat (first | (with_reducible first | exact HB.out | apply ba | apply bw | apply b1 | refine bs ?_ GE124.out) | exact HB.out)⟩⟩
              ·rw [if_neg c20] at H
               exact absurd H (by simp)
             ·rw [if_neg c19] at H
              have c19b0 : decide (x9_4 < a1) = false := decide_eq_false c19
              clear c19
              have H' := As.mk H
              clear H
              go_wp2
              go_roundg k4
              case measure => have := HJ2.out; have := HK2.out; have := HJ13.out; have := HK4.out; omega
              case rel => exact ⟨(x6_4), (wrap64 (x7_2 + 1)), (x125000_2), (x125001_2), (x125002_2), (by first | rfl | (simp; done) | (simp [*]; done)), H', ⟨by have := HJ2.out; have := HK2.out; have := HJ13.out; have := HK4.out; omega⟩, ⟨by (with_reducible repeat first | apply rA | apply rN | apply rD); exact HO_6.out⟩, ⟨by (with_reducible repeat first | apply bN | apply bD | apply bA); exact BK124.out⟩, ⟨by repeat (first | (with_reducible first | exact HB.out | apply ba | apply bw | apply b1 | refine bs ?_ GE124.out) | exact HB.out)⟩⟩
       ·rw [if_neg c13] at H
        exact absurd H (by simp)
      ·rw [if_neg c12] at H
       have c12b0 : decide (x7_2 < (l0.length : Int)) = false := decide_eq_false c12
       clear c12
       replace H := Option.bind_eq_some_iff.mp H
       obtain ⟨⟨t128, t129, t132⟩, A220, H⟩ := H
       replace H : (some (a1, (l0.length : Int), t128, t129, true)) = some (r1, r2, r3, r4, r5) := H
       have A22 := As.mk A220
       clear A220
       simp only [Option.some.injEq, Prod.mk.injEq] at H
       obtain ⟨rfl, rfl, rfl, rfl, rfl⟩ := H
       obtain ⟨Ao23, co23, eo23⟩ := rS HO_6.out
       subst eo23
       go_wp2_with (first | ((with_reducible refine gc (f := 49) rfl ?_); refine goesL_ (some 65) rfl rfl Try.func49 (by kernel_rfl) rfl #[.slice Ao23 x6_2.length co23] rfl (by (try simp only [List.map_toArray, List.map_cons, List.map_nil]); first | done | rfl | (simp only [List.length_drop, List.length_take]; rfl)) ?_; (with_reducible refine (spec_BitsOf.calls k2 _ _ x6_2 t128 t129 t132 _ ?side1 ?side2 A22.out).mono ?_); (case side1 => repeat (first | exact (rR HO_6.out).2.2 | (with_reducible refine cA ?_ _) | (with_reducible refine cN ?_ _) | (with_reducible refine cD ?_))); (case side2 => exact (rR HO_6.out).2.1); rintro e w24 ⟨v130, rfl, ho0, hb⟩; refine ⟨_, rfl, ?_⟩; have n0_ := As.mk (rB (by (with_reducible repeat first | apply rA | apply rN | apply rD); exact HO_6.out) hb); have n1_ := As.mk (rL ho0 (bz (by repeat (first | (with_reducible first | exact HB.out | apply ba | apply bw | apply b1 | refine bs ?_ GE124.out) | exact HB.out)))); have n2_ := As.mk (bb (g := gb124) (o := .cells #[.int .i64 x125000_2, .int .i64 x125001_2, .int .i64 x125002_2, .slice none 0 0] 31 (0, 0)) (by (with_reducible repeat first | apply bN | apply bD | apply bA); exact BK124.out) hb); have n3_ := As.mk (bt (by repeat (first | (with_reducible first | exact HB.out | apply ba | apply bw | apply b1 | refine bs ?_ GE124.out) | exact HB.out)) hb); clear HO_6; clear BK124; clear HB; have HO_6 := n0_; have HO131 := n1_; have BK124 := n2_; have HB := n3_; clear n0_ n1_ n2_ n3_; (try clear hb); (try clear hb2); (try clear hk); (try clear hi); (try clear ho0)) | ((with_reducible refine gd (N := 10) rfl ?_); (try (refine gate_guard (by rfl) ?_; dsimp only)); refine box_event ?hg (N := 10) ?hd (cs := #[.int .i64 0, .slice none 0 0]) (t := 29) ?hr ?_; (case hd => rfl); (case hg => rfl); (case hr => first | (go_simp; done) | (go_simp; rfl)); intro gb133 hg w25 hbox hb; have n0_ := As.mk (rB (by (with_reducible repeat first | apply rA | apply rN | apply rD); exact HO_6.out) hb); have n1_ := As.mk (rB (by (with_reducible repeat first | apply rA | apply rN | apply rD); exact HO131.out) hb); have n2_ := As.mk (bb (g := gb124) (o := .cells #[.int .i64 x125000_2, .int .i64 x125001_2, .int .i64 x125002_2, .slice none 0 0] 31 (0, 0)) (by (with_reducible repeat first | apply bN | apply bD | apply bA); exact BK124.out) hb); have n3_ := As.mk (bt (by repeat (first | (with_reducible first | exact HB.out | apply ba | apply bw | apply b1 | refine bs ?_ GE124.out) | exact HB.out)) hb); have n4_ := As.mk (hbox); have n5_ := As.mk ((by rw [hg]; exact (bz (by repeat (first | (with_reducible first | exact HB.out | apply ba | apply bw | apply b1 | refine bs ?_ GE124.out) | exact HB.out))) : w.heap.size ≤ gb133)); have n6_ := n5_; have n7_ := As.mk ((by rw [hg]; exact Nat.ne_of_lt (blk_lt (g := gb124) (o := .cells #[.int .i64 x125000_2, .int .i64 x125001_2, .int .i64 x125002_2, .slice none 0 0] 31 (0, 0)) (by (with_reducible repeat first | apply bN | apply bD | apply bA); exact BK124.out)) : gb124 ≠ gb133)); have n8_ := As.mk n7_.out.symm; clear HO_6; clear HO131; clear BK124; clear HB; have HO_6 := n0_; have HO131 := n1_; have BK124 := n2_; have HB := n3_; have BK133 := n4_; have GW133 := n5_; have GE133 := n6_; have NB124_133 := n7_; have NB133_124 := n8_; clear n0_ n1_ n2_ n3_ n4_ n5_ n6_ n7_ n8_; clear hb hbox hg; have hnb26 := NB133_124.out; have hnc26 := NB124_133.out; have hcz27_0 : w25.cell? ⟨gb133, 0, none⟩ = some (.int .i64 0) := (blk_cell BK133.out 0).trans rfl; have hcz27_1 : w25.cell? ⟨gb133, 1, none⟩ = some (.slice none 0 0) := (blk_cell BK133.out 1).trans rfl; have hfz27_0 := blk_frozen BK133.out 0; have hfz27_1 := blk_frozen BK133.out 1; obtain ⟨Ao28, co28, eo28⟩ := rS HO131.out; subst eo28; have hcz29_0 : w25.cell? ⟨gb124, 0, none⟩ = some (.int .i64 x125000_2) := (blk_cell BK124.out 0).trans rfl; have hcz29_1 : w25.cell? ⟨gb124, 1, none⟩ = some (.int .i64 x125001_2) := (blk_cell BK124.out 1).trans rfl; have hcz29_2 : w25.cell? ⟨gb124, 2, none⟩ = some (.int .i64 x125002_2) := (blk_cell BK124.out 2).trans rfl; have hcz29_3 : w25.cell? ⟨gb124, 3, none⟩ = some (.slice none 0 0) := (blk_cell BK124.out 3).trans rfl; have hfz29_0 := blk_frozen BK124.out 0; have hfz29_1 := blk_frozen BK124.out 1; have hfz29_2 := blk_frozen BK124.out 2; have hfz29_3 := blk_frozen BK124.out 3))
       refine bodyPost_ret (results_ct rfl _ _ gb124 31 #[.int .i64 a1, .int .i64 (l0.length : Int), .int .i64 t128, .slice Ao28 t129.length co28] (0, 0) _ rfl (by (with_reducible repeat first | apply bN | apply bD | apply bA); refine blk_put (cs := #[.int .i64 a1, .int .i64 (l0.length : Int), .int .i64 t128, .slice none 0 0]) ?_ 3 _ rfl; (with_reducible repeat first | apply bN | apply bD | apply bA); refine blk_put (cs := #[.int .i64 a1, .int .i64 (l0.length : Int), .int .i64 x125002_2, .slice none 0 0]) ?_ 2 _ rfl; (with_reducible repeat first | apply bN | apply bD | apply bA); refine blk_put (cs := #[.int .i64 a1, .int .i64 x125001_2, .int .i64 x125002_2, .slice none 0 0]) ?_ 1 _ rfl; (with_reducible repeat first | apply bN | apply bD | apply bA); refine blk_put (cs := #[.int .i64 x125000_2, .int .i64 x125001_2, .int .i64 x125002_2, .slice none 0 0]) ?_ 0 _ rfl; (with_reducible repeat first | apply bN | apply bD | apply bA); refine blk_far ?_ NB124_133.out _; (with_reducible repeat first | apply bN | apply bD | apply bA); refine blk_far ?_ NB124_133.out _; (with_reducible repeat first | apply bN | apply bD | apply bA); exact BK124.out) Try.underlying31 rfl (by kernel_rfl)) rfl ?_
       exact ⟨_, by first | rfl | (simp [errW_none, errW_some] <;> rfl) | (simp [*, errW_none, errW_some] <;> rfl), by (with_reducible repeat first | apply rA | apply rN | apply rD); exact Kd.R_mono (Kd.R_far (p := ⟨gb124, 3, none⟩) (Kd.R_far (p := ⟨gb124, 2, none⟩) (Kd.R_far (p := ⟨gb124, 1, none⟩) (Kd.R_far (p := ⟨gb124, 0, none⟩) (Kd.R_far (p := ⟨gb133, 1, none⟩) (Kd.R_far (p := ⟨gb133, 0, none⟩) (Kd.R_types (Kd.R_types HO131.out BK133.out (by decide)) BK124.out (by decide)) (fun _ hk => hk.1.2) (.int .i64 t128)) (fun _ hk => hk.1.2) (.slice Ao28 t129.length co28)) (fun _ hk => hk.2) (.int .i64 a1)) (fun _ hk => hk.2) (.int .i64 (l0.length : Int))) (fun _ hk => hk.2) (.int .i64 t128)) (fun _ hk => hk.2) (.slice Ao28 t129.length co28)) (fun _ hk => trivial), by repeat (first | (with_reducible first | exact HB.out | apply ba | apply bw | apply b1 | refine bs ?_ GE124.out | refine bs ?_ GE133.out) | exact HB.out)⟩

/-! ### spec_WidthOf: function 81 -/
def spec_WidthOf.l0 : Nat → Int → Int → Option (Int)
 | 0, _, _ => none
 | k + 1, x0, x3 => if x0 > 0 then (spec_WidthOf.l0 k (wrap64 (Int.tdiv x0 2)) (wrap64 (x3 + 1))) else (some x3)
def spec_WidthOf.f (k : Nat) (a0 : Int) : Option (Int) := if a0 < 0 then (some (-1)) else (spec_WidthOf.l0 k a0 0)
theorem spec_WidthOf.mono_l : ∀ k, (∀ y0 y1, LeO (spec_WidthOf.l0 k y0 y1) (spec_WidthOf.l0 (k + 1) y0 y1))
 | 0 => fun _ _ r h => by simp [spec_WidthOf.l0] at h
 | k + 1 => by
  have ih0 := spec_WidthOf.mono_l k
  ·intro y0 y1
   unfold spec_WidthOf.l0
   repeat' first
   | (with_reducible exact ih0 _ _)
   | (with_reducible exact LeO.refl _)
   | (with_reducible exact LeO.none _)
   | (with_reducible refine LeO.ite ?_ ?_)
   | (with_reducible refine LeO.bind ?_ (fun _ => ?_))
   | exact ih0 _ _
   | exact LeO.none _
   | refine LeO.ite ?_ ?_
   | refine LeO.bind ?_ (fun _ => ?_)
theorem spec_WidthOf.mono : ∀ a0 k, LeO (spec_WidthOf.f k a0) (spec_WidthOf.f (k + 1) a0) := by
 intro a0 k
 have ih0 := spec_WidthOf.mono_l k
 unfold spec_WidthOf.f
 repeat' first
   | (with_reducible exact ih0 _ _)
   | (with_reducible exact LeO.refl _)
   | (with_reducible exact LeO.none _)
   | (with_reducible refine LeO.ite ?_ ?_)
   | (with_reducible refine LeO.bind ?_ (fun _ => ?_))
   | exact ih0 _ _
   | exact LeO.none _
   | refine LeO.ite ?_ ?_
   | refine LeO.bind ?_ (fun _ => ?_)
set_option maxHeartbeats 8000000 in
set_option maxRecDepth 100000 in
theorem spec_WidthOf.calls (k : Nat) (a0 : Int) (r : Int) (w : World) (h : spec_WidthOf.f k a0 = some r) :
  Calls Try.prog 81 #[.int .i64 a0] w fun e w' => e = .returned (.int .i64 r) ∧ Drawn0 w w' := by
 have H : (if a0 < 0 then (some (-1)) else (spec_WidthOf.l0 k a0 0)) = some r := h
 clear h
 by_cases c2 : a0 < 0
 ·rw [if_pos c2] at H
  have c2b0 : decide (a0 < 0) = true := decide_eq_true c2
  clear c2
  obtain rfl := Option.some.inj H
  go_enter Try.func81, Try.ntmps81
  go_wp2
  go_ret
  exact ⟨by first | rfl | (simp; done) | (simp [*]; done), by repeat (first | exact Drawn0.refl _ | apply Drawn0.step)⟩
 ·rw [if_neg c2] at H
  have c2b0 : decide (a0 < 0) = false := decide_eq_false c2
  clear c2
  have H' := As.mk H
  clear H
  go_enter Try.func81, Try.ntmps81
  go_wp2
  (try simp only [Act.put, List.setIfInBounds_toArray, List.set_cons_zero, List.set_cons_succ])
  go_loopg [0, 3] k (fun kq v0 v3 w' => ∃ (x0_1 : Int) (x3_1 : Int), v0 = .int .i64 x0_1 ∧ v3 = .int .i64 x3_1 ∧ As (spec_WidthOf.l0 kq x0_1 x3_1 = some r) ∧ As (kq ≤ k) ∧ Drawn0 w w')
  case atStart => exact ⟨(a0), (0), (by first | rfl | (simp; done) | (simp [*]; done)), (by first | rfl | (simp; done) | (simp [*]; done)), H', ⟨Nat.le_refl _⟩, by repeat (first | exact Drawn0.refl _ | apply Drawn0.step)⟩
  case round =>
   clear H'
   try clear c2
   try clear c2b0
   try clear p2
   obtain ⟨x0_1, x3_1, rfl, rfl, HA, HK1, ⟨m1, rfl⟩⟩ := hrel
   cases gk with
   | zero => exact absurd HA.out (by simp [spec_WidthOf.l0])
   | succ k1 =>
    have H := HA.out
    clear HA
    simp only [spec_WidthOf.l0] at H
    by_cases c3 : x0_1 > 0
    ·rw [if_pos c3] at H
     have c3b0 : decide (0 < x0_1) = true := decide_eq_true c3
     clear c3
     have H' := As.mk H
     clear H
     go_wp2
     go_roundg k1
     case measure => have := HK1.out; omega
     case rel => exact ⟨(wrap64 (Int.tdiv x0_1 2)), (wrap64 (x3_1 + 1)), (by first | rfl | (simp; done) | (simp [*]; done)), (by first | rfl | (simp; done) | (simp [*]; done)), H', ⟨by have := HK1.out; omega⟩, by repeat (first | exact Drawn0.refl _ | apply Drawn0.step)⟩
    ·rw [if_neg c3] at H
     have c3b0 : decide (0 < x0_1) = false := decide_eq_false c3
     clear c3
     obtain rfl := Option.some.inj H
     go_wp2
     go_ret
     exact ⟨by first | rfl | (simp; done) | (simp [*]; done), by repeat (first | exact Drawn0.refl _ | apply Drawn0.step)⟩

/-! ### spec_l03Width: function 61 -/
def spec_l03Width.f (k : Nat) (a0 : Int) (a1 : Int) : Option (Int) := if a0 = 0 then (some 0) else ((spec_WidthOf.f k (wrap64 (Int.tdiv a1 a0))).bind fun t139 => (some (mx 0 (wrap64 (t139 - 1)))))
theorem spec_l03Width.mono : ∀ a0 a1 k, LeO (spec_l03Width.f k a0 a1) (spec_l03Width.f (k + 1) a0 a1) := by
 intro a0 a1 k
 unfold spec_l03Width.f
 repeat' first
   | (with_reducible exact spec_WidthOf.mono _ _)
   | (with_reducible exact LeO.refl _)
   | (with_reducible exact LeO.none _)
   | (with_reducible refine LeO.ite ?_ ?_)
   | (with_reducible refine LeO.bind ?_ (fun _ => ?_))
   | exact spec_WidthOf.mono _ _
   | exact LeO.none _
   | refine LeO.ite ?_ ?_
   | refine LeO.bind ?_ (fun _ => ?_)
set_option maxHeartbeats 8000000 in
set_option maxRecDepth 100000 in
theorem spec_l03Width.calls (k : Nat) (a0 : Int) (a1 : Int) (r : Int) (w : World) (h : spec_l03Width.f k a0 a1 = some r) :
  Calls Try.prog 61 #[.int .i64 a0, .int .i64 a1] w fun e w' => e = .returned (.int .i64 r) ∧ Below w.heap.size w w' := by
 have HB := As.mk (Below.refl w.heap.size w)
 have H : (if a0 = 0 then (some 0) else ((spec_WidthOf.f k (wrap64 (Int.tdiv a1 a0))).bind fun t139 => (some (mx 0 (wrap64 (t139 - 1)))))) = some r := h
 clear h
 by_cases c3 : a0 = 0
 ·rw [if_pos c3] at H
  have c3b0 : (a0 == 0) = true := beq_iff_eq.mpr c3
  have c3b1 : (a0 != 0) = false := bne_eq_false_iff_eq.mpr c3
  clear c3
  obtain rfl := Option.some.inj H
  go_enter Try.func61, Try.ntmps61
  go_wp2
  go_ret
  exact ⟨by first | rfl | (simp [errW_none, errW_some] <;> rfl) | (simp [*, errW_none, errW_some] <;> rfl), by repeat (first | (with_reducible first | exact HB.out | apply ba | apply bw | apply b1) | exact HB.out)⟩
 ·rw [if_neg c3] at H
  have c3b0 : (a0 == 0) = false := beq_eq_false_iff_ne.mpr c3
  have c3b1 : (a0 != 0) = true := bne_iff_ne.mpr c3
  replace H := Option.bind_eq_some_iff.mp H
  obtain ⟨t139, A40, H⟩ := H
  replace H : (some (mx 0 (wrap64 (t139 - 1)))) = some r := H
  have A4 := As.mk A40
  clear A40
  obtain ⟨ji5, hji5⟩ : ∃ j_ : Int, (mx 0 (wrap64 (t139 - 1))) = j_ := ⟨_, rfl⟩
  replace H : (some ji5) = some r := by first | (rw [hji5] at H; exact H) | (simp only [hji5] at H ⊢; exact H)
  (try rw [hji5] at A4)
  (try (have hji5l : 0 ≤ ji5 := by (rw [← hji5]; unfold mx; (repeat' split) <;> omega)))
  (try (have hji5m : 0 ≤ ji5 := by omega))
  have hji5_ : (if 0 < (wrap64 (t139 - 1)) then (wrap64 (t139 - 1)) else 0) = ji5 := hji5
  obtain rfl := Option.some.inj H
  go_enter Try.func61, Try.ntmps61
  go_wp2_with (first | ((with_reducible refine gc (f := 81) rfl ?_); refine goesL_ (some 10) rfl rfl Try.func81 (by kernel_rfl) rfl #[.int .i64 (wrap64 (Int.tdiv a1 a0))] rfl (by (try simp only [List.map_toArray, List.map_cons, List.map_nil]); first | done | rfl | (simp only [List.length_drop, List.length_take]; rfl)) ?_; (with_reducible refine (spec_WidthOf.calls k (wrap64 (Int.tdiv a1 a0)) t139 _ A4.out).mono ?_); rintro e w' ⟨rfl, ⟨nd, rfl⟩⟩; refine ⟨_, rfl, ?_⟩))
  go_ret
  exact ⟨by first | rfl | (simp [errW_none, errW_some] <;> rfl) | (simp only [← hji5]; first | rfl | (simp [errW_none, errW_some] <;> rfl)) | (simp [*, errW_none, errW_some] <;> rfl), by repeat (first | (with_reducible first | exact HB.out | apply ba | apply bw | apply b1) | exact HB.out)⟩

end Go.Proofs.Yteckcjjkblkfkaa.QFnExactSparseOf
