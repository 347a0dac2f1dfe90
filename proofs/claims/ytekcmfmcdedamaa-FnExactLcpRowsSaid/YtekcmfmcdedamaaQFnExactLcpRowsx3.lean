-- WRITTEN BY A PROGRAM OF THIS SESSION (wip/tools/print2.py) out of Lean's own print of the loaded program; Lean checks every row.
import Derived.Test.YtekcmfmcdedamaaQFnExactLcpRowsx0
import Derived.Test.YtekcmfmcdedamaaQFnExactLcpRowsx2
namespace Go.Proofs.Ytekcmfmcdedamaa.QFnExactLcpRows
open Go.RowKit Go.Proofs.YtekcmfmcdedamaaW.PrintWords Go.Proofs.YtekcmfmcdedamaaW.PrintLast Go.Proofs.YtekcmfmcdedamaaW.PrintMore
attribute [local go_sem] max2_int min2_int max_two min_two max_three min_three max_four min_four   -- for this text's walks alone
set_option linter.unusedVariables false
set_option linter.unusedSimpArgs false

/-! ### spec_LcpRows: function 23 -/
def spec_LcpRows.l0 : Nat → List Int → List Int → List Int → Int → Option (List Int)
  | 0, _, _, _, _ => none
  | k + 1, x0, x3, x4, x5 => if x5 < (x3.length : Int) then (if x5 = 0 then (if x4.length < 17592186044416 then (spec_LcpRows.l0 k x0 x3 (x4 ++ [0]) (wrap64 (x5 + 1))) else (none)) else (if 0 ≤ (wrap64 (x5 - 1)) then (if (wrap64 (x5 - 1)) < (x3.length : Int) then (if 0 ≤ (rd x3 (wrap64 (x5 - 1))) then (if (rd x3 (wrap64 (x5 - 1))) ≤ (x0.length : Int) then (if 0 ≤ x5 then (if 0 ≤ (rd x3 x5) then (if (rd x3 x5) ≤ (x0.length : Int) then ((spec_l05Common.f k (x0.drop ((rd x3 (wrap64 (x5 - 1))) : Int).toNat) (x0.drop ((rd x3 x5) : Int).toNat)).bind fun t175 => (if x4.length < 17592186044416 then (spec_LcpRows.l0 k x0 x3 (x4 ++ [t175]) (wrap64 (x5 + 1))) else (none))) else (none)) else (none)) else (none)) else (none)) else (none)) else (none)) else (none))) else (some x4)
def spec_LcpRows.f (k : Nat) (l0 : List Int) : Option (List Int) := (spec_SuffixRows.f k l0).bind fun t156 => (spec_LcpRows.l0 k l0 t156 (([] : List Int)) 0)
theorem spec_LcpRows.mono_l : ∀ k, (∀ y0 y1 y2 y3, LeO (spec_LcpRows.l0 k y0 y1 y2 y3) (spec_LcpRows.l0 (k + 1) y0 y1 y2 y3))
  | 0 => fun _ _ _ _ r h => by simp [spec_LcpRows.l0] at h
  | k + 1 => by
    have ih0 := spec_LcpRows.mono_l k
    · intro y0 y1 y2 y3
      unfold spec_LcpRows.l0
      repeat' first
      | (with_reducible exact ih0 _ _ _ _)
      | (with_reducible exact spec_SuffixRows.mono _ _)
      | (with_reducible exact spec_l05Common.mono _ _ _)
      | (with_reducible exact LeO.refl _)
      | (with_reducible exact LeO.none _)
      | (with_reducible refine LeO.ite ?_ ?_)
      | (with_reducible refine LeO.bind ?_ (fun _ => ?_))
      | exact ih0 _ _ _ _
      | exact spec_SuffixRows.mono _ _
      | exact spec_l05Common.mono _ _ _
      | exact LeO.none _
      | refine LeO.ite ?_ ?_
      | refine LeO.bind ?_ (fun _ => ?_)
theorem spec_LcpRows.mono : ∀ a0 k, LeO (spec_LcpRows.f k a0) (spec_LcpRows.f (k + 1) a0) := by
  intro a0 k
  have ih0 := spec_LcpRows.mono_l k
  unfold spec_LcpRows.f
  repeat' first
      | (with_reducible exact ih0 _ _ _ _)
      | (with_reducible exact spec_SuffixRows.mono _ _)
      | (with_reducible exact spec_l05Common.mono _ _ _)
      | (with_reducible exact LeO.refl _)
      | (with_reducible exact LeO.none _)
      | (with_reducible refine LeO.ite ?_ ?_)
      | (with_reducible refine LeO.bind ?_ (fun _ => ?_))
      | exact ih0 _ _ _ _
      | exact spec_SuffixRows.mono _ _
      | exact spec_l05Common.mono _ _ _
      | exact LeO.none _
      | refine LeO.ite ?_ ?_
      | refine LeO.bind ?_ (fun _ => ?_)
def spec_LcpRows.T8 : Bool × List (List Nat × List Nat) := (true, [([], []), ([], []), ([], []), ([], []), ([3], [3]), ([2, 4], [2, 4]), ([5], [5]), ([1, 6], [1, 6]), ([], []), ([], []), ([], []), ([9, 10], [9, 10]), ([11], [11]), ([8, 12], [8, 12]), ([7, 13], [7, 13]), ([14], [14]), ([0, 15, 14], [0, 15]), ([16, 16, 0, 1, 2, 3, 4, 5, 6, 7, 8, 9, 10, 11, 12, 13, 14, 15, 16], [0, 16])])
def spec_LcpRows.B8 : List Nat := [0, 0, 0, 0, 8, 28, 60, 126, 0, 0, 0, 1536, 3584, 7936, 16382, 32766, 65535, 131071]
theorem spec_LcpRows.tab8 : rtab .any (opsOf Try.f23 8) = spec_LcpRows.T8 := by kernel_rfl
theorem spec_LcpRows.bits8 : waitsOk spec_LcpRows.T8.2 spec_LcpRows.B8 = true := by kernel_rfl
set_option maxHeartbeats 8000000 in
set_option maxRecDepth 100000 in
theorem spec_LcpRows.calls (k : Nat) (A0 : Option Addr) (c0 : Nat) (l0 : List Int) (r : List Int) (w : World) (hr0 : Kd.C (Kd.int .u8) w A0 l0.length l0) (hc0 : l0.length ≤ c0) (h : spec_LcpRows.f k l0 = some r) :
    Calls Try.prog 23 #[.slice A0 l0.length c0] w fun e w' => ∃ v0_ : Value, e = .returned (v0_) ∧ Kd.R (Kd.int .i64) 3 w' w.heap.size (fun _ => True) v0_ r ∧ Below w.heap.size w w' := by
  have HR0 := Aside0.mk hr0
  have HC0 := Aside0.mk hc0
  clear hr0 hc0
  have HB := Aside0.mk (Below.refl w.heap.size w)
  have H : ((spec_SuffixRows.f k l0).bind fun t156 => (spec_LcpRows.l0 k l0 t156 (([] : List Int)) 0)) = some r := h
  clear h
  replace H := Option.bind_eq_some_iff.mp H
  obtain ⟨t156, A20, H⟩ := H
  replace H : (spec_LcpRows.l0 k l0 t156 (([] : List Int)) 0) = some r := H
  have A2 := Aside0.mk A20
  clear A20
  obtain ⟨y159, hy159⟩ : ∃ y_ : List Int, y_ = (([] : List Int)) := ⟨_, rfl⟩
  replace H : (spec_LcpRows.l0 k l0 t156 y159 0) = some r := by first | (rw [hy159]; with_reducible exact H) | (have H2_ := (Option.bind_some _ _).symm.trans H; rw [hy159]; with_reducible exact H2_) | (have H2_ := (Option.bind_some _ _).symm.trans H; with_reducible exact H2_) | with_reducible exact H | (rw [hy159]; exact H) | exact H
  have Ny159 := Aside0.mk hy159
  clear hy159
  have H' := Aside0.mk H
  clear H
  go_enter Try.func23, Try.ntmps23
  go_wp2_with (first | ((with_reducible refine gate_callee (f := 19) rfl ?_); refine goesL_ (some 7) rfl rfl Try.func19 (by kernel_rfl) rfl #[.slice A0 l0.length c0] rfl (by (try simp only [List.map_toArray, List.map_cons, List.map_nil]); first | done | rfl | (simp only [List.length_drop, List.length_take]; rfl)) ?_; (with_reducible refine (spec_SuffixRows.calls k _ _ l0 t156 _ ?side1 ?side2 A2.out).mono ?_); (case side1 => repeat (first | exact HR0.out | (with_reducible refine Kd.C_alloc ?_ _) | (with_reducible refine Kd.C_drewN ?_ _) | (with_reducible refine Kd.C_drew ?_))); (case side2 => exact HC0.out); rintro e w3 ⟨v157, rfl, ho0, hb⟩; refine ⟨_, rfl, ?_⟩; have n0_ := Aside0.mk (Kd.R_lower ho0 (below_size (by repeat (first | (with_reducible first | exact HB.out | apply below_alloc | apply pw_below_drewN | apply below_drew1) | exact HB.out)))); have n1_ := Aside0.mk (below_step (by repeat (first | (with_reducible first | exact HB.out | apply below_alloc | apply pw_below_drewN | apply below_drew1) | exact HB.out)) hb); clear HB; have HO158 := n0_; have HB := n1_; clear n0_ n1_; (try clear hb); (try clear hb2); (try clear hk); (try clear hi); (try clear ho0)) | ((with_reducible refine gate_dst (N := 8) rfl ?_); refine Kd.R_lit (Kd.int .i64) _ 3 ?hg (N := 8) ?hd (xs := ([] : List Int)) (inner := []) (ok := fun _ => True) (okp := fun _ => True) ?hr ?hp (fun _ hk => hk) trivial (Below.refl _ _) (Nat.le_refl _) (by simp) ?_; (case hd => rfl); (case hg => rfl); (case hr => first | (go_simp; done) | (go_simp; rfl)); (case hp => exact (Reps.none _ _)); intro v160 w4 ho5 hb hg_ hnew_; clear hg_ hnew_; (first | rw [← Ny159.out] at ho5 | (simp only [Int.reduceToNat] at ho5; rw [← Ny159.out] at ho5)); have n0_ := Aside0.mk (Kd.R_elder' (by (with_reducible repeat (first | apply Kd.R_alloc | apply Kd.R_drewN | apply Kd.R_drew)); exact HO158.out) (Kd.R_base ho5) hb); have n1_ := Aside0.mk (Kd.R_lower (Kd.R_new' ho5 (Kd.R_lt (by (with_reducible repeat (first | apply Kd.R_alloc | apply Kd.R_drewN | apply Kd.R_drew)); exact HO158.out))) (below_size (by repeat (first | (with_reducible first | exact HB.out | apply below_alloc | apply pw_below_drewN | apply below_drew1) | exact HB.out)))); have n2_ := Aside0.mk (below_step (by repeat (first | (with_reducible first | exact HB.out | apply below_alloc | apply pw_below_drewN | apply below_drew1) | exact HB.out)) hb); clear HO158; clear HB; have HO158 := n0_; have HO161 := n1_; have HB := n2_; clear n0_ n1_ n2_; clear hb ho5))
  (try simp only [Act.put, List.setIfInBounds_toArray, List.set_cons_zero, List.set_cons_succ])
  go_loopg [4, 5] k (fun kq v4 v5 w' => ∃ (x4_1 : List Int) (x5_1 : Int), v5 = .int .i64 x5_1 ∧ Aside0 (spec_LcpRows.l0 kq l0 t156 x4_1 x5_1 = some r) ∧ Aside0 (kq ≤ k) ∧ Aside0 (Kd.R (Kd.int .i64) 3 w' w.heap.size (fun k_ => some k_ ≠ (v4 : Value).ownBlock) v157 t156) ∧ Aside0 (Kd.R (Kd.int .i64) 3 w' w.heap.size (fun k_ => some k_ ≠ (v157 : Value).ownBlock) v4 x4_1) ∧ Aside0 (Below w.heap.size w w'))
  case atStart => exact ⟨(y159), (0), (by first | rfl | (simp; done) | (simp [*]; done)), H', ⟨Nat.le_refl _⟩, ⟨by (with_reducible repeat (first | apply Kd.R_alloc | apply Kd.R_drewN | apply Kd.R_drew)); exact Kd.R_mono HO158.out (fun _ hk => hk.2)⟩, ⟨by (with_reducible repeat (first | apply Kd.R_alloc | apply Kd.R_drewN | apply Kd.R_drew)); exact Kd.R_mono HO161.out (fun _ hk => hk.2)⟩, ⟨by repeat (first | (with_reducible first | exact HB.out | apply below_alloc | apply pw_below_drewN | apply below_drew1) | exact HB.out)⟩⟩
  case round =>
    clear H'
    try clear c1
    try clear c2
    try clear p2
    obtain ⟨x4_1, x5_1, rfl, HA, HK1, HO_3, HO_4, HB⟩ := hrel
    cases gk with
    | zero => exact absurd HA.out (by simp [spec_LcpRows.l0])
    | succ k1 =>
      have H := HA.out
      clear HA
      simp only [spec_LcpRows.l0] at H
      by_cases c6 : x5_1 < (t156.length : Int)
      · rw [if_pos c6] at H
        have c6b0 : decide (x5_1 < (t156.length : Int)) = true := decide_eq_true c6
        clear c6
        by_cases c7 : x5_1 = 0
        · rw [if_pos c7] at H
          have c7b0 : (x5_1 == 0) = true := beq_iff_eq.mpr c7
          have c7b1 : (x5_1 != 0) = false := bne_eq_false_iff_eq.mpr c7
          clear c7
          by_cases c8 : x4_1.length < 17592186044416
          · rw [if_pos c8] at H
            have LMc8 := Aside0.mk c8
            clear c8
            obtain ⟨y162, hy162⟩ : ∃ y_ : List Int, y_ = (x4_1 ++ [0]) := ⟨_, rfl⟩
            replace H : (spec_LcpRows.l0 k1 l0 t156 y162 (wrap64 (x5_1 + 1))) = some r := by first | (rw [hy162]; with_reducible exact H) | (have H2_ := (Option.bind_some _ _).symm.trans H; rw [hy162]; with_reducible exact H2_) | (have H2_ := (Option.bind_some _ _).symm.trans H; with_reducible exact H2_) | with_reducible exact H | (rw [hy162]; exact H) | exact H
            have Ny162 := Aside0.mk hy162
            clear hy162
            have H' := Aside0.mk H
            clear H
            obtain ⟨Ao9, co9, eo9⟩ := Kd.R_slice HO_3.out
            subst eo9
            go_wp2_with (first | ((with_reducible refine gate_builtin (b := .append) (xs := #[.tmp 17, .tmp 18]) rfl ?_); at_builtin; refine Kd.R_append (Kd.int .i64) (w0 := w) w.heap.size rfl (.tmp 17) (.tmp 18) 27 3 (.int .i64 0) 8 rfl Try.underlying27 info3 rfl (by decide) (by omega) u4 x4_1 0 [.int .i64 0] (fun k_ => some k_ ≠ (.slice Ao9 t156.length co9 : Value).ownBlock) (fun _ => False) rfl rfl ?aP (fun _ hk => hk.elim) ?aF ?aO ?aB ?aS ?aL ?_; (case aP => exact rfl); (case aB => exact (by repeat (first | (with_reducible first | exact HB.out | apply below_alloc | apply pw_below_drewN | apply below_drew1) | exact HB.out))); (case aF => exact (fun k_ hk => Kd.fresh' (Kd.R_lt (by (with_reducible repeat (first | apply Kd.R_alloc | apply Kd.R_drewN | apply Kd.R_drew)); exact HO_3.out)) k_ hk)); (case aO => exact (by (with_reducible repeat (first | apply Kd.R_alloc | apply Kd.R_drewN | apply Kd.R_drew)); exact HO_4.out)); (case aS => exact (below_size (by repeat (first | (with_reducible first | exact HB.out | apply below_alloc | apply pw_below_drewN | apply below_drew1) | exact HB.out)))); (case aL => have := LMc8.out; omega); intro v163 w10 ho hb hg hat; rw [← Ny162.out] at ho; have n0_ := Aside0.mk (Kd.R_after (ok := (fun _ => True)) (by (with_reducible repeat (first | apply Kd.R_alloc | apply Kd.R_drewN | apply Kd.R_drew)); exact Kd.R_mono HO_3.out (fun _ hk => ⟨trivial, hk⟩)) hg hat); have n1_ := Aside0.mk (hb); have n2_ := Aside0.mk (ho); clear HO_3; clear HB; clear HO_4; have HO_3 := n0_; have HB := n1_; have HO164 := n2_; clear n0_ n1_ n2_; clear ho hb hg hat))
            go_roundg k1
            case measure => have := HK1.out; omega
            case rel => exact ⟨(y162), (wrap64 (x5_1 + 1)), (by first | rfl | (simp; done) | (simp [*]; done)), H', ⟨by have := HK1.out; omega⟩, ⟨by (with_reducible repeat (first | apply Kd.R_alloc | apply Kd.R_drewN | apply Kd.R_drew)); exact Kd.R_mono HO_3.out (fun _ hk => hk.2)⟩, ⟨by (with_reducible repeat (first | apply Kd.R_alloc | apply Kd.R_drewN | apply Kd.R_drew)); exact HO164.out⟩, ⟨by repeat (first | (with_reducible first | exact HB.out | apply below_alloc | apply pw_below_drewN | apply below_drew1) | exact HB.out)⟩⟩
          · rw [if_neg c8] at H
            exact absurd H (by simp)
        · rw [if_neg c7] at H
          have c7b0 : (x5_1 == 0) = false := beq_eq_false_iff_ne.mpr c7
          have c7b1 : (x5_1 != 0) = true := bne_iff_ne.mpr c7
          obtain ⟨ji11, hji11⟩ : ∃ j_ : Int, (wrap64 (x5_1 - 1)) = j_ := ⟨_, rfl⟩
          replace H : (if 0 ≤ (ji11) then (if (ji11) < (t156.length : Int) then (if 0 ≤ (rd t156 (ji11)) then (if (rd t156 (ji11)) ≤ (l0.length : Int) then (if 0 ≤ x5_1 then (if 0 ≤ (rd t156 x5_1) then (if (rd t156 x5_1) ≤ (l0.length : Int) then ((spec_l05Common.f k1 (l0.drop ((rd t156 (ji11)) : Int).toNat) (l0.drop ((rd t156 x5_1) : Int).toNat)).bind fun t175 => (if x4_1.length < 17592186044416 then (spec_LcpRows.l0 k1 l0 t156 (x4_1 ++ [t175]) (wrap64 (x5_1 + 1))) else (none))) else (none)) else (none)) else (none)) else (none)) else (none)) else (none)) else (none)) = some r := by first | (rw [hji11] at H; exact H) | (simp only [hji11] at H ⊢; exact H)
          have hji11w : (IntKind.i64.wrap (x5_1 - 1)) = ji11 := (i64_w _).trans hji11
          by_cases c12 : 0 ≤ (ji11)
          · rw [if_pos c12] at H
            have c12b0 : decide (0 ≤ (ji11)) = true := decide_eq_true c12
            clear c12
            by_cases c13 : (ji11) < (t156.length : Int)
            · rw [if_pos c13] at H
              have c13b0 : decide ((ji11) < (t156.length : Int)) = true := decide_eq_true c13
              clear c13
              by_cases c14 : 0 ≤ (rd t156 (ji11))
              · rw [if_pos c14] at H
                have c14b0 := eq_true c14
                have c14b1 : decide (0 ≤ (rd t156 (ji11))) = true := decide_eq_true c14
                clear c14
                by_cases c15 : (rd t156 (ji11)) ≤ (l0.length : Int)
                · rw [if_pos c15] at H
                  have c15b0 := eq_true c15
                  have c15b1 : decide ((rd t156 (ji11)) ≤ (l0.length : Int)) = true := decide_eq_true c15
                  clear c15
                  obtain ⟨y166, hy166⟩ : ∃ y_ : List Int, y_ = (l0.drop ((rd t156 (ji11)) : Int).toNat) := ⟨_, rfl⟩
                  replace H : (if 0 ≤ x5_1 then (if 0 ≤ (rd t156 x5_1) then (if (rd t156 x5_1) ≤ (l0.length : Int) then ((spec_l05Common.f k1 y166 (l0.drop ((rd t156 x5_1) : Int).toNat)).bind fun t175 => (if x4_1.length < 17592186044416 then (spec_LcpRows.l0 k1 l0 t156 (x4_1 ++ [t175]) (wrap64 (x5_1 + 1))) else (none))) else (none)) else (none)) else (none)) = some r := by first | (rw [hy166]; with_reducible exact H) | (have H2_ := (Option.bind_some _ _).symm.trans H; rw [hy166]; with_reducible exact H2_) | (have H2_ := (Option.bind_some _ _).symm.trans H; with_reducible exact H2_) | with_reducible exact H | (rw [hy166]; exact H) | exact H
                  have Ny166 := Aside0.mk hy166
                  clear hy166
                  by_cases c16 : 0 ≤ x5_1
                  · rw [if_pos c16] at H
                    have c16b0 : decide (0 ≤ x5_1) = true := decide_eq_true c16
                    clear c16
                    by_cases c17 : 0 ≤ (rd t156 x5_1)
                    · rw [if_pos c17] at H
                      have c17b0 := eq_true c17
                      have c17b1 : decide (0 ≤ (rd t156 x5_1)) = true := decide_eq_true c17
                      clear c17
                      by_cases c18 : (rd t156 x5_1) ≤ (l0.length : Int)
                      · rw [if_pos c18] at H
                        have c18b0 := eq_true c18
                        have c18b1 : decide ((rd t156 x5_1) ≤ (l0.length : Int)) = true := decide_eq_true c18
                        clear c18
                        obtain ⟨y171, hy171⟩ : ∃ y_ : List Int, y_ = (l0.drop ((rd t156 x5_1) : Int).toNat) := ⟨_, rfl⟩
                        replace H : ((spec_l05Common.f k1 y166 y171).bind fun t175 => (if x4_1.length < 17592186044416 then (spec_LcpRows.l0 k1 l0 t156 (x4_1 ++ [t175]) (wrap64 (x5_1 + 1))) else (none))) = some r := by first | (rw [hy171]; with_reducible exact H) | (have H2_ := (Option.bind_some _ _).symm.trans H; rw [hy171]; with_reducible exact H2_) | (have H2_ := (Option.bind_some _ _).symm.trans H; with_reducible exact H2_) | with_reducible exact H | (rw [hy171]; exact H) | exact H
                        have Ny171 := Aside0.mk hy171
                        clear hy171
                        replace H := Option.bind_eq_some_iff.mp H
                        obtain ⟨t175, A190, H⟩ := H
                        replace H : (if x4_1.length < 17592186044416 then (spec_LcpRows.l0 k1 l0 t156 (x4_1 ++ [t175]) (wrap64 (x5_1 + 1))) else (none)) = some r := H
                        have A19 := Aside0.mk A190
                        clear A190
                        by_cases c20 : x4_1.length < 17592186044416
                        · rw [if_pos c20] at H
                          have LMc20 := Aside0.mk c20
                          clear c20
                          obtain ⟨y176, hy176⟩ : ∃ y_ : List Int, y_ = (x4_1 ++ [t175]) := ⟨_, rfl⟩
                          replace H : (spec_LcpRows.l0 k1 l0 t156 y176 (wrap64 (x5_1 + 1))) = some r := by first | (rw [hy176]; with_reducible exact H) | (have H2_ := (Option.bind_some _ _).symm.trans H; rw [hy176]; with_reducible exact H2_) | (have H2_ := (Option.bind_some _ _).symm.trans H; with_reducible exact H2_) | with_reducible exact H | (rw [hy176]; exact H) | exact H
                          have Ny176 := Aside0.mk hy176
                          clear hy176
                          have H' := Aside0.mk H
                          clear H
                          obtain ⟨Ao21, co21, eo21⟩ := Kd.R_slice HO_3.out
                          subst eo21
                          try go_wp2
                          have n0_ := Aside0.mk (Kd.R_drew HO_3.out)
                          have n1_ := Aside0.mk (Kd.R_drew HO_4.out)
                          have n2_ := Aside0.mk (below_drew1 HB.out)
                          clear HO_3
                          clear HO_4
                          clear HB
                          have HO_3 := n0_
                          have HO_4 := n1_
                          have HB := n2_
                          clear n0_ n1_ n2_
                          have p165 : 0 ≤ ((ji11) : Int) := of_decide_eq_true (by first | (with_reducible assumption) | assumption)
                          have q165 : (ji11) < (t156.length : Int) := of_decide_eq_true (by first | (with_reducible assumption) | assumption)
                          obtain ⟨ad165, e165, hx165_0⟩ := Kd.at_int (Kd.R_reads' HO_3.out).2.2 (ji11) p165 q165
                          cases e165
                          replace p165 := eq_true p165
                          replace q165 := eq_true q165
                          have q23 : ((rd t156 (ji11)) : Int) ≤ ((l0.length : Int) : Int) := of_decide_eq_true (by first | (with_reducible assumption) | assumption)
                          obtain ⟨i023, hi023, _, hsz23, _⟩ := info_parts info5
                          have hroom23 : l0.length ≤ c0 := HC0.out
                          have hC23 : Kd.C (Kd.int .u8) _ A0 l0.length l0 := HR0.out
                          have q023 : (0 : Int) ≤ ((rd t156 (ji11)) : Int) := of_decide_eq_true (by first | (with_reducible assumption) | assumption)
                          have hcut23 := cut_from (P := Try.prog) 22 5 .i64 Try.underlying22 hi023 1 hsz23 A0 l0.length c0 (rd t156 (ji11)) q023 q23
                          have hr23 := Kd.C_drop (m := ((rd t156 (ji11)) : Int).toNat) (c := c0) hC23 (by omega) hroom23
                          obtain ⟨A23, hA23⟩ : ∃ A1, A1 = (if c0 = ((rd t156 (ji11)) : Int).toNat then A0 else (A0 : Option Addr).map (·.add (((rd t156 (ji11)) : Int).toNat * 1))) := ⟨_, rfl⟩
                          obtain ⟨c23, hc23⟩ : ∃ c1, c1 = c0 - ((rd t156 (ji11)) : Int).toNat := ⟨_, rfl⟩
                          have hy23 : y166.length = l0.length - ((rd t156 (ji11)) : Int).toNat := (by rw [Ny166.out, List.length_drop] <;> omega)
                          rw [show (l0).drop ((rd t156 (ji11)) : Int).toNat = y166 from Ny166.out.symm] at hr23
                          replace hr23 : Kd.C (Kd.int .u8) _ A23 y166.length y166 := (by rw [hA23]; exact hr23)
                          rw [← hy23, ← hA23, ← hc23] at hcut23
                          have HR169 := Aside0.mk hr23
                          have HC169 := Aside0.mk (show y166.length ≤ c23 from by rw [hy23, hc23]; exact Nat.sub_le_sub_right hroom23 _)
                          clear hr23 hC23 hroom23 hi023 hsz23 hc23
                          have KY23 := Aside0.mk hy23
                          have KA23 := Aside0.mk hA23
                          clear hy23 hA23
                          replace q23 := eq_true q23
                          have p170 : 0 ≤ (x5_1 : Int) := of_decide_eq_true (by first | (with_reducible assumption) | assumption)
                          have q170 : x5_1 < (t156.length : Int) := of_decide_eq_true (by first | (with_reducible assumption) | assumption)
                          obtain ⟨ad170, e170, hx170_0⟩ := Kd.at_int (Kd.R_reads' HO_3.out).2.2 x5_1 p170 q170
                          obtain rfl : ad165 = ad170 := (by injection e170)
                          replace p170 := eq_true p170
                          replace q170 := eq_true q170
                          have q24 : ((rd t156 x5_1) : Int) ≤ ((l0.length : Int) : Int) := of_decide_eq_true (by first | (with_reducible assumption) | assumption)
                          obtain ⟨i024, hi024, _, hsz24, _⟩ := info_parts info5
                          have hroom24 : l0.length ≤ c0 := HC0.out
                          have hC24 : Kd.C (Kd.int .u8) _ A0 l0.length l0 := HR0.out
                          have q024 : (0 : Int) ≤ ((rd t156 x5_1) : Int) := of_decide_eq_true (by first | (with_reducible assumption) | assumption)
                          have hcut24 := cut_from (P := Try.prog) 22 5 .i64 Try.underlying22 hi024 1 hsz24 A0 l0.length c0 (rd t156 x5_1) q024 q24
                          have hr24 := Kd.C_drop (m := ((rd t156 x5_1) : Int).toNat) (c := c0) hC24 (by omega) hroom24
                          obtain ⟨A24, hA24⟩ : ∃ A1, A1 = (if c0 = ((rd t156 x5_1) : Int).toNat then A0 else (A0 : Option Addr).map (·.add (((rd t156 x5_1) : Int).toNat * 1))) := ⟨_, rfl⟩
                          obtain ⟨c24, hc24⟩ : ∃ c1, c1 = c0 - ((rd t156 x5_1) : Int).toNat := ⟨_, rfl⟩
                          have hy24 : y171.length = l0.length - ((rd t156 x5_1) : Int).toNat := (by rw [Ny171.out, List.length_drop] <;> omega)
                          rw [show (l0).drop ((rd t156 x5_1) : Int).toNat = y171 from Ny171.out.symm] at hr24
                          replace hr24 : Kd.C (Kd.int .u8) _ A24 y171.length y171 := (by rw [hA24]; exact hr24)
                          rw [← hy24, ← hA24, ← hc24] at hcut24
                          have HR174 := Aside0.mk hr24
                          have HC174 := Aside0.mk (show y171.length ≤ c24 from by rw [hy24, hc24]; exact Nat.sub_le_sub_right hroom24 _)
                          clear hr24 hC24 hroom24 hi024 hsz24 hc24
                          have KY24 := Aside0.mk hy24
                          have KA24 := Aside0.mk hA24
                          clear hy24 hA24
                          replace q24 := eq_true q24
                          refine start_ (n := 18) (S := fun w' => w'.cell? (ad165.add ((ji11)).toNat) = some (.int .i64 (rd t156 (ji11))) ∧ w'.cell? (ad165.add (x5_1).toNat) = some (.int .i64 (rd t156 x5_1))) (ds := [15, 16]) #[false, false, false, false, false, false, false, false, false, false, false, false, false, false, false, false, false, false] (by kernel_rfl) rfl rfl ⟨hx165_0, hx170_0⟩ (fun hHeld => ?_); refine with_tabW spec_LcpRows.tab8 spec_LcpRows.bits8 (fun HT_ HW_ => ?_)
                          generalize wr.drew = w22 at HO_3 HO_4 HB HR169 HR174 hx165_0 hx170_0 hHeld ⊢
                          refine pure_ (i := 0) (N := some 20) (v := ?_) (a' := ?_) #[true, false, false, false, false, false, false, false, false, false, false, false, false, false, false, false, false, false] rfl rfl (any_of HT_.out (by kernel_rfl)) (fun _ _ _ h => h) (Or.inl ⟨by rfl, ?_⟩) ?_ ?_
                          rotate_left
                          · intro w'
                            go_simp
                            with_reducible rfl
                          rotate_left
                          · simp only [Act.put, List.setIfInBounds_toArray, List.set_cons_zero, List.set_cons_succ, i64_w, i32_w]
                            rfl
                          refine pure_ (i := 1) (N := some 21) (v := ?_) (a' := ?_) #[true, true, false, false, false, false, false, false, false, false, false, false, false, false, false, false, false, false] rfl rfl (any_of HT_.out (by kernel_rfl)) (fun _ _ _ h => h) (Or.inl ⟨by rfl, ?_⟩) ?_ ?_
                          rotate_left
                          · intro w'
                            go_simp
                            with_reducible rfl
                          rotate_left
                          · simp only [Act.put, List.setIfInBounds_toArray, List.set_cons_zero, List.set_cons_succ, i64_w, i32_w]
                            rfl
                          refine pure_ (i := 2) (N := some 22) (v := ?_) (a' := ?_) #[true, true, true, false, false, false, false, false, false, false, false, false, false, false, false, false, false, false] rfl rfl (any_of HT_.out (by kernel_rfl)) (fun _ _ _ h => h) (Or.inl ⟨by rfl, ?_⟩) ?_ ?_
                          rotate_left
                          · intro w'
                            go_simp
                            with_reducible rfl
                          rotate_left
                          · simp only [Act.put, List.setIfInBounds_toArray, List.set_cons_zero, List.set_cons_succ, i64_w, i32_w]
                            rfl
                          refine pure_ (i := 3) (N := some 23) (v := ?_) (a' := ?_) #[true, true, true, true, false, false, false, false, false, false, false, false, false, false, false, false, false, false] rfl rfl (any_of HT_.out (by kernel_rfl)) (fun _ _ _ h => h) (Or.inl ⟨by rfl, ?_⟩) ?_ ?_
                          rotate_left
                          · intro w'
                            go_simp
                            with_reducible rfl
                          rotate_left
                          · simp only [Act.put, List.setIfInBounds_toArray, List.set_cons_zero, List.set_cons_succ, i64_w, i32_w]
                            rfl
                          refine pure_ (i := 4) (N := some 24) (v := ?_) (a' := ?_) #[true, true, true, true, true, false, false, false, false, false, false, false, false, false, false, false, false, false] rfl rfl (any_of HT_.out (by kernel_rfl)) (fun _ _ _ h => h) (Or.inl ⟨by rfl, ?_⟩) ?_ ?_
                          rotate_left
                          · intro w'
                            go_simp
                            with_reducible rfl
                          rotate_left
                          · simp only [Act.put, List.setIfInBounds_toArray, List.set_cons_zero, List.set_cons_succ, i64_w, i32_w]
                            rfl
                          refine pure_ (i := 5) (N := some 25) (v := ?_) (a' := ?_) #[true, true, true, true, true, true, false, false, false, false, false, false, false, false, false, false, false, false] rfl rfl (any_of HT_.out (by kernel_rfl)) (fun _ _ _ h => h) (Or.inl ⟨by rfl, ?_⟩) ?_ ?_
                          rotate_left
                          · intro w'
                            go_simp
                            with_reducible rfl
                          rotate_left
                          · simp only [Act.put, List.setIfInBounds_toArray, List.set_cons_zero, List.set_cons_succ, i64_w, i32_w]
                            rfl
                          refine pure_ (i := 8) (N := some 28) (v := ?_) (a' := ?_) #[true, true, true, true, true, true, false, false, true, false, false, false, false, false, false, false, false, false] rfl rfl (any_of HT_.out (by kernel_rfl)) (fun _ _ _ h => h) (Or.inl ⟨by rfl, ?_⟩) ?_ ?_
                          rotate_left
                          · intro w'
                            go_simp
                            with_reducible rfl
                          rotate_left
                          · simp only [Act.put, List.setIfInBounds_toArray, List.set_cons_zero, List.set_cons_succ, i64_w, i32_w]
                            rfl
                          refine pure_ (i := 9) (N := some 29) (v := ?_) (a' := ?_) #[true, true, true, true, true, true, false, false, true, true, false, false, false, false, false, false, false, false] rfl rfl (any_of HT_.out (by kernel_rfl)) (fun _ _ _ h => h) (Or.inl ⟨by rfl, ?_⟩) ?_ ?_
                          rotate_left
                          · intro w'
                            go_simp
                            with_reducible rfl
                          rotate_left
                          · simp only [Act.put, List.setIfInBounds_toArray, List.set_cons_zero, List.set_cons_succ, i64_w, i32_w]
                            rfl
                          refine pure_ (i := 10) (N := some 30) (v := ?_) (a' := ?_) #[true, true, true, true, true, true, false, false, true, true, true, false, false, false, false, false, false, false] rfl rfl (any_of HT_.out (by kernel_rfl)) (fun _ _ _ h => h) (Or.inl ⟨by rfl, ?_⟩) ?_ ?_
                          rotate_left
                          · intro w'
                            go_simp
                            with_reducible rfl
                          rotate_left
                          · simp only [Act.put, List.setIfInBounds_toArray, List.set_cons_zero, List.set_cons_succ, i64_w, i32_w]
                            rfl
                          refine pure_ (i := 11) (N := some 31) (v := ?_) (a' := ?_) #[true, true, true, true, true, true, false, false, true, true, true, true, false, false, false, false, false, false] rfl rfl (any_of HT_.out (by kernel_rfl)) (fun _ _ _ h => h) (Or.inl ⟨by rfl, ?_⟩) ?_ ?_
                          rotate_left
                          · intro w'
                            go_simp
                            with_reducible rfl
                          rotate_left
                          · simp only [Act.put, List.setIfInBounds_toArray, List.set_cons_zero, List.set_cons_succ, i64_w, i32_w]
                            rfl
                          refine take_ (i := 6) (N := some 26) (v := ?_) (a' := ?_) #[true, true, true, true, true, true, true, false, true, true, true, true, false, false, false, false, false, false] rfl rfl (take_ofW HT_.out HW_.out (by kernel_rfl)) (fun _ _ _ h => h) (Or.inl ⟨by rfl, ?_⟩) hHeld ?_ ?_
                          rotate_left
                          · rintro w' ⟨s0, s1⟩
                            go_simp
                            with_reducible rfl
                          rotate_left
                          · simp only [Act.put, List.setIfInBounds_toArray, List.set_cons_zero, List.set_cons_succ, i64_w, i32_w]
                            rfl
                          refine pure_ (i := 7) (N := some 27) (v := ?_) (a' := ?_) #[true, true, true, true, true, true, true, true, true, true, true, true, false, false, false, false, false, false] rfl rfl (any_of HT_.out (by kernel_rfl)) (fun _ _ _ h => h) (Or.inl ⟨by rfl, ?_⟩) ?_ ?_
                          rotate_left
                          · intro w'
                            go_simp
                            with_reducible rfl
                          rotate_left
                          · simp only [Act.put, List.setIfInBounds_toArray, List.set_cons_zero, List.set_cons_succ, i64_w, i32_w]
                            rfl
                          refine take_ (i := 12) (N := some 32) (v := ?_) (a' := ?_) #[true, true, true, true, true, true, true, true, true, true, true, true, true, false, false, false, false, false] rfl rfl (take_ofW HT_.out HW_.out (by kernel_rfl)) (fun _ _ _ h => h) (Or.inl ⟨by rfl, ?_⟩) hHeld ?_ ?_
                          rotate_left
                          · rintro w' ⟨s0, s1⟩
                            go_simp
                            with_reducible rfl
                          rotate_left
                          · simp only [Act.put, List.setIfInBounds_toArray, List.set_cons_zero, List.set_cons_succ, i64_w, i32_w]
                            rfl
                          refine pure_ (i := 13) (N := some 33) (v := ?_) (a' := ?_) #[true, true, true, true, true, true, true, true, true, true, true, true, true, true, false, false, false, false] rfl rfl (any_of HT_.out (by kernel_rfl)) (fun _ _ _ h => h) (Or.inl ⟨by rfl, ?_⟩) ?_ ?_
                          rotate_left
                          · intro w'
                            go_simp
                            with_reducible rfl
                          rotate_left
                          · simp only [Act.put, List.setIfInBounds_toArray, List.set_cons_zero, List.set_cons_succ, i64_w, i32_w]
                            rfl
                          refine one_ (i := 14) (N := some 34) #[true, true, true, true, true, true, true, true, true, true, true, true, true, true, true, false, false, false] rfl rfl (one_of HT_.out (by kernel_rfl)) (by decide) (fun K hK => ?_)
                          refine goes_ Try.func38 (by kernel_rfl) rfl #[.slice A23 y166.length c23, .slice A24 y171.length c24] (by rfl) rfl rfl (by (try simp only [List.map_toArray, List.map_cons, List.map_nil]); first | done | rfl | (simp only [List.length_drop, List.length_take]; rfl)) ?_
                          with_reducible refine (spec_l05Common.calls k1 _ _ y166 _ _ y171 t175 _ ?side1 ?side2 ?side3 ?side4 A19.out).mono ?_
                          (case side1 => repeat (first | exact (Kd.C_below HR169.out HB.out) | (with_reducible refine Kd.C_alloc ?_ _) | (with_reducible refine Kd.C_drewN ?_ _) | (with_reducible refine Kd.C_drew ?_)))
                          (case side2 => exact HC169.out)
                          (case side3 => repeat (first | exact (Kd.C_below HR174.out HB.out) | (with_reducible refine Kd.C_alloc ?_ _) | (with_reducible refine Kd.C_drewN ?_ _) | (with_reducible refine Kd.C_drew ?_)))
                          (case side4 => exact HC174.out)
                          rintro e w' ⟨rfl, ⟨nd, rfl⟩⟩
                          refine ⟨_, rfl, ?_⟩
                          refine hK.out _ _ ⟨hHeld.1, hHeld.2⟩ (fun hHeld => ?_)
                          clear hK K
                          refine norm_ (a' := ?_) ?_ ?_
                          rotate_left
                          · show Act.put _ (some 34) _ = _
                            simp only [Act.put, List.setIfInBounds_toArray, List.set_cons_zero, List.set_cons_succ, i64_w, i32_w]
                            rfl
                          refine last_ (i := 15) (N := some 35) #[true, true, true, true, true, true, true, true, true, true, true, true, true, true, true, true, false, false] rfl rfl (one_of HT_.out (by kernel_rfl)) (by decide) (fun K hK => ?_)
                          refine value_ (w1 := ?_) (v := ?_) (by rfl) rfl ?_ ?_
                          rotate_left 2
                          · go_simp
                            constructor
                            · rfl
                            · rfl
                          refine hK.out _ _ ?_
                          clear hK K
                          refine norm_ (a' := ?_) ?_ ?_
                          rotate_left
                          · show Act.put _ (some 35) _ = _
                            simp only [Act.put, List.setIfInBounds_toArray, List.set_cons_zero, List.set_cons_succ, i64_w, i32_w]
                            rfl
                          refine last_ (i := 16) (N := some 36) #[true, true, true, true, true, true, true, true, true, true, true, true, true, true, true, true, true, false] rfl rfl (one_of HT_.out (by kernel_rfl)) (by decide) (fun K hK => ?_)
                          refine Kd.R_append_step (Kd.int .i64) (w0 := w) w.heap.size (by rfl) (.tmp 20) (.tmp 35) 27 3 (.int .i64 0) 8 rfl Try.underlying27 info3 rfl (by decide) (by omega) u4 x4_1 t175 [.int .i64 t175] (fun k_ => some k_ ≠ (.slice (some ad165) t156.length co21 : Value).ownBlock) (fun _ => False) rfl rfl ?aP (fun _ hk => hk.elim) ?aF ?aO ?aB ?aS ?aL ?_
                          (case aP => exact rfl)
                          (case aB => exact (by repeat (first | (with_reducible first | exact HB.out | apply below_alloc | apply pw_below_drewN | apply below_drew1) | exact HB.out)))
                          (case aF => exact (fun k_ hk => Kd.fresh' (Kd.R_lt (by (with_reducible repeat (first | apply Kd.R_alloc | apply Kd.R_drewN | apply Kd.R_drew)); exact HO_3.out)) k_ hk))
                          (case aO => exact (by (with_reducible repeat (first | apply Kd.R_alloc | apply Kd.R_drewN | apply Kd.R_drew)); exact HO_4.out))
                          (case aS => exact (below_size (by repeat (first | (with_reducible first | exact HB.out | apply below_alloc | apply pw_below_drewN | apply below_drew1) | exact HB.out))))
                          (case aL => have := LMc20.out; omega)
                          intro v177 w25 ho hb hg hat
                          rw [← Ny176.out] at ho
                          have n0_ := Aside0.mk (Kd.R_after (ok := (fun _ => True)) (by (with_reducible repeat (first | apply Kd.R_alloc | apply Kd.R_drewN | apply Kd.R_drew)); exact Kd.R_mono HO_3.out (fun _ hk => ⟨trivial, hk⟩)) hg hat)
                          have n1_ := Aside0.mk (hb)
                          have n2_ := Aside0.mk (ho)
                          clear HO_3
                          clear HB
                          clear HO_4
                          have HO_3 := n0_
                          have HB := n1_
                          have HO178 := n2_
                          clear n0_ n1_ n2_
                          clear ho hb hg hat
                          refine hK.out _ _ ?_
                          clear hK K
                          refine norm_ (a' := ?_) ?_ ?_
                          rotate_left
                          · show Act.put _ (some 36) _ = _
                            simp only [Act.put, List.setIfInBounds_toArray, List.set_cons_zero, List.set_cons_succ, i64_w, i32_w]
                            rfl
                          refine pure_ (i := 17) (N := some 4) (v := ?_) (a' := ?_) #[true, true, true, true, true, true, true, true, true, true, true, true, true, true, true, true, true, true] rfl rfl (any_of HT_.out (by kernel_rfl)) (fun _ _ _ h => h) (Or.inl ⟨by rfl, ?_⟩) ?_ ?_
                          rotate_left
                          · intro w'
                            go_simp
                            with_reducible rfl
                          rotate_left
                          · simp only [Act.put, List.setIfInBounds_toArray, List.set_cons_zero, List.set_cons_succ, i64_w, i32_w]
                            rfl
                          refine done_ (done_of HT_.out (by kernel_rfl)) ?_
                          try go_wp2
                          go_roundg k1
                          case measure => have := HK1.out; omega
                          case rel => exact ⟨(y176), (wrap64 (x5_1 + 1)), (by first | rfl | (simp; done) | (simp [*]; done)), H', ⟨by have := HK1.out; omega⟩, ⟨by (with_reducible repeat (first | apply Kd.R_alloc | apply Kd.R_drewN | apply Kd.R_drew)); exact Kd.R_mono HO_3.out (fun _ hk => hk.2)⟩, ⟨by (with_reducible repeat (first | apply Kd.R_alloc | apply Kd.R_drewN | apply Kd.R_drew)); exact HO178.out⟩, ⟨by repeat (first | (with_reducible first | exact HB.out | apply below_alloc | apply pw_below_drewN | apply below_drew1) | exact HB.out)⟩⟩
                        · rw [if_neg c20] at H
                          exact absurd H (by simp)
                      · rw [if_neg c18] at H
                        exact absurd H (by simp)
                    · rw [if_neg c17] at H
                      exact absurd H (by simp)
                  · rw [if_neg c16] at H
                    exact absurd H (by simp)
                · rw [if_neg c15] at H
                  exact absurd H (by simp)
              · rw [if_neg c14] at H
                exact absurd H (by simp)
            · rw [if_neg c13] at H
              exact absurd H (by simp)
          · rw [if_neg c12] at H
            exact absurd H (by simp)
      · rw [if_neg c6] at H
        have c6b0 : decide (x5_1 < (t156.length : Int)) = false := decide_eq_false c6
        clear c6
        obtain rfl := Option.some.inj H
        obtain ⟨Ao26, co26, eo26⟩ := Kd.R_slice HO_3.out
        subst eo26
        go_wp2
        go_ret
        exact ⟨_, by first | rfl | (simp [errW_none, errW_some] <;> rfl) | (simp [*, errW_none, errW_some] <;> rfl), by (with_reducible repeat (first | apply Kd.R_alloc | apply Kd.R_drewN | apply Kd.R_drew)); exact Kd.R_mono HO_4.out (fun _ hk => trivial), by repeat (first | (with_reducible first | exact HB.out | apply below_alloc | apply pw_below_drewN | apply below_drew1) | exact HB.out)⟩

/-! ### impl_TextOk: function 31 -/
def impl_TextOk.f (l0 : List Int) : Option (Bool) := some (decide ((l0.length : Int) ≤ 300))
set_option maxHeartbeats 8000000 in
set_option maxRecDepth 100000 in
theorem impl_TextOk.calls (A0 : Option Addr) (c0 : Nat) (l0 : List Int) (r : Bool) (w : World) (hr0 : Kd.C (Kd.int .u8) w A0 l0.length l0) (hc0 : l0.length ≤ c0) (h : impl_TextOk.f l0 = some r) :
    Calls Try.prog 31 #[.slice A0 l0.length c0] w fun e w' => e = .returned (.bool r) ∧ Drawn0 w w' := by
  have HR0 := Aside0.mk hr0
  have HC0 := Aside0.mk hc0
  clear hr0 hc0
  have H : (some (decide ((l0.length : Int) ≤ 300))) = some r := h
  clear h
  obtain rfl := Option.some.inj H
  go_enter Try.func31, Try.ntmps31
  go_wp2
  go_ret
  exact ⟨by first | rfl | (simp; done) | (simp [*]; done), by repeat (first | exact Drawn0.refl _ | apply Drawn0.step)⟩

-- NOT PRINTED: function 59 (slices_insertionSortCmpFunc_int)

-- NOT PRINTED: function 70 (slices_siftDownCmpFunc_int)

-- NOT PRINTED: function 60 (slices_heapSortCmpFunc_int)

/-! ### bits_Len32: function 67 -/
def bits_Len32.f (_a0 : Int) : Option (Int) := none
theorem bits_Len32.calls (a0 : Int) (r : Int) (w : World) (h : bits_Len32.f a0 = some r) :
    Calls Try.prog 67 #[.int .u32 a0] w fun e w' => e = .returned (.int .i64 r) ∧ Drawn0 w w' := by cases h

-- NOT PRINTED: function 68 (bits_Len64)

-- NOT PRINTED: function 56 (bits_Len)

-- NOT PRINTED: function 71 (slices_nextPowerOfTwo)

-- NOT PRINTED: function 72 (slices_xorshift_Next)

-- NOT PRINTED: function 61 (slices_breakPatternsCmpFunc_int)

-- NOT PRINTED: function 75 (slices_order2CmpFunc_int)

-- NOT PRINTED: function 74 (slices_medianCmpFunc_int)

-- NOT PRINTED: function 73 (slices_medianAdjacentCmpFunc_int)

-- NOT PRINTED: function 62 (slices_choosePivotCmpFunc_int)

-- NOT PRINTED: function 63 (slices_reverseRangeCmpFunc_int)

-- NOT PRINTED: function 64 (slices_partialInsertionSortCmpFunc_int)

-- NOT PRINTED: function 65 (slices_partitionEqualCmpFunc_int)

-- NOT PRINTED: function 66 (slices_partitionCmpFunc_int)

-- NOT PRINTED: function 55 (slices_pdqsortCmpFunc_int)

-- NOT PRINTED: function 49 (slices_SortFunc_int_int)

-- NOT PRINTED: function 47 (bytealg_Compare)

/-! ### bytes_Compare: function 33 -/
theorem bytes_Compare.bytes {w : World} {A : Option Addr} {n c : Nat} {xs : List Int} (h : ReadsInt w .u8 A n xs) : (Go.Extern.Bytes.bytesOf (.slice A n c)).run Try.prog w = .ok (strOfNums xs) w := by
  have hn : xs.length = n := h.1
  rcases A with _ | ad
  · have h0 : n = 0 := by
      rcases Nat.eq_zero_or_pos n with h0 | h0
      · exact h0
      · obtain ⟨ad, h', _⟩ := h.2.2 h0
        cases h'
    subst h0
    obtain rfl : xs = [] := List.eq_nil_of_length_eq_zero hn
    rfl
  · subst hn
    have hb := Go.Lib.run_loadBytesX (P := Try.prog) (w := w) xs ad .empty (fun j x hj => by
      have hjl : j < xs.length := by
        rcases Nat.lt_or_ge j xs.length with h' | h'
        · exact h'
        · rw [List.getElem?_eq_none h'] at hj
          cases hj
      obtain ⟨ad', he', hc⟩ := h.2.2 (by omega)
      injection he' with he'
      subst he'
      rw [hc j hjl]
      rw [List.getElem?_eq_getElem hjl] at hj
      simp at hj
      subst hj
      simp [List.getD_eq_getElem?_getD, List.getElem?_eq_getElem hjl])
    show (Go.Extern.Bytes.loadBytes ad xs.length .empty).run Try.prog w = _
    rw [hb]
    simp [strOfNums, ByteArray.empty, ByteArray.emptyWithCapacity, Go.Lib.bytesOf]
    rfl
def bytes_Compare.f (l0 l1 : List Int) : Option (Int) := some (Go.Lib.compareBytes (strOfNums l0).data.toList (strOfNums l1).data.toList)
set_option maxHeartbeats 8000000 in
set_option maxRecDepth 100000 in
theorem bytes_Compare.calls (A0 : Option Addr) (c0 : Nat) (l0 : List Int) (A1 : Option Addr) (c1 : Nat) (l1 : List Int) (r : Int) (w : World) (hr0 : Kd.C (Kd.int .u8) w A0 l0.length l0) (_hc0 : l0.length ≤ c0) (hr1 : Kd.C (Kd.int .u8) w A1 l1.length l1) (_hc1 : l1.length ≤ c1) (h : bytes_Compare.f l0 l1 = some r) :
    Calls Try.prog 33 #[.slice A0 l0.length c0, .slice A1 l1.length c1] w fun e w' => e = .returned (.int .i64 r) ∧ Drawn0 w w' := by
  have h0 := bytes_Compare.bytes (c := c0) (Kd.reads_of_C (enc := Value.int .u8) (d := (0 : Int)) (h1 := fun _ => rfl) hr0)
  have h1 := bytes_Compare.bytes (c := c1) (Kd.reads_of_C (enc := Value.int .u8) (d := (0 : Int)) (h1 := fun _ => rfl) hr1)
  obtain rfl := Option.some.inj h
  have hc : (Go.Extern.BytealgCompare.compare #[.slice A0 l0.length c0, .slice A1 l1.length c1]).run Try.prog w = .ok (.int .i64 (Go.Lib.compareBytes (strOfNums l0).data.toList (strOfNums l1).data.toList)) w := by
    change Sem.run Try.prog (do pure (goInt (Go.Extern.BytealgCompare.cmp (← Go.Extern.Bytes.bytesOf (.slice A0 l0.length c0)) (← Go.Extern.Bytes.bytesOf (.slice A1 l1.length c1))))) w = _
    simp only [Sem.run_bind, h0, h1, Sem.run_pure, Result.andThen]
    rw [Go.Lib.cmp_eq]
    rfl
  go_enter Try.func33, Try.ntmps33
  go_wp2
  rw [run_callFunc_extern Try.func47 (by kernel_rfl) (by kernel_rfl) (by kernel_rfl) (e := Go.Extern.BytealgCompare.compare) (by kernel_rfl), hc]
  simp only [Result.andThen]
  rw [Oper.upon_value]
  go_wp2
  go_ret
  exact ⟨rfl, Drawn0.refl _⟩

-- NOT PRINTED: function 50 (impl_suffixRows_1)

/-! ### impl_suffixRows: function 36 -/
set_option maxHeartbeats 8000000 in
set_option maxRecDepth 100000 in
theorem impl_suffixRows.clo (g : Nat) (A0 : Option Addr) (c0 : Nat) (l0 : List Int) (x y : Int) (W : World) (hx0 : 0 ≤ x) (hx : x ≤ (l0.length : Int)) (hy0 : 0 ≤ y) (hy : y ≤ (l0.length : Int)) (hC : Kd.C (Kd.int .u8) W A0 l0.length l0) (hroom : l0.length ≤ c0) (hg : W.cell? ⟨g, 0, none⟩ = some (.slice A0 l0.length c0)) :
    Calls Try.prog 50 #[.int .i64 x, .int .i64 y, .pointer (some ⟨g, 0, none⟩)] W fun e w' => e = .returned (.int .i64 (Go.Lib.compareBytes (strOfNums (l0.drop x.toNat)).data.toList (strOfNums (l0.drop y.toNat)).data.toList)) ∧ ∃ q, w' = W.drewN q := by
  obtain ⟨i0, hi0, _, hsz0, _⟩ := info_parts info5
  have hcutx := cut_from (P := Try.prog) 22 5 .i64 Try.underlying22 hi0 1 hsz0 A0 l0.length c0 x hx0 hx
  have hcuty := cut_from (P := Try.prog) 22 5 .i64 Try.underlying22 hi0 1 hsz0 A0 l0.length c0 y hy0 hy
  have hrx := Kd.C_drop (m := x.toNat) (c := c0) hC (by omega) hroom
  have hry := Kd.C_drop (m := y.toNat) (c := c0) hC (by omega) hroom
  obtain ⟨Ax, hAx⟩ : ∃ A1, A1 = (if c0 = x.toNat then A0 else (A0 : Option Addr).map (·.add (x.toNat * 1))) := ⟨_, rfl⟩
  obtain ⟨cx, hcx⟩ : ∃ c1, c1 = c0 - x.toNat := ⟨_, rfl⟩
  obtain ⟨Ay, hAy⟩ : ∃ A1, A1 = (if c0 = y.toNat then A0 else (A0 : Option Addr).map (·.add (y.toNat * 1))) := ⟨_, rfl⟩
  obtain ⟨cy, hcy⟩ : ∃ c1, c1 = c0 - y.toNat := ⟨_, rfl⟩
  obtain ⟨lx, hlx⟩ : ∃ l_ : List Int, l_ = l0.drop x.toNat := ⟨_, rfl⟩
  obtain ⟨ly, hly⟩ : ∃ l_ : List Int, l_ = l0.drop y.toNat := ⟨_, rfl⟩
  rw [← hlx, ← hly]
  have kx : lx.length = l0.length - x.toNat := by rw [hlx, List.length_drop]
  have ky : ly.length = l0.length - y.toNat := by rw [hly, List.length_drop]
  rw [← hlx] at hrx
  rw [← hly] at hry
  replace hrx : Kd.C (Kd.int .u8) W Ax lx.length lx := by rw [hAx]; exact hrx
  replace hry : Kd.C (Kd.int .u8) W Ay ly.length ly := by rw [hAy]; exact hry
  rw [← kx, ← hAx, ← hcx] at hcutx
  rw [← ky, ← hAy, ← hcy] at hcuty
  have hcall := fun n => bytes_Compare.calls Ax cx lx Ay cy ly _ (W.drewN n) (Kd.C_drewN hrx n) (by rw [kx, hcx]; exact Nat.sub_le_sub_right hroom _) (Kd.C_drewN hry n) (by rw [ky, hcy]; exact Nat.sub_le_sub_right hroom _) rfl
  have hquiet : ∀ n, Calls Try.prog 33 #[.slice Ax lx.length cx, .slice Ay ly.length cy] (W.drewN n) fun e w'' => e = .returned (.int .i64 (Go.Lib.compareBytes (strOfNums lx).data.toList (strOfNums ly).data.toList)) ∧ ∃ m, w'' = W.drewN m := fun n => (hcall n).mono fun _ _ ⟨he, hd⟩ => ⟨he, by obtain ⟨⟨m, hm⟩⟩ := hd; exact ⟨n + m, by rw [hm, World.drewN_drewN]⟩⟩
  have HC := Aside0.mk hquiet
  clear hquiet
  have qx := eq_true hx
  have qy := eq_true hy
  have qx0 := eq_true hx0
  have qy0 := eq_true hy0
  clear hcall hrx hry hAx hAy hcx hcy kx ky hlx hly hC hroom hi0 hsz0 hx hy hx0 hy0
  go_enter Try.func50, Try.ntmps50
  go_wp2
  go_quiet ((go_at_call 33; exact HC.out _))
  go_wp2
  go_ret
  exact ⟨rfl, _, rfl⟩
theorem cmpB_neg : ∀ (a b : List UInt8), Go.Lib.compareBytes b a = - Go.Lib.compareBytes a b
  | [], [] => rfl
  | [], _ :: _ => rfl
  | _ :: _, [] => rfl
  | x :: a, y :: b => by
    rw [Go.Lib.compareBytes, Go.Lib.compareBytes, cmpB_neg a b]
    by_cases h1 : x < y
    · rw [if_pos h1, if_neg (by rw [UInt8.lt_iff_toNat_lt] at *; omega), if_pos h1]; decide
    · by_cases h2 : y < x
      · rw [if_pos h2, if_neg h1, if_pos h2]
      · rw [if_neg h2, if_neg h1, if_neg h1, if_neg h2]
theorem cmpB_zero : ∀ (a b : List UInt8), Go.Lib.compareBytes a b = 0 → a = b
  | [], [] => fun _ => rfl
  | [], _ :: _ => fun h => by simp [Go.Lib.compareBytes] at h
  | _ :: _, [] => fun h => by simp [Go.Lib.compareBytes] at h
  | x :: a, y :: b => fun h => by
    rw [Go.Lib.compareBytes] at h
    by_cases h1 : x < y
    · rw [if_pos h1] at h; exact absurd h (by decide)
    · rw [if_neg h1] at h
      by_cases h2 : y < x
      · rw [if_pos h2] at h; exact absurd h (by decide)
      · rw [if_neg h2] at h
        have e : x = y := by rw [UInt8.lt_iff_toNat_lt] at *; exact UInt8.toNat_inj.1 (by omega)
        rw [e, cmpB_zero a b h]
theorem cmpB_self : ∀ (a : List UInt8), Go.Lib.compareBytes a a = 0
  | [] => rfl
  | x :: a => by rw [Go.Lib.compareBytes, if_neg (by rw [UInt8.lt_iff_toNat_lt]; omega), if_neg (by rw [UInt8.lt_iff_toNat_lt]; omega)]; exact cmpB_self a
theorem cmpB_trans : ∀ (a b c : List UInt8), Go.Lib.compareBytes a b ≤ 0 → Go.Lib.compareBytes b c ≤ 0 → Go.Lib.compareBytes a c ≤ 0
  | [], _, [] => fun _ _ => by decide
  | [], _, _ :: _ => fun _ _ => by simp [Go.Lib.compareBytes]
  | _ :: _, [], _ => fun h _ => by simp [Go.Lib.compareBytes] at h
  | _ :: _, _ :: _, [] => fun _ h => by simp [Go.Lib.compareBytes] at h
  | x :: a, y :: b, z :: c => fun h k => by
    rw [Go.Lib.compareBytes] at h k ⊢
    have ih := cmpB_trans a b c
    simp only [UInt8.lt_iff_toNat_lt] at *
    split at h
    · split at k
      · rw [if_pos (by omega)]; decide
      · split at k
        · omega
        · rw [if_pos (by omega)]; decide
    · split at h
      · omega
      · split at k
        · rw [if_pos (by omega)]; decide
        · split at k
          · omega
          · rw [if_neg (by omega), if_neg (by omega)]; exact ih h k

/-- how a text's suffixes compare -/
def sufB (l0 : List Int) (i : Nat) : List UInt8 := (strOfNums (l0.drop i)).data.toList
theorem sufB_length (l0 : List Int) (i : Nat) : (sufB l0 i).length = l0.length - i := by unfold sufB; rw [strOfNums_data, List.length_map, List.length_drop]
def sufC (l0 : List Int) (x y : Fin (l0.length + 1)) : Int := Go.Lib.compareBytes (sufB l0 x.val) (sufB l0 y.val)
theorem sufC_swo (l0 : List Int) : Go.Sort.SWO (ltOf (sufC l0)) where
  irrefl x := by unfold ltOf sufC; rw [cmpB_self]; decide
  trans x y z h1 h2 := by
    unfold ltOf sufC at *
    have h1 := of_decide_eq_true h1
    have h2 := of_decide_eq_true h2
    refine decide_eq_true ?_
    have h3 := cmpB_trans _ _ _ (Int.le_of_lt h1) (Int.le_of_lt h2)
    rcases Int.lt_or_eq_of_le h3 with h | h
    · exact h
    · have e := cmpB_zero _ _ h
      rw [e, cmpB_neg] at h1
      omega
  ntrans x y z h1 h2 := by
    unfold ltOf sufC at *
    have h1 := of_decide_eq_false h1
    have h2 := of_decide_eq_false h2
    refine decide_eq_false ?_
    have h3 := cmpB_trans (sufB l0 z) (sufB l0 y) (sufB l0 x) (by rw [cmpB_neg]; omega) (by rw [cmpB_neg]; omega)
    rw [cmpB_neg] at h3
    omega
theorem sufC_total (l0 : List Int) (x y : Fin (l0.length + 1)) (h1 : ltOf (sufC l0) x y = false) (h2 : ltOf (sufC l0) y x = false) : x = y := by
  unfold ltOf sufC at *
  have h1 := of_decide_eq_false h1
  have h2 := of_decide_eq_false h2
  rw [cmpB_neg] at h2
  have h3 := congrArg List.length (cmpB_zero _ _ (show Go.Lib.compareBytes (sufB l0 x) (sufB l0 y) = 0 by omega))
  rw [sufB_length, sufB_length] at h3
  have := x.isLt
  have := y.isLt
  exact Fin.ext (by omega)

def sufE (l0 : List Int) (x : Fin (l0.length + 1)) : Value := .int .i64 (x.val : Int)
def sufD (l0 : List Int) : Array (Fin (l0.length + 1)) := Array.ofFn id
theorem sufD_size (l0 : List Int) : (sufD l0).size = l0.length + 1 := by simp [sufD]
/-- the rows in order -/
def sufRows (l0 : List Int) : List (Fin (l0.length + 1)) := (sufD l0).toList.mergeSort (fun x y => !(ltOf (sufC l0)) y x)
def impl_suffixRows.f (l0 : List Int) : Option (List Int) := if l0.length ≤ 1000000 then some ((sufRows l0).map fun x => (x.val : Int)) else none
def upto (k : Nat) : List Int := (List.range k).map fun (i : Nat) => (i : Int)
theorem upto_zero : upto 0 = [] := rfl
theorem upto_succ (k : Nat) : upto (k + 1) = upto k ++ [(k : Int)] := by simp [upto, List.range_succ]
theorem upto_length (k : Nat) : (upto k).length = k := by simp [upto]
theorem upto_all (l0 : List Int) : (sufD l0).toList.map (sufE l0) = (upto (l0.length + 1)).map (Value.int .i64) := by
  apply List.ext_getElem
  · simp [sufD, upto]
  · intro i h1 h2
    rw [List.getElem_map, List.getElem_map]
    simp only [sufD, upto, sufE, Array.toList_ofFn, List.getElem_ofFn, List.getElem_map, List.getElem_range]
    rfl
def sort49_ren : Go.Shelf.Ren := ⟨fun | 6 => 49 | 15 => 56 | 14 => 55 | 28 => 67 | 29 => 68 | 20 => 59 | 21 => 60 | 22 => 61 | 23 => 62 | 24 => 63 | 25 => 64 | 26 => 65 | 27 => 66 | 46 => 70 | 47 => 71 | 48 => 72 | 49 => 73 | 50 => 74 | 57 => 75 | n => n, fun | 22 => 27 | 24 => 3 | 25 => 41 | 3 => 3 | 39 => 46 | 0 => 0 | 53 => 56 | 55 => 58 | 4 => 4 | 46 => 49 | 45 => 48 | 50 => 53 | 5 => 5 | 9 => 9 | 66 => 60 | 70 => 64 | 76 => 66 | 77 => 67 | n => n, fun | n => n⟩
theorem sort49 : Go.Proofs.SlLaysF.n6 Try.prog sort49_ren := {
  mixed := by kernel_rfl
  f6 := ⟨Try.f49.name, by decide, Try.func49.trans (congrArg some (by kernel_rfl))⟩
  f14 := ⟨Try.f55.name, by decide, Try.func55.trans (congrArg some (by kernel_rfl))⟩
  f15 := Try.func56.trans (congrArg some (by kernel_rfl))
  f20 := ⟨Try.f59.name, by decide, Try.func59.trans (congrArg some (by kernel_rfl))⟩
  f21 := ⟨Try.f60.name, by decide, Try.func60.trans (congrArg some (by kernel_rfl))⟩
  f22 := ⟨Try.f61.name, by decide, Try.func61.trans (congrArg some (by kernel_rfl))⟩
  f23 := ⟨Try.f62.name, by decide, Try.func62.trans (congrArg some (by kernel_rfl))⟩
  f24 := ⟨Try.f63.name, by decide, Try.func63.trans (congrArg some (by kernel_rfl))⟩
  f25 := ⟨Try.f64.name, by decide, Try.func64.trans (congrArg some (by kernel_rfl))⟩
  f26 := ⟨Try.f65.name, by decide, Try.func65.trans (congrArg some (by kernel_rfl))⟩
  f27 := ⟨Try.f66.name, by decide, Try.func66.trans (congrArg some (by kernel_rfl))⟩
  f28 := Try.func67.trans (congrArg some (by kernel_rfl))
  f29 := Try.func68.trans (congrArg some (by kernel_rfl))
  f46 := ⟨Try.f70.name, by decide, Try.func70.trans (congrArg some (by kernel_rfl))⟩
  f47 := Try.func71.trans (congrArg some (by kernel_rfl))
  f48 := Try.func72.trans (congrArg some (by kernel_rfl))
  f49 := ⟨Try.f73.name, by decide, Try.func73.trans (congrArg some (by kernel_rfl))⟩
  f50 := ⟨Try.f74.name, by decide, Try.func74.trans (congrArg some (by kernel_rfl))⟩
  f57 := ⟨Try.f75.name, by decide, Try.func75.trans (congrArg some (by kernel_rfl))⟩
  t0 := Try.underlying0
  a0 := Try.isAgg0
  z0 := Try.sizeOf0
  v0 := Try.zeroValue0
  t3 := Try.underlying3
  a3 := Try.isAgg3
  z3 := Try.sizeOf3
  v3 := Try.zeroValue3
  t4 := Try.underlying4
  a4 := Try.isAgg4
  z4 := Try.sizeOf4
  v4 := Try.zeroValue4
  t5 := Try.underlying5
  a5 := Try.isAgg5
  z5 := Try.sizeOf5
  v5 := Try.zeroValue5
  t9 := Try.underlying9
  a9 := Try.isAgg9
  z9 := Try.sizeOf9
  v9 := Try.zeroValue9
  t22 := Try.underlying27
  a22 := Try.isAgg27
  z22 := Try.sizeOf27
  v22 := Try.zeroValue27
  a24 := Try.isAgg3
  z24 := Try.sizeOf3
  t25 := Try.underlying41
  a25 := Try.isAgg41
  z25 := Try.sizeOf41
  v25 := Try.zeroValue41
  t39 := Try.underlying46
  a39 := Try.isAgg46
  z39 := Try.sizeOf46
  v39 := Try.zeroValue46
  t45 := Try.underlying48
  a45 := Try.isAgg48
  z45 := Try.sizeOf48
  v45 := Try.zeroValue48
  t46 := Try.underlying49
  a46 := Try.isAgg49
  z46 := Try.sizeOf49
  v46 := Try.zeroValue49
  t50 := Try.underlying53
  a50 := Try.isAgg53
  z50 := Try.sizeOf53
  v50 := Try.zeroValue53
  t53 := Try.underlying56
  a53 := Try.isAgg56
  z53 := Try.sizeOf56
  v53 := Try.zeroValue56
  t55 := Try.underlying58
  a55 := Try.isAgg58
  z55 := Try.sizeOf58
  v55 := Try.zeroValue58
  t66 := Try.underlying60
  a66 := Try.isAgg60
  z66 := Try.sizeOf60
  v66 := Try.zeroValue60
  t70 := Try.underlying64
  a70 := Try.isAgg64
  z70 := Try.sizeOf64
  v70 := Try.zeroValue64
  t76 := Try.underlying66
  a76 := Try.isAgg66
  z76 := Try.sizeOf66
  v76 := Try.zeroValue66
  t77 := Try.underlying67
  a77 := Try.isAgg67
  z77 := Try.sizeOf67
  v77 := Try.zeroValue67 }
/-- slices.SortFunc by the shelf's contract, at the closure -/
theorem impl_suffixRows.sort : ∀ (l0 : List Int) (blk cap : Nat) (cb : Array Value) (W : World), l0.length ≤ 1000000 → CmpLays1 Try.prog 50 cb (sufE l0) (sufC l0) blk 0 (sufD l0).size W → Go.Sort.Holds (sufE l0) W blk 0 (sufD l0) → blk < W.heap.size → Calls Try.prog 49 #[.slice (some ⟨blk, 0, none⟩) (l0.length + 1) cap, .func (.func 50) #[] cb] W fun e w' => e = .returned (.tuple #[]) ∧ ∃ n os, w' = sortWorld (sufE l0) W blk 0 n (sufRows l0).toArray os := by
  intro l0 blk cap cb W hn hcmp hH hb
  have eg : ∀ args w, (callFunc 50 args).run Try.prog w = .ok (.enter 50 args) w := enters_of Try.func50 (by kernel_rfl) rfl
  have h := Any.slices_SortFunc_total sort49 (sufE l0) (fun _ => rfl) (sufC l0) (sufC_swo l0) 50 cb blk 0 cap (sufD l0) W eg hcmp hH hb (by rw [sufD_size]; omega) (fun x y => sufC_total l0 x y)
  rw [sufD_size] at h
  exact h
theorem sort_below (W : World) (os : Array Obj) (B : Nat) (hB : B ≤ W.heap.size) : Below B W (Go.Sort.grow W os) := ⟨rfl, rfl, rfl, by simp, fun k hk => Go.Sort.heap_grow_old W os (Nat.lt_of_lt_of_le hk hB)⟩
set_option maxHeartbeats 8000000 in
set_option maxRecDepth 100000 in
theorem impl_suffixRows.calls (A0 : Option Addr) (c0 : Nat) (l0 : List Int) (r : List Int) (w : World) (hr0 : Kd.C (Kd.int .u8) w A0 l0.length l0) (hc0 : l0.length ≤ c0) (h : impl_suffixRows.f l0 = some r) :
    Calls Try.prog 36 #[.slice A0 l0.length c0] w fun e w' => ∃ v0_ : Value, e = .returned (v0_) ∧ Kd.R (Kd.int .i64) 3 w' w.heap.size (fun _ => True) v0_ r ∧ Below w.heap.size w w' := by
  unfold impl_suffixRows.f at h
  by_cases hn : l0.length ≤ 1000000
  · rw [if_pos hn] at h
    have hr := Aside0.mk (Option.some.inj h)
    clear h
    have HR0 := Aside0.mk hr0
    have HC0 := Aside0.mk hc0
    have HS := Aside0.mk (fun blk cap cb W => impl_suffixRows.sort l0 blk cap cb W hn)
    clear hr0 hc0
    have HB := Aside0.mk (Below.refl w.heap.size w)
    have HB1 := Aside0.mk (Below.refl (w.heap.size + 1) (w.alloc (.cells #[.slice A0 l0.length c0] 22)))
    go_enter Try.func36, Try.ntmps36
    go_wp2
    (try simp only [Act.put, List.setIfInBounds_toArray, List.set_cons_zero, List.set_cons_succ])
    go_loopg [3, 8] (l0.length + 1) (fun gg v3 v8 w' => ∃ kk : Nat, kk ≤ l0.length + 1 ∧ l0.length + 1 - kk ≤ gg ∧ v8 = .int .i64 kk ∧ Aside0 (Kd.R (Kd.int .i64) 3 w' (w.heap.size + 1) (fun _ => True) v3 (upto kk)) ∧ Aside0 (Below (w.heap.size + 1) (w.alloc (.cells #[.slice A0 l0.length c0] 22)) w'))
    case atStart => exact ⟨0, by omega, by omega, rfl, ⟨by rw [upto_zero]; exact Kd.R_nil _ _ _ _ _⟩, HB1⟩
    case round =>
      obtain ⟨kk, hkk, hg, rfl, HO, HB1⟩ := hrel
      by_cases hlt : kk < l0.length + 1
      · have HZ := Aside0.mk HB1.out.size
        go_wp2_with (((with_reducible refine gate_builtin (b := .append) (xs := #[.tmp 11, .tmp 13]) rfl ?_); at_builtin; refine Kd.R_append (Kd.int .i64) (w0 := w.alloc (.cells #[.slice A0 l0.length c0] 22)) (w.heap.size + 1) rfl (.tmp 11) (.tmp 13) 27 3 (.int .i64 0) 8 rfl Try.underlying27 info3 rfl (by decide) (by omega) _ (upto kk) (kk : Int) [.int .i64 (kk : Int)] (fun _ => True) (fun _ => False) rfl rfl ?aP (fun _ hk => hk.elim) ?aF ?aO ?aB ?aS ?aL ?_; (case aP => exact rfl); (case aB => exact HB1.out); (case aF => exact (fun _ _ => trivial)); (case aO => exact HO.out); (case aS => have := HZ.out; simpa using this); (case aL => rw [upto_length]; omega); intro v136 w12 ho hb hg hat; rw [← upto_succ] at ho; have n0_ := Aside0.mk (hb); have n1_ := Aside0.mk (ho); clear HB1; clear HO; have HB1 := n0_; have HO := n1_; clear n0_ n1_; clear ho hb hg hat))
        go_roundg (l0.length - kk)
        case measure => omega
        case rel => exact ⟨kk + 1, by omega, by omega, by go_num, HO, HB1⟩
      · obtain rfl : kk = l0.length + 1 := by omega
        clear hlt hg hkk
        have ho := Kd.own_of_R HO.out
        rw [upto_length] at ho
        rcases ho.2 with ⟨_, h0⟩ | ⟨g, cap, cur, rfl, hb, hgc, hn1, hm, hl, ht⟩
        · omega
        have hzs : wr.ownsRow (w.heap.size + 1) 3 1 (.slice (some ⟨g, 0, none⟩) (l0.length + 1) cap) (l0.length + 1) ((sufD l0).toList.map (sufE l0)) := by rw [upto_all]; exact ho
        obtain ⟨g', cap', e', hb', hlt', hn', hm', hl', hH⟩ := Go.Lib.holds_of_ownsRow hzs (by intro e; cases e)
        injection e' with e1 _ e3
        injection e1 with e1
        injection e1 with e1
        subst e1
        subst e3
        rw [show (sufD l0).toList.toArray = sufD l0 from rfl] at hH
        have hgrow : ∀ (m : Nat) (dk : Array (Fin (l0.length + 1))) (os : Array Obj), Below (w.heap.size + 1) (w.alloc (.cells #[.slice A0 l0.length c0] 22)) (sortWorld (sufE l0) wr g 0 m dk os) := fun m dk os =>
          (Go.Lib.below_putRow (q := m) (d := dk) HB1.out hb).trans (sort_below _ os _ (by rw [size_putRow]; exact Nat.le_trans (by simp) HB1.out.size))
        have hlow : ∀ (m : Nat) (dk : Array (Fin (l0.length + 1))) (os : Array Obj), Below w.heap.size w (sortWorld (sufE l0) wr g 0 m dk os) := fun m dk os =>
          ((Below.refl w.heap.size w).alloc (Nat.le_refl _) _).trans ((hgrow m dk os).mono (Nat.le_succ _))
        have hcmp : CmpLays1 Try.prog 50 #[.pointer (some ⟨w.heap.size, 0, none⟩)] (sufE l0) (sufC l0) g 0 (sufD l0).size wr := by
          intro m os dk hs x y
          refine (impl_suffixRows.clo w.heap.size A0 c0 l0 x.val y.val _ (by omega) (by omega) (by omega) (by omega) (Kd.C_below HR0.out (hlow m dk os)) HC0.out ?_).mono ?_
          · rw [(hgrow m dk os).cell (p := ⟨w.heap.size, 0, none⟩) (by simp)]; simp
          · rintro e w' ⟨he, q, hq⟩
            exact ⟨he, q, #[], by rw [hq, Go.Sort.grow_empty]⟩
        have HCALL := Aside0.mk (HS.out g cap _ wr hcmp hH hlt')
        have hfin : ∀ (n : Nat) (os : Array Obj), Kd.R (Kd.int .i64) 3 (sortWorld (sufE l0) wr g 0 n (sufRows l0).toArray os) w.heap.size (fun _ => True) (.slice (some ⟨g, 0, none⟩) (l0.length + 1) cap) r := by
          intro n os
          have hlen : (sufRows l0).length = l0.length + 1 := by rw [sufRows, List.length_mergeSort, Array.length_toList, sufD_size]
          have h1 := Go.Lib.ownsRow_putRow (q := n) (ys := sufRows l0) hzs hlen (Nat.le_refl _)
          have h2 := pw_own_below h1 (sort_below _ os _ (Nat.le_refl _))
          have h3 := own_less h2 (show w.heap.size ≤ w.heap.size + 1 from Nat.le_succ _)
          refine Kd.R_of_own ?_ (fun _ _ => trivial)
          rw [← hr.out]
          have e1 : encs (Value.int .i64) ((sufRows l0).map fun x => (x.val : Int)) = ((sufRows l0).take (l0.length + 1)).map (sufE l0) := by
            rw [List.take_of_length_le (by omega)]
            simp [encs, sufE]
          rw [e1, List.length_map, hlen]
          exact h3
        have HF := Aside0.mk hfin
        have HL := Aside0.mk (fun n os => hlow n (sufRows l0).toArray os)
        clear hfin hlow hgrow hcmp hH hzs hl' hm' hn' hlt' hb' ht hl hm hn1 hgc hb ho HB1 HO HS HR0 HC0 HB hr
        go_wp2_with (go_at_call 49; refine HCALL.out.mono ?_; rintro e w' ⟨rfl, n, os, hw⟩; have HW := Aside0.mk hw; clear hw)
        go_ret
        exact ⟨_, rfl, by rw [HW.out]; exact HF.out n os, by rw [HW.out]; exact HL.out n os⟩
  · rw [if_neg hn] at h
    cases h

end Go.Proofs.Ytekcmfmcdedamaa.QFnExactLcpRows
