-- WRITTEN BY A PROGRAM OF THIS SESSION (wip/tools/print2.py) out of Lean's own print of the loaded program; Lean checks every row.
import Derived.Test.YtcbhepghmmbdmaaQFnRankSelectx0
import Derived.Test.YtcbhepghmmbdmaaQFnRankSelectx4
import Derived.Test.YtcbhepghmmbdmaaQFnRankSelectx6
import Derived.Test.YtcbhepghmmbdmaaQFnRankSelectx7
namespace Go.Proofs.Ytcbhepghmmbdmaa.QFnRankSelect
open Go.RowKit Go.Proofs.YtcbhepghmmbdmaaW.PrintWords Go.Proofs.YtcbhepghmmbdmaaW.PrintLast Go.Proofs.YtcbhepghmmbdmaaW.PrintMore
attribute [local go_sem] max2_int min2_int max_two min_two max_three min_three max_four min_four   -- for this text's walks alone
set_option linter.unusedVariables false
set_option linter.unusedSimpArgs false

/-! ### spec_DrawSelect: function 39 -/
def spec_DrawSelect.f (k : Nat) (l0 : List Int) : Option (Int × List Int × Int × Int) := (spec_l01Open.f l0).bind fun bt290 => ((spec_l01Cur_badBits.f k bt290.1 bt290.2.1 bt290.2.2).bind fun bt294 => ((spec_l01Cur_pick.f bt290.1 bt294.2.2.1 bt294.2.2.2 2).bind fun bt301 => ((spec_l01Cur_once.f bt290.1 bt301.2.1 bt301.2.2 12).bind fun bt304 => (if bt304.1 = true then ((spec_l01Cur_raw.f bt290.1 bt304.2.1 bt304.2.2).bind fun bt307 => ((spec_l01Cur_pick.f bt290.1 bt307.2.1 bt307.2.2 20).bind fun bt310 => ((spec_l01Cur_place.f bt290.1 bt310.2.1 bt310.2.2 (mn 300 (mx 0 bt294.1))).bind fun bt313 => ((some (([bt310.1, bt313.1] : List Int) : List Int)).bind fun y316 => ((spec_l01Cur_pick.f bt290.1 bt313.2.1 bt313.2.2 2).bind fun bt319 => (if 0 ≤ bt319.1 then (if bt319.1 < (y316.length : Int) then (some (bt294.1, bt294.2.1, bt307.1, rd y316 bt319.1)) else (none)) else (none))))))) else ((spec_l01Cur_pick.f bt290.1 bt304.2.1 bt304.2.2 20).bind fun bt323 => ((spec_l01Cur_place.f bt290.1 bt323.2.1 bt323.2.2 (mn 300 (mx 0 bt294.1))).bind fun bt326 => ((some (([bt323.1, bt326.1] : List Int) : List Int)).bind fun y329 => ((spec_l01Cur_pick.f bt290.1 bt326.2.1 bt326.2.2 2).bind fun bt332 => (if 0 ≤ bt332.1 then (if bt332.1 < (y329.length : Int) then (some (bt294.1, bt294.2.1, bt301.1, rd y329 bt332.1)) else (none)) else (none))))))))))
theorem spec_DrawSelect.mono : ∀ a0 k, LeO (spec_DrawSelect.f k a0) (spec_DrawSelect.f (k + 1) a0) := by
  intro a0 k
  unfold spec_DrawSelect.f
  repeat' first
      | (with_reducible exact spec_l01Cur_badBits.mono _ _ _ _)
      | (with_reducible exact LeO.refl _)
      | (with_reducible exact LeO.none _)
      | (with_reducible refine LeO.ite ?_ ?_)
      | (with_reducible refine LeO.bind ?_ (fun _ => ?_))
      | exact spec_l01Cur_badBits.mono _ _ _ _
      | exact LeO.none _
      | refine LeO.ite ?_ ?_
      | refine LeO.bind ?_ (fun _ => ?_)
def spec_DrawSelect.T6 : Bool × List (List Nat × List Nat) := (true, [([], []), ([], []), ([], []), ([2], [2]), ([], []), ([], []), ([5], [5]), ([6], [6]), ([7], [7]), ([4, 8, 3], [4, 8]), ([3, 9], [3, 9]), ([], []), ([11, 9], [11]), ([10, 12], [10, 12]), ([13], [13]), ([0, 12, 0], [0]), ([1, 15, 0, 1, 15], [1]), ([14, 16, 0, 1, 2, 3, 4, 5, 6, 7, 8, 9, 10, 11, 12, 13, 14, 15, 16], [14])])
def spec_DrawSelect.B6 : List Nat := [0, 0, 0, 4, 0, 0, 32, 96, 224, 508, 1020, 0, 3068, 8188, 16380, 7165, 39935, 131071]
theorem spec_DrawSelect.tab6 : rtab .any (opsOf Try.f39 6) = spec_DrawSelect.T6 := by kernel_rfl
theorem spec_DrawSelect.bits6 : waitsOk spec_DrawSelect.T6.2 spec_DrawSelect.B6 = true := by kernel_rfl
set_option maxHeartbeats 8000000 in
set_option maxRecDepth 100000 in
theorem spec_DrawSelect.calls (k : Nat) (A0 : Option Addr) (c0 : Nat) (l0 : List Int) (r1 : Int) (r2 : List Int) (r3 : Int) (r4 : Int) (w : World) (hr0 : Kd.C (Kd.int .u8) w A0 l0.length l0) (hc0 : l0.length ≤ c0) (h : spec_DrawSelect.f k l0 = some (r1, r2, r3, r4)) :
    Calls Try.prog 39 #[.slice A0 l0.length c0] w fun e w' => ∃ v1_ : Value, e = .returned (.tuple #[.agg #[.int .i64 r1, v1_], .int .i64 r3, .int .i64 r4]) ∧ Kd.R (Kd.int .u64) 53 w' w.heap.size (fun _ => True) v1_ r2 ∧ Below w.heap.size w w' := by
  have hu25 := Try.underlying25
  have HR0 := Aside0.mk hr0
  have HC0 := Aside0.mk hc0
  clear hr0 hc0
  have HB := Aside0.mk (Below.refl w.heap.size w)
  have H : ((spec_l01Open.f l0).bind fun bt290 => ((spec_l01Cur_badBits.f k bt290.1 bt290.2.1 bt290.2.2).bind fun bt294 => ((spec_l01Cur_pick.f bt290.1 bt294.2.2.1 bt294.2.2.2 2).bind fun bt301 => ((spec_l01Cur_once.f bt290.1 bt301.2.1 bt301.2.2 12).bind fun bt304 => (if bt304.1 = true then ((spec_l01Cur_raw.f bt290.1 bt304.2.1 bt304.2.2).bind fun bt307 => ((spec_l01Cur_pick.f bt290.1 bt307.2.1 bt307.2.2 20).bind fun bt310 => ((spec_l01Cur_place.f bt290.1 bt310.2.1 bt310.2.2 (mn 300 (mx 0 bt294.1))).bind fun bt313 => ((some (([bt310.1, bt313.1] : List Int) : List Int)).bind fun y316 => ((spec_l01Cur_pick.f bt290.1 bt313.2.1 bt313.2.2 2).bind fun bt319 => (if 0 ≤ bt319.1 then (if bt319.1 < (y316.length : Int) then (some (bt294.1, bt294.2.1, bt307.1, rd y316 bt319.1)) else (none)) else (none))))))) else ((spec_l01Cur_pick.f bt290.1 bt304.2.1 bt304.2.2 20).bind fun bt323 => ((spec_l01Cur_place.f bt290.1 bt323.2.1 bt323.2.2 (mn 300 (mx 0 bt294.1))).bind fun bt326 => ((some (([bt323.1, bt326.1] : List Int) : List Int)).bind fun y329 => ((spec_l01Cur_pick.f bt290.1 bt326.2.1 bt326.2.2 2).bind fun bt332 => (if 0 ≤ bt332.1 then (if bt332.1 < (y329.length : Int) then (some (bt294.1, bt294.2.1, bt301.1, rd y329 bt332.1)) else (none)) else (none))))))))))) = some (r1, r2, r3, r4) := h
  clear h
  replace H := Option.bind_eq_some_iff.mp H
  obtain ⟨⟨t290, t291, t292⟩, A20, H⟩ := H
  replace H : ((spec_l01Cur_badBits.f k t290 t291 t292).bind fun bt294 => ((spec_l01Cur_pick.f t290 bt294.2.2.1 bt294.2.2.2 2).bind fun bt301 => ((spec_l01Cur_once.f t290 bt301.2.1 bt301.2.2 12).bind fun bt304 => (if bt304.1 = true then ((spec_l01Cur_raw.f t290 bt304.2.1 bt304.2.2).bind fun bt307 => ((spec_l01Cur_pick.f t290 bt307.2.1 bt307.2.2 20).bind fun bt310 => ((spec_l01Cur_place.f t290 bt310.2.1 bt310.2.2 (mn 300 (mx 0 bt294.1))).bind fun bt313 => ((some (([bt310.1, bt313.1] : List Int) : List Int)).bind fun y316 => ((spec_l01Cur_pick.f t290 bt313.2.1 bt313.2.2 2).bind fun bt319 => (if 0 ≤ bt319.1 then (if bt319.1 < (y316.length : Int) then (some (bt294.1, bt294.2.1, bt307.1, rd y316 bt319.1)) else (none)) else (none))))))) else ((spec_l01Cur_pick.f t290 bt304.2.1 bt304.2.2 20).bind fun bt323 => ((spec_l01Cur_place.f t290 bt323.2.1 bt323.2.2 (mn 300 (mx 0 bt294.1))).bind fun bt326 => ((some (([bt323.1, bt326.1] : List Int) : List Int)).bind fun y329 => ((spec_l01Cur_pick.f t290 bt326.2.1 bt326.2.2 2).bind fun bt332 => (if 0 ≤ bt332.1 then (if bt332.1 < (y329.length : Int) then (some (bt294.1, bt294.2.1, bt301.1, rd y329 bt332.1)) else (none)) else (none)))))))))) = some (r1, r2, r3, r4) := H
  have A2 := Aside0.mk A20
  clear A20
  replace H := Option.bind_eq_some_iff.mp H
  obtain ⟨⟨t294, t295, t298, t299⟩, A30, H⟩ := H
  replace H : ((spec_l01Cur_pick.f t290 t298 t299 2).bind fun bt301 => ((spec_l01Cur_once.f t290 bt301.2.1 bt301.2.2 12).bind fun bt304 => (if bt304.1 = true then ((spec_l01Cur_raw.f t290 bt304.2.1 bt304.2.2).bind fun bt307 => ((spec_l01Cur_pick.f t290 bt307.2.1 bt307.2.2 20).bind fun bt310 => ((spec_l01Cur_place.f t290 bt310.2.1 bt310.2.2 (mn 300 (mx 0 t294))).bind fun bt313 => ((some (([bt310.1, bt313.1] : List Int) : List Int)).bind fun y316 => ((spec_l01Cur_pick.f t290 bt313.2.1 bt313.2.2 2).bind fun bt319 => (if 0 ≤ bt319.1 then (if bt319.1 < (y316.length : Int) then (some (t294, t295, bt307.1, rd y316 bt319.1)) else (none)) else (none))))))) else ((spec_l01Cur_pick.f t290 bt304.2.1 bt304.2.2 20).bind fun bt323 => ((spec_l01Cur_place.f t290 bt323.2.1 bt323.2.2 (mn 300 (mx 0 t294))).bind fun bt326 => ((some (([bt323.1, bt326.1] : List Int) : List Int)).bind fun y329 => ((spec_l01Cur_pick.f t290 bt326.2.1 bt326.2.2 2).bind fun bt332 => (if 0 ≤ bt332.1 then (if bt332.1 < (y329.length : Int) then (some (t294, t295, bt301.1, rd y329 bt332.1)) else (none)) else (none))))))))) = some (r1, r2, r3, r4) := H
  have A3 := Aside0.mk A30
  clear A30
  replace H := Option.bind_eq_some_iff.mp H
  obtain ⟨⟨t301, t302, t303⟩, A40, H⟩ := H
  replace H : ((spec_l01Cur_once.f t290 t302 t303 12).bind fun bt304 => (if bt304.1 = true then ((spec_l01Cur_raw.f t290 bt304.2.1 bt304.2.2).bind fun bt307 => ((spec_l01Cur_pick.f t290 bt307.2.1 bt307.2.2 20).bind fun bt310 => ((spec_l01Cur_place.f t290 bt310.2.1 bt310.2.2 (mn 300 (mx 0 t294))).bind fun bt313 => ((some (([bt310.1, bt313.1] : List Int) : List Int)).bind fun y316 => ((spec_l01Cur_pick.f t290 bt313.2.1 bt313.2.2 2).bind fun bt319 => (if 0 ≤ bt319.1 then (if bt319.1 < (y316.length : Int) then (some (t294, t295, bt307.1, rd y316 bt319.1)) else (none)) else (none))))))) else ((spec_l01Cur_pick.f t290 bt304.2.1 bt304.2.2 20).bind fun bt323 => ((spec_l01Cur_place.f t290 bt323.2.1 bt323.2.2 (mn 300 (mx 0 t294))).bind fun bt326 => ((some (([bt323.1, bt326.1] : List Int) : List Int)).bind fun y329 => ((spec_l01Cur_pick.f t290 bt326.2.1 bt326.2.2 2).bind fun bt332 => (if 0 ≤ bt332.1 then (if bt332.1 < (y329.length : Int) then (some (t294, t295, t301, rd y329 bt332.1)) else (none)) else (none)))))))) = some (r1, r2, r3, r4) := H
  have A4 := Aside0.mk A40
  clear A40
  replace H := Option.bind_eq_some_iff.mp H
  obtain ⟨⟨t304, t305, t306⟩, A50, H⟩ := H
  replace H : (if t304 = true then ((spec_l01Cur_raw.f t290 t305 t306).bind fun bt307 => ((spec_l01Cur_pick.f t290 bt307.2.1 bt307.2.2 20).bind fun bt310 => ((spec_l01Cur_place.f t290 bt310.2.1 bt310.2.2 (mn 300 (mx 0 t294))).bind fun bt313 => ((some (([bt310.1, bt313.1] : List Int) : List Int)).bind fun y316 => ((spec_l01Cur_pick.f t290 bt313.2.1 bt313.2.2 2).bind fun bt319 => (if 0 ≤ bt319.1 then (if bt319.1 < (y316.length : Int) then (some (t294, t295, bt307.1, rd y316 bt319.1)) else (none)) else (none))))))) else ((spec_l01Cur_pick.f t290 t305 t306 20).bind fun bt323 => ((spec_l01Cur_place.f t290 bt323.2.1 bt323.2.2 (mn 300 (mx 0 t294))).bind fun bt326 => ((some (([bt323.1, bt326.1] : List Int) : List Int)).bind fun y329 => ((spec_l01Cur_pick.f t290 bt326.2.1 bt326.2.2 2).bind fun bt332 => (if 0 ≤ bt332.1 then (if bt332.1 < (y329.length : Int) then (some (t294, t295, t301, rd y329 bt332.1)) else (none)) else (none))))))) = some (r1, r2, r3, r4) := H
  have A5 := Aside0.mk A50
  clear A50
  by_cases c6 : t304 = true
  · subst c6
    have H1 : ((spec_l01Cur_raw.f t290 t305 t306).bind fun bt307 => ((spec_l01Cur_pick.f t290 bt307.2.1 bt307.2.2 20).bind fun bt310 => ((spec_l01Cur_place.f t290 bt310.2.1 bt310.2.2 (mn 300 (mx 0 t294))).bind fun bt313 => ((some (([bt310.1, bt313.1] : List Int) : List Int)).bind fun y316 => ((spec_l01Cur_pick.f t290 bt313.2.1 bt313.2.2 2).bind fun bt319 => (if 0 ≤ bt319.1 then (if bt319.1 < (y316.length : Int) then (some (t294, t295, bt307.1, rd y316 bt319.1)) else (none)) else (none))))))) = some (r1, r2, r3, r4) := by rw [if_pos rfl] at H; exact H
    clear H
    have H := H1
    clear H1
    replace H := Option.bind_eq_some_iff.mp H
    obtain ⟨⟨t307, t308, t309⟩, A70, H⟩ := H
    replace H : ((spec_l01Cur_pick.f t290 t308 t309 20).bind fun bt310 => ((spec_l01Cur_place.f t290 bt310.2.1 bt310.2.2 (mn 300 (mx 0 t294))).bind fun bt313 => ((some (([bt310.1, bt313.1] : List Int) : List Int)).bind fun y316 => ((spec_l01Cur_pick.f t290 bt313.2.1 bt313.2.2 2).bind fun bt319 => (if 0 ≤ bt319.1 then (if bt319.1 < (y316.length : Int) then (some (t294, t295, t307, rd y316 bt319.1)) else (none)) else (none)))))) = some (r1, r2, r3, r4) := H
    have A7 := Aside0.mk A70
    clear A70
    replace H := Option.bind_eq_some_iff.mp H
    obtain ⟨⟨t310, t311, t312⟩, A80, H⟩ := H
    replace H : ((spec_l01Cur_place.f t290 t311 t312 (mn 300 (mx 0 t294))).bind fun bt313 => ((some (([t310, bt313.1] : List Int) : List Int)).bind fun y316 => ((spec_l01Cur_pick.f t290 bt313.2.1 bt313.2.2 2).bind fun bt319 => (if 0 ≤ bt319.1 then (if bt319.1 < (y316.length : Int) then (some (t294, t295, t307, rd y316 bt319.1)) else (none)) else (none))))) = some (r1, r2, r3, r4) := H
    have A8 := Aside0.mk A80
    clear A80
    obtain ⟨ji9, hji9⟩ : ∃ j_ : Int, (mx 0 t294) = j_ := ⟨_, rfl⟩
    replace H : ((spec_l01Cur_place.f t290 t311 t312 (mn 300 (ji9))).bind fun bt313 => ((some (([t310, bt313.1] : List Int) : List Int)).bind fun y316 => ((spec_l01Cur_pick.f t290 bt313.2.1 bt313.2.2 2).bind fun bt319 => (if 0 ≤ bt319.1 then (if bt319.1 < (y316.length : Int) then (some (t294, t295, t307, rd y316 bt319.1)) else (none)) else (none))))) = some (r1, r2, r3, r4) := by first | (rw [hji9] at H; exact H) | (simp only [hji9] at H ⊢; exact H)
    (try rw [hji9] at A2)
    (try rw [hji9] at A3)
    (try rw [hji9] at A4)
    (try rw [hji9] at A5)
    (try rw [hji9] at A7)
    (try rw [hji9] at A8)
    (try (have hji9l : 0 ≤ ji9 := by (rw [← hji9]; unfold mx; (repeat' split) <;> omega)))
    (try (have hji9m : 0 ≤ ji9 := by omega))
    have hji9_ : (if 0 < t294 then t294 else 0) = ji9 := hji9
    obtain ⟨ji10, hji10⟩ : ∃ j_ : Int, (mn 300 (ji9)) = j_ := ⟨_, rfl⟩
    replace H : ((spec_l01Cur_place.f t290 t311 t312 (ji10)).bind fun bt313 => ((some (([t310, bt313.1] : List Int) : List Int)).bind fun y316 => ((spec_l01Cur_pick.f t290 bt313.2.1 bt313.2.2 2).bind fun bt319 => (if 0 ≤ bt319.1 then (if bt319.1 < (y316.length : Int) then (some (t294, t295, t307, rd y316 bt319.1)) else (none)) else (none))))) = some (r1, r2, r3, r4) := by first | (rw [hji10] at H; exact H) | (simp only [hji10] at H ⊢; exact H)
    (try rw [hji10] at A2)
    (try rw [hji10] at A3)
    (try rw [hji10] at A4)
    (try rw [hji10] at A5)
    (try rw [hji10] at A7)
    (try rw [hji10] at A8)
    have hji10_ : (if (ji9) < 300 then (ji9) else 300) = ji10 := hji10
    replace H := Option.bind_eq_some_iff.mp H
    obtain ⟨⟨t313, t314, t315⟩, A110, H⟩ := H
    replace H : ((some (([t310, t313] : List Int) : List Int)).bind fun y316 => ((spec_l01Cur_pick.f t290 t314 t315 2).bind fun bt319 => (if 0 ≤ bt319.1 then (if bt319.1 < (y316.length : Int) then (some (t294, t295, t307, rd y316 bt319.1)) else (none)) else (none)))) = some (r1, r2, r3, r4) := H
    have A11 := Aside0.mk A110
    clear A110
    obtain ⟨y316, hy316⟩ : ∃ y_ : List Int, y_ = (([t310, t313] : List Int)) := ⟨_, rfl⟩
    replace H : ((spec_l01Cur_pick.f t290 t314 t315 2).bind fun bt319 => (if 0 ≤ bt319.1 then (if bt319.1 < (y316.length : Int) then (some (t294, t295, t307, rd y316 bt319.1)) else (none)) else (none))) = some (r1, r2, r3, r4) := by first | (rw [hy316]; with_reducible exact H) | (have H2_ := (Option.bind_some _ _).symm.trans H; rw [hy316]; with_reducible exact H2_) | (have H2_ := (Option.bind_some _ _).symm.trans H; with_reducible exact H2_) | with_reducible exact H | (rw [hy316]; exact H) | exact H
    have Ny316 := Aside0.mk hy316
    clear hy316
    replace H := Option.bind_eq_some_iff.mp H
    obtain ⟨⟨t319, t320, t321⟩, A120, H⟩ := H
    replace H : (if 0 ≤ t319 then (if t319 < (y316.length : Int) then (some (t294, t295, t307, rd y316 t319)) else (none)) else (none)) = some (r1, r2, r3, r4) := H
    have A12 := Aside0.mk A120
    clear A120
    by_cases c13 : 0 ≤ t319
    · rw [if_pos c13] at H
      have c13b0 : decide (0 ≤ t319) = true := decide_eq_true c13
      clear c13
      by_cases c14 : t319 < (y316.length : Int)
      · rw [if_pos c14] at H
        have c14b0 : decide (t319 < (y316.length : Int)) = true := decide_eq_true c14
        clear c14
        simp only [Option.some.injEq, Prod.mk.injEq] at H
        obtain ⟨rfl, rfl, rfl, rfl⟩ := H
        go_enter Try.func39, Try.ntmps39
        try go_wp2_with (first | ((with_reducible refine gate_dst (N := 2) rfl ?_); refine box_event ?hg (N := 2) ?hd (cs := #[.int .i64 0, .slice none 0 0]) (t := 25) ?hr ?_; (case hd => rfl); (case hg => rfl); (case hr => first | (go_simp; done) | (go_simp; rfl)); intro gb289 hg w15 hbox hb; have n0_ := Aside0.mk (below_step (by repeat (first | (with_reducible first | exact HB.out | apply below_alloc | apply pw_below_drewN | apply below_drew1) | exact HB.out)) hb); have n1_ := Aside0.mk (hbox); have n2_ := Aside0.mk ((by rw [hg]; exact (below_size (by repeat (first | (with_reducible first | exact HB.out | apply below_alloc | apply pw_below_drewN | apply below_drew1) | exact HB.out))) : w.heap.size ≤ gb289)); have n3_ := Aside0.mk ((by rw [hg]; exact (below_size (by repeat (first | (with_reducible first | exact HB.out | apply below_alloc | apply pw_below_drewN | apply below_drew1) | exact HB.out))) : w.heap.size ≤ gb289)); clear HB; have HB := n0_; have BK289 := n1_; have GW289 := n2_; have GE289 := n3_; clear n0_ n1_ n2_ n3_; clear hb hbox hg) | ((with_reducible refine gate_callee (f := 60) rfl ?_); refine goesL_ (some 9) rfl rfl Try.func60 (by kernel_rfl) rfl #[.slice A0 l0.length c0] rfl (by (try simp only [List.map_toArray, List.map_cons, List.map_nil]); first | done | rfl | (simp only [List.length_drop, List.length_take]; rfl)) ?_; (with_reducible refine (spec_l01Open.calls _ _ l0 t290 t291 t292 w _ ?side1 ?side2 ?side3 A2.out).mono ?_); (case side1 => repeat (first | (with_reducible first | exact HB.out | apply below_alloc | apply pw_below_drewN | apply below_drew1 | refine below_set ?_ GE289.out) | exact HB.out)); (case side2 => exact HR0.out); (case side3 => exact HC0.out); rintro e w16 ⟨g293, rfl, hi, hb, hb2⟩; refine ⟨_, rfl, ?_⟩; have n0_ := Aside0.mk (blk_below (g := gb289) (o := .cells #[.int .i64 0, .slice none 0 0] 25 (0, 0)) (by (with_reducible repeat (first | refine blk_drewN ?_ _ | refine blk_drew ?_ | refine blk_alloc ?_ _)); exact BK289.out) hb2); have n1_ := Aside0.mk (hb); have n2_ := Aside0.mk (hi); have n3_ := Aside0.mk (IsS73.ne_blk hi (blk_below (g := gb289) (o := .cells #[.int .i64 0, .slice none 0 0] 25 (0, 0)) (by (with_reducible repeat (first | refine blk_drewN ?_ _ | refine blk_drew ?_ | refine blk_alloc ?_ _)); exact BK289.out) hb2) (by decide)); have n4_ := Aside0.mk (Ne.symm (IsS73.ne_blk hi (blk_below (g := gb289) (o := .cells #[.int .i64 0, .slice none 0 0] 25 (0, 0)) (by (with_reducible repeat (first | refine blk_drewN ?_ _ | refine blk_drew ?_ | refine blk_alloc ?_ _)); exact BK289.out) hb2) (by decide))); clear BK289; clear HB; have BK289 := n0_; have HB := n1_; have HI293 := n2_; have NB293_289 := n3_; have NB289_293 := n4_; clear n0_ n1_ n2_ n3_ n4_; (try clear hb); (try clear hb2); (try clear hk); (try clear hi)) | ((with_reducible refine gate_callee (f := 61) rfl ?_); refine goesL_ (some 11) rfl rfl Try.func61 (by kernel_rfl) rfl #[.pointer (some ⟨g293, 0, none⟩)] rfl (by (try simp only [List.map_toArray, List.map_cons, List.map_nil]); first | done | rfl | (simp only [List.length_drop, List.length_take]; rfl)) ?_; (with_reducible refine (spec_l01Cur_badBits.calls k g293 t290 t291 t292 t294 t295 t298 t299 w _ ?side1 ?side2 A3.out).mono ?_); (case side1 => repeat (first | (with_reducible first | exact HI293.out | apply IsS73.alloc | apply IsS73.drewN | apply IsS73.drew | apply IsS73.set_1 | apply IsS73.set_2 | refine IsS73.far ?_ NB293_289.out _) | exact HI293.out)); (case side2 => repeat (first | (with_reducible first | exact HB.out | apply below_alloc | apply pw_below_drewN | apply below_drew1 | refine below_set ?_ (IsS73.ge HI293.out) | refine below_set ?_ GE289.out) | exact HB.out)); rintro e w17 ⟨v296, rfl, ho0, hi, hb, hk⟩; refine ⟨_, rfl, ?_⟩; have n0_ := Aside0.mk (KeepBut.blk hk (g' := gb289) (o := .cells #[.int .i64 0, .slice none 0 0] 25 (0, 0)) (by (with_reducible repeat (first | refine blk_drewN ?_ _ | refine blk_drew ?_ | refine blk_alloc ?_ _)); exact BK289.out) NB289_293.out (by simp)); have n1_ := Aside0.mk (Kd.R_lower ho0 (below_size (by repeat (first | (with_reducible first | exact HB.out | apply below_alloc | apply pw_below_drewN | apply below_drew1 | refine below_set ?_ (IsS73.ge HI293.out) | refine below_set ?_ GE289.out) | exact HB.out)))); have n2_ := Aside0.mk (hb); have n3_ := Aside0.mk (hi); clear BK289; clear HB; clear HI293; have BK289 := n0_; have HO297 := n1_; have HB := n2_; have HI293 := n3_; clear n0_ n1_ n2_ n3_; (try clear hb); (try clear hb2); (try clear hk); (try clear hi); (try clear ho0)) | ((with_reducible refine gate_dst (N := 6) rfl ?_); refine box_event ?hg (N := 6) ?hd (cs := #[.int .i64 0, .slice none 0 0]) (t := 25) ?hr ?_; (case hd => rfl); (case hg => rfl); (case hr => first | (go_simp; done) | (go_simp; rfl)); intro gb300 hg w18 hbox hb; have n0_ := Aside0.mk (Kd.R_below (by (with_reducible repeat (first | apply Kd.R_alloc | apply Kd.R_drewN | apply Kd.R_drew)); exact HO297.out) hb); have n1_ := Aside0.mk (blk_below (g := gb289) (o := .cells #[.int .i64 0, .slice none 0 0] 25 (0, 0)) (by (with_reducible repeat (first | refine blk_drewN ?_ _ | refine blk_drew ?_ | refine blk_alloc ?_ _)); exact BK289.out) hb); have n2_ := Aside0.mk (IsS73.below (by repeat (first | (with_reducible first | exact HI293.out | apply IsS73.alloc | apply IsS73.drewN | apply IsS73.drew | apply IsS73.set_1 | apply IsS73.set_2 | refine IsS73.far ?_ NB293_289.out _) | exact HI293.out)) hb); have n3_ := Aside0.mk (below_step (by repeat (first | (with_reducible first | exact HB.out | apply below_alloc | apply pw_below_drewN | apply below_drew1 | refine below_set ?_ (IsS73.ge HI293.out) | refine below_set ?_ GE289.out) | exact HB.out)) hb); have n4_ := Aside0.mk (hbox); have n5_ := Aside0.mk ((by rw [hg]; exact (below_size (by repeat (first | (with_reducible first | exact HB.out | apply below_alloc | apply pw_below_drewN | apply below_drew1 | refine below_set ?_ (IsS73.ge HI293.out) | refine below_set ?_ GE289.out) | exact HB.out))) : w.heap.size ≤ gb300)); have n6_ := Aside0.mk ((by rw [hg]; exact (below_size (by repeat (first | (with_reducible first | exact HB.out | apply below_alloc | apply pw_below_drewN | apply below_drew1 | refine below_set ?_ (IsS73.ge HI293.out) | refine below_set ?_ GE289.out) | exact HB.out))) : w.heap.size ≤ gb300)); have n7_ := Aside0.mk ((by rw [hg]; exact Nat.ne_of_lt (blk_lt (g := gb289) (o := .cells #[.int .i64 0, .slice none 0 0] 25 (0, 0)) (by (with_reducible repeat (first | refine blk_drewN ?_ _ | refine blk_drew ?_ | refine blk_alloc ?_ _)); exact BK289.out)) : gb289 ≠ gb300)); have n8_ := Aside0.mk ((by rw [hg]; exact Nat.ne_of_gt (blk_lt (g := gb289) (o := .cells #[.int .i64 0, .slice none 0 0] 25 (0, 0)) (by (with_reducible repeat (first | refine blk_drewN ?_ _ | refine blk_drew ?_ | refine blk_alloc ?_ _)); exact BK289.out)) : gb300 ≠ gb289)); have n9_ := Aside0.mk ((by rw [hg]; exact Nat.ne_of_lt (IsS73.lt (show IsS73 w _ g293 t290 t298 t299 from by repeat (first | (with_reducible first | exact HI293.out | apply IsS73.alloc | apply IsS73.drewN | apply IsS73.drew | apply IsS73.set_1 | apply IsS73.set_2 | refine IsS73.far ?_ NB293_289.out _) | exact HI293.out))) : g293 ≠ gb300)); have n10_ := Aside0.mk ((by rw [hg]; exact Nat.ne_of_gt (IsS73.lt (show IsS73 w _ g293 t290 t298 t299 from by repeat (first | (with_reducible first | exact HI293.out | apply IsS73.alloc | apply IsS73.drewN | apply IsS73.drew | apply IsS73.set_1 | apply IsS73.set_2 | refine IsS73.far ?_ NB293_289.out _) | exact HI293.out))) : gb300 ≠ g293)); clear HO297; clear BK289; clear HI293; clear HB; have HO297 := n0_; have BK289 := n1_; have HI293 := n2_; have HB := n3_; have BK300 := n4_; have GW300 := n5_; have GE300 := n6_; have NB289_300 := n7_; have NB300_289 := n8_; have NB293_300 := n9_; have NB300_293 := n10_; clear n0_ n1_ n2_ n3_ n4_ n5_ n6_ n7_ n8_ n9_ n10_; clear hb hbox hg; have hnb19 := NB300_289.out; have hnc19 := NB289_300.out; have hnb20 := NB300_293.out; have hnc20 := NB293_300.out; have hcz21_0 : w18.cell? ⟨gb300, 0, none⟩ = some (.int .i64 0) := (blk_cell BK300.out 0).trans rfl; have hcz21_1 : w18.cell? ⟨gb300, 1, none⟩ = some (.slice none 0 0) := (blk_cell BK300.out 1).trans rfl; have hfz21_0 := blk_frozen BK300.out 0; have hfz21_1 := blk_frozen BK300.out 1; obtain ⟨Ao22, co22, eo22⟩ := Kd.R_slice HO297.out; subst eo22) | ((with_reducible refine gate_callee (f := 62) rfl ?_); refine goesL_ (some 13) rfl rfl Try.func62 (by kernel_rfl) rfl #[.pointer (some ⟨g293, 0, none⟩), .int .i64 2] rfl (by (try simp only [List.map_toArray, List.map_cons, List.map_nil]); first | done | rfl | (simp only [List.length_drop, List.length_take]; rfl)) ?_; (with_reducible refine (spec_l01Cur_pick.calls g293 t290 t298 t299 2 t301 t302 t303 w _ ?side1 ?side2 A4.out).mono ?_); (case side1 => repeat (first | (with_reducible first | exact HI293.out | apply IsS73.alloc | apply IsS73.drewN | apply IsS73.drew | apply IsS73.set_1 | apply IsS73.set_2 | refine IsS73.far ?_ NB293_289.out _ | refine IsS73.far ?_ NB293_300.out _) | exact HI293.out)); (case side2 => repeat (first | (with_reducible first | exact HB.out | apply below_alloc | apply pw_below_drewN | apply below_drew1 | refine below_set ?_ (IsS73.ge HI293.out) | refine below_set ?_ GE289.out | refine below_set ?_ GE300.out) | exact HB.out)); rintro e w23 ⟨rfl, hi, hb, hk⟩; refine ⟨_, rfl, ?_⟩; have n0_ := Aside0.mk (KeepBut.blk hk (g' := gb289) (o := .cells #[.int .i64 0, .slice none 0 0] 25 (0, 0)) (by (with_reducible repeat (first | refine blk_drewN ?_ _ | refine blk_drew ?_ | refine blk_alloc ?_ _)); refine blk_far ?_ NB289_300.out _; (with_reducible repeat (first | refine blk_drewN ?_ _ | refine blk_drew ?_ | refine blk_alloc ?_ _)); refine blk_far ?_ NB289_300.out _; (with_reducible repeat (first | refine blk_drewN ?_ _ | refine blk_drew ?_ | refine blk_alloc ?_ _)); exact BK289.out) NB289_293.out (by simp)); have n1_ := Aside0.mk (Kd.R_mono (Kd.R_keep (IsS73.apart (show IsS73 w _ g293 t290 t298 t299 from by repeat (first | (with_reducible first | exact HI293.out | apply IsS73.alloc | apply IsS73.drewN | apply IsS73.drew | apply IsS73.set_1 | apply IsS73.set_2 | refine IsS73.far ?_ NB293_289.out _ | refine IsS73.far ?_ NB293_300.out _) | exact HI293.out)) (by (with_reducible repeat (first | apply Kd.R_alloc | apply Kd.R_drewN | apply Kd.R_drew)); exact (Kd.R_mono (Kd.R_far (p := ⟨gb300, 1, none⟩) (Kd.R_far (p := ⟨gb300, 0, none⟩) (Kd.R_types HO297.out BK300.out (by decide)) (fun _ hk => hk.2) (.int .i64 t294)) (fun _ hk => hk.2) (.slice Ao22 t295.length co22)) (fun _ h_ => h_.1))) (by decide)) hk (fun _ h => h.2)) (fun _ h => h.1)); have n2_ := Aside0.mk (KeepBut.blk hk (g' := gb300) (o := .cells #[.int .i64 t294, .slice Ao22 t295.length co22] 25 (0, 0)) (by (with_reducible repeat (first | refine blk_drewN ?_ _ | refine blk_drew ?_ | refine blk_alloc ?_ _)); refine blk_put (cs := #[.int .i64 t294, .slice none 0 0]) ?_ 1 _ rfl; (with_reducible repeat (first | refine blk_drewN ?_ _ | refine blk_drew ?_ | refine blk_alloc ?_ _)); refine blk_put (cs := #[.int .i64 0, .slice none 0 0]) ?_ 0 _ rfl; (with_reducible repeat (first | refine blk_drewN ?_ _ | refine blk_drew ?_ | refine blk_alloc ?_ _)); exact BK300.out) NB300_293.out (by simp)); have n3_ := Aside0.mk (hb); have n4_ := Aside0.mk (hi); clear BK289; clear HO297; clear BK300; clear HB; clear HI293; have BK289 := n0_; have HO297 := n1_; have BK300 := n2_; have HB := n3_; have HI293 := n4_; clear n0_ n1_ n2_ n3_ n4_; (try clear hb); (try clear hb2); (try clear hk); (try clear hi)) | ((with_reducible refine gate_callee (f := 63) rfl ?_); refine goesL_ (some 15) rfl rfl Try.func63 (by kernel_rfl) rfl #[.pointer (some ⟨g293, 0, none⟩), .int .i64 12] rfl (by (try simp only [List.map_toArray, List.map_cons, List.map_nil]); first | done | rfl | (simp only [List.length_drop, List.length_take]; rfl)) ?_; (with_reducible refine (spec_l01Cur_once.calls g293 t290 t302 t303 12 true t305 t306 w _ ?side1 ?side2 A5.out).mono ?_); (case side1 => repeat (first | (with_reducible first | exact HI293.out | apply IsS73.alloc | apply IsS73.drewN | apply IsS73.drew | apply IsS73.set_1 | apply IsS73.set_2 | refine IsS73.far ?_ NB293_289.out _ | refine IsS73.far ?_ NB293_300.out _) | exact HI293.out)); (case side2 => repeat (first | (with_reducible first | exact HB.out | apply below_alloc | apply pw_below_drewN | apply below_drew1 | refine below_set ?_ (IsS73.ge HI293.out) | refine below_set ?_ GE289.out | refine below_set ?_ GE300.out) | exact HB.out)); rintro e w24 ⟨rfl, hi, hb, hk⟩; refine ⟨_, rfl, ?_⟩; have n0_ := Aside0.mk (KeepBut.blk hk (g' := gb289) (o := .cells #[.int .i64 0, .slice none 0 0] 25 (0, 0)) (by (with_reducible repeat (first | refine blk_drewN ?_ _ | refine blk_drew ?_ | refine blk_alloc ?_ _)); exact BK289.out) NB289_293.out (by simp)); have n1_ := Aside0.mk (Kd.R_mono (Kd.R_keep (IsS73.apart (show IsS73 w _ g293 t290 t302 t303 from by repeat (first | (with_reducible first | exact HI293.out | apply IsS73.alloc | apply IsS73.drewN | apply IsS73.drew | apply IsS73.set_1 | apply IsS73.set_2 | refine IsS73.far ?_ NB293_289.out _ | refine IsS73.far ?_ NB293_300.out _) | exact HI293.out)) (by (with_reducible repeat (first | apply Kd.R_alloc | apply Kd.R_drewN | apply Kd.R_drew)); exact HO297.out) (by decide)) hk (fun _ h => h.2)) (fun _ h => h.1)); have n2_ := Aside0.mk (KeepBut.blk hk (g' := gb300) (o := .cells #[.int .i64 t294, .slice Ao22 t295.length co22] 25 (0, 0)) (by (with_reducible repeat (first | refine blk_drewN ?_ _ | refine blk_drew ?_ | refine blk_alloc ?_ _)); exact BK300.out) NB300_293.out (by simp)); have n3_ := Aside0.mk (hb); have n4_ := Aside0.mk (hi); clear BK289; clear HO297; clear BK300; clear HB; clear HI293; have BK289 := n0_; have HO297 := n1_; have BK300 := n2_; have HB := n3_; have HI293 := n4_; clear n0_ n1_ n2_ n3_ n4_; (try clear hb); (try clear hb2); (try clear hk); (try clear hi)) | ((with_reducible refine gate_callee (f := 64) rfl ?_); refine goesL_ (some 17) rfl rfl Try.func64 (by kernel_rfl) rfl #[.pointer (some ⟨g293, 0, none⟩)] rfl (by (try simp only [List.map_toArray, List.map_cons, List.map_nil]); first | done | rfl | (simp only [List.length_drop, List.length_take]; rfl)) ?_; (with_reducible refine (spec_l01Cur_raw.calls g293 t290 t305 t306 t307 t308 t309 w _ ?side1 ?side2 A7.out).mono ?_); (case side1 => repeat (first | (with_reducible first | exact HI293.out | apply IsS73.alloc | apply IsS73.drewN | apply IsS73.drew | apply IsS73.set_1 | apply IsS73.set_2 | refine IsS73.far ?_ NB293_289.out _ | refine IsS73.far ?_ NB293_300.out _) | exact HI293.out)); (case side2 => repeat (first | (with_reducible first | exact HB.out | apply below_alloc | apply pw_below_drewN | apply below_drew1 | refine below_set ?_ (IsS73.ge HI293.out) | refine below_set ?_ GE289.out | refine below_set ?_ GE300.out) | exact HB.out)); rintro e w25 ⟨rfl, hi, hb, hk⟩; refine ⟨_, rfl, ?_⟩; have n0_ := Aside0.mk (KeepBut.blk hk (g' := gb289) (o := .cells #[.int .i64 0, .slice none 0 0] 25 (0, 0)) (by (with_reducible repeat (first | refine blk_drewN ?_ _ | refine blk_drew ?_ | refine blk_alloc ?_ _)); exact BK289.out) NB289_293.out (by simp)); have n1_ := Aside0.mk (Kd.R_mono (Kd.R_keep (IsS73.apart (show IsS73 w _ g293 t290 t305 t306 from by repeat (first | (with_reducible first | exact HI293.out | apply IsS73.alloc | apply IsS73.drewN | apply IsS73.drew | apply IsS73.set_1 | apply IsS73.set_2 | refine IsS73.far ?_ NB293_289.out _ | refine IsS73.far ?_ NB293_300.out _) | exact HI293.out)) (by (with_reducible repeat (first | apply Kd.R_alloc | apply Kd.R_drewN | apply Kd.R_drew)); exact HO297.out) (by decide)) hk (fun _ h => h.2)) (fun _ h => h.1)); have n2_ := Aside0.mk (KeepBut.blk hk (g' := gb300) (o := .cells #[.int .i64 t294, .slice Ao22 t295.length co22] 25 (0, 0)) (by (with_reducible repeat (first | refine blk_drewN ?_ _ | refine blk_drew ?_ | refine blk_alloc ?_ _)); exact BK300.out) NB300_293.out (by simp)); have n3_ := Aside0.mk (hb); have n4_ := Aside0.mk (hi); clear BK289; clear HO297; clear BK300; clear HB; clear HI293; have BK289 := n0_; have HO297 := n1_; have BK300 := n2_; have HB := n3_; have HI293 := n4_; clear n0_ n1_ n2_ n3_ n4_; (try clear hb); (try clear hb2); (try clear hk); (try clear hi)))
        have pi322 : (0 ≤ (t319 : Int)) = True := eq_true (of_decide_eq_true (by first | (with_reducible assumption) | assumption))
        have qi322 : (t319 < (y316.length : Int)) = True := eq_true (of_decide_eq_true (by first | (with_reducible assumption) | assumption))
        have n0_ := Aside0.mk (Kd.R_drew HO297.out)
        have n1_ := Aside0.mk (blk_drew BK289.out)
        have n2_ := Aside0.mk (blk_drew BK300.out)
        have n3_ := Aside0.mk (IsS73.drew HI293.out)
        have n4_ := Aside0.mk (below_drew1 HB.out)
        clear HO297
        clear BK289
        clear BK300
        clear HI293
        clear HB
        have HO297 := n0_
        have BK289 := n1_
        have BK300 := n2_
        have HI293 := n3_
        have HB := n4_
        clear n0_ n1_ n2_ n3_ n4_
        refine start_ (n := 18) (S := fun w' => True) (ds := []) #[false, false, false, false, false, false, false, false, false, false, false, false, false, false, false, false, false, false] (by kernel_rfl) rfl rfl trivial (fun hHeld => ?_); refine with_tabW spec_DrawSelect.tab6 spec_DrawSelect.bits6 (fun HT_ HW_ => ?_)
        generalize w25.drew = w26 at HO297 BK289 BK300 HI293 HB hHeld ⊢
        refine pure_ (i := 1) (N := some 19) (v := ?_) (a' := ?_) #[false, true, false, false, false, false, false, false, false, false, false, false, false, false, false, false, false, false] rfl rfl (any_of HT_.out (by kernel_rfl)) (fun _ _ _ h => h) (Or.inl ⟨by rfl, ?_⟩) ?_ ?_
        rotate_left
        · intro w'
          go_simp
          with_reducible rfl
        rotate_left
        · simp only [Act.put, List.setIfInBounds_toArray, List.set_cons_zero, List.set_cons_succ, i64_w, i32_w]
          rfl
        refine pure_ (i := 2) (N := some 20) (v := ?_) (a' := ?_) #[false, true, true, false, false, false, false, false, false, false, false, false, false, false, false, false, false, false] rfl rfl (any_of HT_.out (by kernel_rfl)) (fun _ _ _ h => h) (Or.inl ⟨by rfl, ?_⟩) ?_ ?_
        rotate_left
        · intro w'
          go_simp
          with_reducible rfl
        rotate_left
        · simp only [Act.put, List.setIfInBounds_toArray, List.set_cons_zero, List.set_cons_succ, i64_w, i32_w]
          rfl
        refine pure_ (i := 4) (N := some 22) (v := ?_) (a' := ?_) #[false, true, true, false, true, false, false, false, false, false, false, false, false, false, false, false, false, false] rfl rfl (any_of HT_.out (by kernel_rfl)) (fun _ _ _ h => h) (Or.inl ⟨by rfl, ?_⟩) ?_ ?_
        rotate_left
        · intro w'
          go_simp
          with_reducible rfl
        rotate_left
        · simp only [Act.put, List.setIfInBounds_toArray, List.set_cons_zero, List.set_cons_succ, i64_w, i32_w]
          rfl
        refine pure_ (i := 5) (N := some 23) (v := ?_) (a' := ?_) #[false, true, true, false, true, true, false, false, false, false, false, false, false, false, false, false, false, false] rfl rfl (any_of HT_.out (by kernel_rfl)) (fun _ _ _ h => h) (Or.inl ⟨by rfl, ?_⟩) ?_ ?_
        rotate_left
        · intro w'
          go_simp
          with_reducible rfl
        rotate_left
        · simp only [Act.put, List.setIfInBounds_toArray, List.set_cons_zero, List.set_cons_succ, i64_w, i32_w]
          rfl
        refine pure_ (i := 11) (N := some 29) (v := ?_) (a' := ?_) #[false, true, true, false, true, true, false, false, false, false, false, true, false, false, false, false, false, false] rfl rfl (any_of HT_.out (by kernel_rfl)) (fun _ _ _ h => h) (Or.inl ⟨by rfl, ?_⟩) ?_ ?_
        rotate_left
        · intro w'
          go_simp
          with_reducible rfl
        rotate_left
        · simp only [Act.put, List.setIfInBounds_toArray, List.set_cons_zero, List.set_cons_succ, i64_w, i32_w]
          rfl
        refine inv_at [0, 3, 6, 7, 8, 9, 10, 12, 13, 14, 15, 16, 17] (fun a0_ b a w' => ∃ (v317 : Value) (adz_v317 : Addr) (m13_ : Value), a = putSel a0_ b [(0, 18, .agg #[.int .i64 t294, .slice Ao22 t295.length co22]), (3, 21, .int .i64 t310), (6, 24, .int .i64 t294), (7, 25, .int .i64 ji9), (8, 26, .int .i64 ji10), (9, 27, .int .i64 t313), (10, 28, v317), (12, 30, .int .i64 t319), (13, 31, m13_), (14, 32, .int .i64 (rd y316 t319)), (16, 3, .int .i64 t307), (17, 4, .int .i64 (rd y316 t319))] ∧ (Kd.R (Kd.int .u64) 53 w' w.heap.size (fun _ => True) (.slice Ao22 t295.length co22) t295) ∧ (b 15 = false → w'.heap[gb289]? = some (.cells #[.int .i64 0, .slice none 0 0] 25 (0, 0))) ∧ (w'.heap[gb300]? = some (.cells #[.int .i64 t294, .slice Ao22 t295.length co22] 25 (0, 0))) ∧ (b 3 = false → IsS73 w w' g293 t290 t308 t309) ∧ (Below w.heap.size w w') ∧ (b 3 = true → b 9 = false → IsS73 w w' g293 t290 t311 t312) ∧ (b 9 = true → b 12 = false → IsS73 w w' g293 t290 t314 t315) ∧ (b 10 = true → Kd.R (Kd.int .i64) 3 w' w.heap.size (fun _ => True) v317 y316) ∧ (b 10 = true → ∃ c_, (v317 : Value) = .slice (some adz_v317) y316.length c_) ∧ (b 12 = true → IsS73 w w' g293 t290 t320 t321) ∧ (b 15 = true → w'.heap[gb289]? = some (.cells #[.int .i64 t294, .slice Ao22 t295.length co22] 25 (0, 0))) ∧ (b 13 = true → (m13_ : Value) = .pointer (some (adz_v317.add (t319).toNat)))) HT_.out HW_.out (by kernel_rfl) (by kernel_rfl) ?_ ?_ ?_
        · exact ⟨.bool false, ⟨0, 0, none⟩, .bool false, by simp only [putSel, Bool.false_eq_true, if_false], HO297.out, fun _ => BK289.out, BK300.out, fun _ => HI293.out, HB.out, fun h_ => absurd h_ (by decide), fun h_ => absurd h_ (by decide), fun h_ => absurd h_ (by decide), fun h_ => absurd h_ (by decide), fun h_ => absurd h_ (by decide), fun h_ => absurd h_ (by decide), fun h_ => absurd h_ (by decide)⟩
        · skip
          clear BK289 BK300 HB HI293 HO297
          refine steps_cons ?_ ?_
          · rintro b a w' ⟨v317, adz_v317, m13_, ha, Q_HO297, Q_BK289, Q_BK300, Q_HI293, Q_HB, Q_HI293_e3, Q_HI293_e9, Q_HO318, Q_HA_HO318, Q_HI293_e12, Q_BK289_e15, Q_X13_⟩ hb_ hon hoff
            refine ⟨_, rfl, fun K hK => ?_⟩
            have e6 : a.tmps[6]? = some (.pointer (some ⟨gb300, 0, none⟩)) := by rw [ha]; exact (putSel_off rfl).trans rfl
            replace ha := Aside0.mk ha
            have HO297 := Aside0.mk Q_HO297
            have BK289 := Aside0.mk (Q_BK289 (hoff 15 (by kernel_rfl)))
            have BK300 := Aside0.mk Q_BK300
            have HB := Aside0.mk Q_HB
            have hc0_ : w'.cell? ⟨gb300, 0, none⟩ = some (.int .i64 t294) := (blk_cell BK300.out 0).trans rfl
            have hc1_ : w'.cell? ⟨gb300, 1, none⟩ = some (.slice Ao22 t295.length co22) := (blk_cell BK300.out 1).trans rfl
            refine value_ (w1 := w') (v := .agg #[.int .i64 t294, .slice Ao22 t295.length co22]) (by rfl) rfl ?_ ?_
            · go_simp
              (try simp only [i64_w])
              try rfl
            refine hK.out _ _ ⟨v317, adz_v317, m13_, (by rw [ha.out]; exact putSel_upk 0 hb_ rfl rfl rfl), Q_HO297, Q_BK289, Q_BK300, Q_HI293, Q_HB, Q_HI293_e3, Q_HI293_e9, Q_HO318, Q_HA_HO318, Q_HI293_e12, fun h0_ => absurd ((hoff 15 (by kernel_rfl)).symm.trans h0_) (by decide), Q_X13_⟩
          refine steps_cons ?_ ?_
          · rintro b a w' ⟨v317, adz_v317, m13_, ha, Q_HO297, Q_BK289, Q_BK300, Q_HI293, Q_HB, Q_HI293_e3, Q_HI293_e9, Q_HO318, Q_HA_HO318, Q_HI293_e12, Q_BK289_e15, Q_X13_⟩ hb_ hon hoff
            refine ⟨_, rfl, fun K hK => ?_⟩
            have e20 : a.tmps[20]? = some (.pointer (some ⟨g293, 0, none⟩)) := by rw [ha]; exact (putSel_off rfl).trans rfl
            replace ha := Aside0.mk ha
            have HO297 := Aside0.mk Q_HO297
            have BK289 := Aside0.mk (Q_BK289 (hoff 15 (by kernel_rfl)))
            have BK300 := Aside0.mk Q_BK300
            have HI293 := Aside0.mk (Q_HI293 hb_)
            have HB := Aside0.mk Q_HB
            refine goes_ Try.func62 (by kernel_rfl) rfl #[.pointer (some ⟨g293, 0, none⟩), .int .i64 20] (by rfl) rfl rfl (by first | (simp only [List.map_toArray, List.map_cons, List.map_nil, Act.eval, Array.getD_eq_getD_getElem?, Option.getD_some, e20]; done) | (simp only [List.map_toArray, List.map_cons, List.map_nil, Act.eval, Array.getD_eq_getD_getElem?, Option.getD_some, e20]; rfl)) ?_
            with_reducible refine (spec_l01Cur_pick.calls g293 t290 t308 t309 20 t310 t311 t312 w _ ?side1 ?side2 A8.out).mono ?_
            (case side1 => repeat (first | (with_reducible first | exact HI293.out | apply IsS73.alloc | apply IsS73.drewN | apply IsS73.drew | apply IsS73.set_1 | apply IsS73.set_2 | refine IsS73.far ?_ NB293_289.out _ | refine IsS73.far ?_ NB293_300.out _) | exact HI293.out))
            (case side2 => repeat (first | (with_reducible first | exact HB.out | apply below_alloc | apply pw_below_drewN | apply below_drew1 | refine below_set ?_ (IsS73.ge HI293.out) | refine below_set ?_ GE289.out | refine below_set ?_ GE300.out) | exact HB.out))
            rintro e w27 ⟨rfl, hi, hb, hk⟩
            refine ⟨_, rfl, ?_⟩
            have n0_ := Aside0.mk (KeepBut.blk hk (g' := gb289) (o := .cells #[.int .i64 0, .slice none 0 0] 25 (0, 0)) (by (with_reducible repeat (first | refine blk_drewN ?_ _ | refine blk_drew ?_ | refine blk_alloc ?_ _)); exact BK289.out) NB289_293.out (by simp))
            have n1_ := Aside0.mk (Kd.R_mono (Kd.R_keep (IsS73.apart (show IsS73 w _ g293 t290 t308 t309 from by repeat (first | (with_reducible first | exact HI293.out | apply IsS73.alloc | apply IsS73.drewN | apply IsS73.drew | apply IsS73.set_1 | apply IsS73.set_2 | refine IsS73.far ?_ NB293_289.out _ | refine IsS73.far ?_ NB293_300.out _) | exact HI293.out)) (by (with_reducible repeat (first | apply Kd.R_alloc | apply Kd.R_drewN | apply Kd.R_drew)); exact HO297.out) (by decide)) hk (fun _ h => h.2)) (fun _ h => h.1))
            have n2_ := Aside0.mk (KeepBut.blk hk (g' := gb300) (o := .cells #[.int .i64 t294, .slice Ao22 t295.length co22] 25 (0, 0)) (by (with_reducible repeat (first | refine blk_drewN ?_ _ | refine blk_drew ?_ | refine blk_alloc ?_ _)); exact BK300.out) NB300_293.out (by simp))
            have n3_ := Aside0.mk (hb)
            have n4_ := Aside0.mk (hi)
            clear BK289
            clear HO297
            clear BK300
            clear HB
            clear HI293
            have BK289 := n0_
            have HO297 := n1_
            have BK300 := n2_
            have HB := n3_
            have HI293 := n4_
            clear n0_ n1_ n2_ n3_ n4_
            (try clear hb)
            (try clear hb2)
            (try clear hk)
            (try clear hi)
            refine hK.out _ _ ⟨v317, adz_v317, m13_, (by rw [ha.out]; exact putSel_upk 1 hb_ rfl rfl rfl), (by (with_reducible repeat (first | apply Kd.R_alloc | apply Kd.R_drewN | apply Kd.R_drew)); exact HO297.out), fun _ => (by (with_reducible repeat (first | refine blk_drewN ?_ _ | refine blk_drew ?_ | refine blk_alloc ?_ _)); exact BK289.out), (by (with_reducible repeat (first | refine blk_drewN ?_ _ | refine blk_drew ?_ | refine blk_alloc ?_ _)); exact BK300.out), fun h0_ => absurd ((up_self b 3).symm.trans h0_) (by decide), (by repeat (first | (with_reducible first | exact HB.out | apply below_alloc | apply pw_below_drewN | apply below_drew1 | refine below_set ?_ (IsS73.ge HI293.out) | refine below_set ?_ GE289.out | refine below_set ?_ GE300.out) | exact HB.out)), fun _ _ => (by repeat (first | (with_reducible first | exact HI293.out | apply IsS73.alloc | apply IsS73.drewN | apply IsS73.drew | apply IsS73.set_1 | apply IsS73.set_2 | refine IsS73.far ?_ NB293_289.out _ | refine IsS73.far ?_ NB293_300.out _) | exact HI293.out)), fun h0_ _ => absurd ((hoff 9 (by kernel_rfl)).symm.trans h0_) (by decide), fun h0_ => absurd ((hoff 10 (by kernel_rfl)).symm.trans h0_) (by decide), fun h0_ => absurd ((hoff 10 (by kernel_rfl)).symm.trans h0_) (by decide), fun h0_ => absurd ((hoff 12 (by kernel_rfl)).symm.trans h0_) (by decide), fun h0_ => absurd ((hoff 15 (by kernel_rfl)).symm.trans h0_) (by decide), fun h0_ => absurd ((hoff 13 (by kernel_rfl)).symm.trans h0_) (by decide)⟩
          refine steps_cons ?_ ?_
          · rintro b a w' ⟨v317, adz_v317, m13_, ha, Q_HO297, Q_BK289, Q_BK300, Q_HI293, Q_HB, Q_HI293_e3, Q_HI293_e9, Q_HO318, Q_HA_HO318, Q_HI293_e12, Q_BK289_e15, Q_X13_⟩ hb_ hon hoff
            refine ⟨_, rfl, fun K hK => ?_⟩
            have e23 : a.tmps[23]? = some (.pointer (some ⟨gb300, 0, none⟩)) := by rw [ha]; exact (putSel_off rfl).trans rfl
            replace ha := Aside0.mk ha
            have HO297 := Aside0.mk Q_HO297
            have BK289 := Aside0.mk (Q_BK289 (hoff 15 (by kernel_rfl)))
            have BK300 := Aside0.mk Q_BK300
            have HB := Aside0.mk Q_HB
            have hc0_ : w'.cell? ⟨gb300, 0, none⟩ = some (.int .i64 t294) := (blk_cell BK300.out 0).trans rfl
            have hc1_ : w'.cell? ⟨gb300, 1, none⟩ = some (.slice Ao22 t295.length co22) := (blk_cell BK300.out 1).trans rfl
            refine value_ (w1 := w') (v := .int .i64 t294) (by rfl) rfl ?_ ?_
            · go_simp
              (try simp only [i64_w])
              try rfl
            refine hK.out _ _ ⟨v317, adz_v317, m13_, (by rw [ha.out]; exact putSel_upk 2 hb_ rfl rfl rfl), Q_HO297, Q_BK289, Q_BK300, Q_HI293, Q_HB, Q_HI293_e3, fun h0_ _ => absurd ((hoff 9 (by kernel_rfl)).symm.trans h0_) (by decide), fun h0_ => absurd ((hoff 10 (by kernel_rfl)).symm.trans h0_) (by decide), fun h0_ => absurd ((hoff 10 (by kernel_rfl)).symm.trans h0_) (by decide), fun h0_ => absurd ((hoff 12 (by kernel_rfl)).symm.trans h0_) (by decide), fun h0_ => absurd ((hoff 15 (by kernel_rfl)).symm.trans h0_) (by decide), fun h0_ => absurd ((hoff 13 (by kernel_rfl)).symm.trans h0_) (by decide)⟩
          refine steps_cons ?_ ?_
          · rintro b a w' ⟨v317, adz_v317, m13_, ha, Q_HO297, Q_BK289, Q_BK300, Q_HI293, Q_HB, Q_HI293_e3, Q_HI293_e9, Q_HO318, Q_HA_HO318, Q_HI293_e12, Q_BK289_e15, Q_X13_⟩ hb_ hon hoff
            refine ⟨_, rfl, fun K hK => ?_⟩
            have e24 : a.tmps[24]? = some (.int .i64 t294) := by rw [ha]; exact putSel_on (e := (6, 24, .int .i64 t294)) 2 rfl rfl (hon 6 (by kernel_rfl)) rfl
            replace ha := Aside0.mk ha
            have HO297 := Aside0.mk Q_HO297
            have BK289 := Aside0.mk (Q_BK289 (hoff 15 (by kernel_rfl)))
            have BK300 := Aside0.mk Q_BK300
            have HB := Aside0.mk Q_HB
            refine value_ (w1 := w') (v := .int .i64 ji9) (by rfl) rfl ?_ ?_
            · go_simp
              (try simp only [i64_w])
              try rfl
            refine hK.out _ _ ⟨v317, adz_v317, m13_, (by rw [ha.out]; exact putSel_upk 3 hb_ rfl rfl rfl), Q_HO297, Q_BK289, Q_BK300, Q_HI293, Q_HB, Q_HI293_e3, fun h0_ _ => absurd ((hoff 9 (by kernel_rfl)).symm.trans h0_) (by decide), fun h0_ => absurd ((hoff 10 (by kernel_rfl)).symm.trans h0_) (by decide), fun h0_ => absurd ((hoff 10 (by kernel_rfl)).symm.trans h0_) (by decide), fun h0_ => absurd ((hoff 12 (by kernel_rfl)).symm.trans h0_) (by decide), fun h0_ => absurd ((hoff 15 (by kernel_rfl)).symm.trans h0_) (by decide), fun h0_ => absurd ((hoff 13 (by kernel_rfl)).symm.trans h0_) (by decide)⟩
          refine steps_cons ?_ ?_
          · rintro b a w' ⟨v317, adz_v317, m13_, ha, Q_HO297, Q_BK289, Q_BK300, Q_HI293, Q_HB, Q_HI293_e3, Q_HI293_e9, Q_HO318, Q_HA_HO318, Q_HI293_e12, Q_BK289_e15, Q_X13_⟩ hb_ hon hoff
            refine ⟨_, rfl, fun K hK => ?_⟩
            have e25 : a.tmps[25]? = some (.int .i64 ji9) := by rw [ha]; exact putSel_on (e := (7, 25, .int .i64 ji9)) 3 rfl rfl (hon 7 (by kernel_rfl)) rfl
            replace ha := Aside0.mk ha
            have HO297 := Aside0.mk Q_HO297
            have BK289 := Aside0.mk (Q_BK289 (hoff 15 (by kernel_rfl)))
            have BK300 := Aside0.mk Q_BK300
            have HB := Aside0.mk Q_HB
            refine value_ (w1 := w') (v := .int .i64 ji10) (by rfl) rfl ?_ ?_
            · go_simp
              (try simp only [i64_w])
              try rfl
            refine hK.out _ _ ⟨v317, adz_v317, m13_, (by rw [ha.out]; exact putSel_upk 4 hb_ rfl rfl rfl), Q_HO297, Q_BK289, Q_BK300, Q_HI293, Q_HB, Q_HI293_e3, fun h0_ _ => absurd ((hoff 9 (by kernel_rfl)).symm.trans h0_) (by decide), fun h0_ => absurd ((hoff 10 (by kernel_rfl)).symm.trans h0_) (by decide), fun h0_ => absurd ((hoff 10 (by kernel_rfl)).symm.trans h0_) (by decide), fun h0_ => absurd ((hoff 12 (by kernel_rfl)).symm.trans h0_) (by decide), fun h0_ => absurd ((hoff 15 (by kernel_rfl)).symm.trans h0_) (by decide), fun h0_ => absurd ((hoff 13 (by kernel_rfl)).symm.trans h0_) (by decide)⟩
          refine steps_cons ?_ ?_
          · rintro b a w' ⟨v317, adz_v317, m13_, ha, Q_HO297, Q_BK289, Q_BK300, Q_HI293, Q_HB, Q_HI293_e3, Q_HI293_e9, Q_HO318, Q_HA_HO318, Q_HI293_e12, Q_BK289_e15, Q_X13_⟩ hb_ hon hoff
            refine ⟨_, rfl, fun K hK => ?_⟩
            have e22 : a.tmps[22]? = some (.pointer (some ⟨g293, 0, none⟩)) := by rw [ha]; exact (putSel_off rfl).trans rfl
            have e26 : a.tmps[26]? = some (.int .i64 ji10) := by rw [ha]; exact putSel_on (e := (8, 26, .int .i64 ji10)) 4 rfl rfl (hon 8 (by kernel_rfl)) rfl
            replace ha := Aside0.mk ha
            have HO297 := Aside0.mk Q_HO297
            have BK289 := Aside0.mk (Q_BK289 (hoff 15 (by kernel_rfl)))
            have BK300 := Aside0.mk Q_BK300
            have HB := Aside0.mk Q_HB
            have HI293 := Aside0.mk (Q_HI293_e3 (hon 3 (by kernel_rfl)) hb_)
            refine goes_ Try.func65 (by kernel_rfl) rfl #[.pointer (some ⟨g293, 0, none⟩), .int .i64 ji10] (by rfl) rfl rfl (by (try simp only [List.map_toArray, List.map_cons, List.map_nil]); first | done | (simp only [hji10]; rfl) | rfl | (simp only [List.length_drop, List.length_take]; rfl) | (simp only [List.map_toArray, List.map_cons, List.map_nil, Act.eval, Array.getD_eq_getD_getElem?, Option.getD_some, e22, e26]; done) | (simp only [List.map_toArray, List.map_cons, List.map_nil, Act.eval, Array.getD_eq_getD_getElem?, Option.getD_some, e22, e26]; rfl)) ?_
            with_reducible refine (spec_l01Cur_place.calls g293 t290 t311 t312 ji10 t313 t314 t315 w _ ?side1 ?side2 A11.out).mono ?_
            (case side1 => repeat (first | (with_reducible first | exact HI293.out | apply IsS73.alloc | apply IsS73.drewN | apply IsS73.drew | apply IsS73.set_1 | apply IsS73.set_2 | refine IsS73.far ?_ NB293_289.out _ | refine IsS73.far ?_ NB293_300.out _) | exact HI293.out))
            (case side2 => repeat (first | (with_reducible first | exact HB.out | apply below_alloc | apply pw_below_drewN | apply below_drew1 | refine below_set ?_ (IsS73.ge HI293.out) | refine below_set ?_ GE289.out | refine below_set ?_ GE300.out) | exact HB.out))
            rintro e w29 ⟨rfl, hi, hb, hk⟩
            refine ⟨_, rfl, ?_⟩
            have n0_ := Aside0.mk (KeepBut.blk hk (g' := gb289) (o := .cells #[.int .i64 0, .slice none 0 0] 25 (0, 0)) (by (with_reducible repeat (first | refine blk_drewN ?_ _ | refine blk_drew ?_ | refine blk_alloc ?_ _)); exact BK289.out) NB289_293.out (by simp))
            have n1_ := Aside0.mk (Kd.R_mono (Kd.R_keep (IsS73.apart (show IsS73 w _ g293 t290 t311 t312 from by repeat (first | (with_reducible first | exact HI293.out | apply IsS73.alloc | apply IsS73.drewN | apply IsS73.drew | apply IsS73.set_1 | apply IsS73.set_2 | refine IsS73.far ?_ NB293_289.out _ | refine IsS73.far ?_ NB293_300.out _) | exact HI293.out)) (by (with_reducible repeat (first | apply Kd.R_alloc | apply Kd.R_drewN | apply Kd.R_drew)); exact HO297.out) (by decide)) hk (fun _ h => h.2)) (fun _ h => h.1))
            have n2_ := Aside0.mk (KeepBut.blk hk (g' := gb300) (o := .cells #[.int .i64 t294, .slice Ao22 t295.length co22] 25 (0, 0)) (by (with_reducible repeat (first | refine blk_drewN ?_ _ | refine blk_drew ?_ | refine blk_alloc ?_ _)); exact BK300.out) NB300_293.out (by simp))
            have n3_ := Aside0.mk (hb)
            have n4_ := Aside0.mk (hi)
            clear BK289
            clear HO297
            clear BK300
            clear HB
            clear HI293
            have BK289 := n0_
            have HO297 := n1_
            have BK300 := n2_
            have HB := n3_
            have HI293 := n4_
            clear n0_ n1_ n2_ n3_ n4_
            (try clear hb)
            (try clear hb2)
            (try clear hk)
            (try clear hi)
            refine hK.out _ _ ⟨v317, adz_v317, m13_, (by rw [ha.out]; exact putSel_upk 5 hb_ rfl rfl rfl), (by (with_reducible repeat (first | apply Kd.R_alloc | apply Kd.R_drewN | apply Kd.R_drew)); exact HO297.out), fun _ => (by (with_reducible repeat (first | refine blk_drewN ?_ _ | refine blk_drew ?_ | refine blk_alloc ?_ _)); exact BK289.out), (by (with_reducible repeat (first | refine blk_drewN ?_ _ | refine blk_drew ?_ | refine blk_alloc ?_ _)); exact BK300.out), fun h0_ => absurd ((hon 3 (by kernel_rfl)).symm.trans h0_) (by decide), (by repeat (first | (with_reducible first | exact HB.out | apply below_alloc | apply pw_below_drewN | apply below_drew1 | refine below_set ?_ (IsS73.ge HI293.out) | refine below_set ?_ GE289.out | refine below_set ?_ GE300.out) | exact HB.out)), fun _ h1_ => absurd ((up_self b 9).symm.trans h1_) (by decide), fun _ _ => (by repeat (first | (with_reducible first | exact HI293.out | apply IsS73.alloc | apply IsS73.drewN | apply IsS73.drew | apply IsS73.set_1 | apply IsS73.set_2 | refine IsS73.far ?_ NB293_289.out _ | refine IsS73.far ?_ NB293_300.out _) | exact HI293.out)), fun h0_ => absurd ((hoff 10 (by kernel_rfl)).symm.trans h0_) (by decide), fun h0_ => absurd ((hoff 10 (by kernel_rfl)).symm.trans h0_) (by decide), fun h0_ => absurd ((hoff 12 (by kernel_rfl)).symm.trans h0_) (by decide), fun h0_ => absurd ((hoff 15 (by kernel_rfl)).symm.trans h0_) (by decide), fun h0_ => absurd ((hoff 13 (by kernel_rfl)).symm.trans h0_) (by decide)⟩
          refine steps_cons ?_ ?_
          · rintro b a w' ⟨v317, adz_v317, m13_, ha, Q_HO297, Q_BK289, Q_BK300, Q_HI293, Q_HB, Q_HI293_e3, Q_HI293_e9, Q_HO318, Q_HA_HO318, Q_HI293_e12, Q_BK289_e15, Q_X13_⟩ hb_ hon hoff
            refine ⟨_, rfl, fun K hK => ?_⟩
            have e21 : a.tmps[21]? = some (.int .i64 t310) := by rw [ha]; exact putSel_on (e := (3, 21, .int .i64 t310)) 1 rfl rfl (hon 3 (by kernel_rfl)) rfl
            have e27 : a.tmps[27]? = some (.int .i64 t313) := by rw [ha]; exact putSel_on (e := (9, 27, .int .i64 t313)) 5 rfl rfl (hon 9 (by kernel_rfl)) rfl
            replace ha := Aside0.mk ha
            have HO297 := Aside0.mk Q_HO297
            have BK300 := Aside0.mk Q_BK300
            have HB := Aside0.mk Q_HB
            refine Kd.R_lit_step (Kd.int .i64) _ 3 ?hg (N := 28) ?hd (xs := ([t310, t313] : List Int)) (inner := [.int .i64 t310, .int .i64 t313]) (ok := fun _ => True) (okp := fun _ => True) ?hr ?hp (fun _ hk => hk) trivial (Below.refl _ _) (Nat.le_refl _) (by simp) ?_; (case hd => rfl); (case hg => rfl); (case hr => first | (go_simp; done) | (go_simp; rfl)); (case hp => exact (Reps.one (show Kd.M (Kd.int .i64) _ _ _ t310 [.int .i64 t310] from rfl) (Reps.one (show Kd.M (Kd.int .i64) _ _ _ t313 [.int .i64 t313] from rfl) (Reps.none _ _))))
            intro v317 w30 ho31 hb hg_ hnew_
            clear hg_ hnew_
            (first | rw [← Ny316.out] at ho31 | (simp only [Int.reduceToNat] at ho31; rw [← Ny316.out] at ho31))
            have n0_ := Aside0.mk (Kd.R_below (by (with_reducible repeat (first | apply Kd.R_alloc | apply Kd.R_drewN | apply Kd.R_drew)); exact HO297.out) hb)
            have n1_ := Aside0.mk (Kd.R_lower ho31 (below_size (by repeat (first | (with_reducible first | exact HB.out | apply below_alloc | apply pw_below_drewN | apply below_drew1 | refine below_set ?_ GE289.out | refine below_set ?_ GE300.out) | exact HB.out))))
            have n4_ := Aside0.mk (blk_below (g := gb300) (o := .cells #[.int .i64 t294, .slice Ao22 t295.length co22] 25 (0, 0)) (by (with_reducible repeat (first | refine blk_drewN ?_ _ | refine blk_drew ?_ | refine blk_alloc ?_ _)); exact BK300.out) hb)
            have n5_ := Aside0.mk (below_step (by repeat (first | (with_reducible first | exact HB.out | apply below_alloc | apply pw_below_drewN | apply below_drew1 | refine below_set ?_ GE289.out | refine below_set ?_ GE300.out) | exact HB.out)) hb)
            have z_BK289 := fun (h0_ : b 15 = false) => (show w30.heap[gb289]? = some (.cells #[.int .i64 0, .slice none 0 0] 25 (0, 0)) from by first | exact (blk_below (g := gb289) (o := .cells #[.int .i64 0, .slice none 0 0] 25 (0, 0)) (by (with_reducible repeat (first | refine blk_drewN ?_ _ | refine blk_drew ?_ | refine blk_alloc ?_ _)); exact (Q_BK289 h0_)) hb))
            have z_HI293_e9 := fun (h0_ : b 9 = true) (h1_ : b 12 = false) => (show IsS73 w w30 g293 t290 t314 t315 from by first | exact (IsS73.below (by repeat (first | (with_reducible first | exact (Q_HI293_e9 h0_ h1_) | apply IsS73.alloc | apply IsS73.drewN | apply IsS73.drew | apply IsS73.set_1 | apply IsS73.set_2 | refine IsS73.far ?_ NB293_289.out _ | refine IsS73.far ?_ NB293_300.out _) | exact (Q_HI293_e9 h0_ h1_))) hb))
            have z_HI293_e12 := fun (h0_ : b 12 = true) => (show IsS73 w w30 g293 t290 t320 t321 from by first | exact (IsS73.below (by repeat (first | (with_reducible first | exact (Q_HI293_e12 h0_) | apply IsS73.alloc | apply IsS73.drewN | apply IsS73.drew | apply IsS73.set_1 | apply IsS73.set_2 | refine IsS73.far ?_ NB293_289.out _ | refine IsS73.far ?_ NB293_300.out _) | exact (Q_HI293_e12 h0_))) hb))
            have z_BK289_e15 := fun (h0_ : b 15 = true) => (show w30.heap[gb289]? = some (.cells #[.int .i64 t294, .slice Ao22 t295.length co22] 25 (0, 0)) from by first | exact (blk_below (g := gb289) (o := .cells #[.int .i64 t294, .slice Ao22 t295.length co22] 25 (0, 0)) (by (with_reducible repeat (first | refine blk_drewN ?_ _ | refine blk_drew ?_ | refine blk_alloc ?_ _)); exact (Q_BK289_e15 h0_)) hb))
            clear HO297
            clear BK300
            clear HB
            have HO297 := n0_
            have HO318 := n1_
            have BK300 := n4_
            have HB := n5_
            clear n0_ n1_ n4_ n5_
            clear hb ho31
            obtain ⟨Ao32, co32, eo32⟩ := Kd.R_slice HO318.out
            subst eo32
            obtain ⟨ado32, fo32, _⟩ := Kd.at_int (Kd.R_reads' HO318.out).2.2 0 (by decide) (by rw [Ny316.out]; simp)
            cases fo32
            refine hK.out _ _ ⟨.slice (some ado32) y316.length co32, ado32, m13_, (by rw [ha.out]; exact putSel_upk 6 hb_ rfl rfl rfl), (by (with_reducible repeat (first | apply Kd.R_alloc | apply Kd.R_drewN | apply Kd.R_drew)); exact HO297.out), z_BK289, (by (with_reducible repeat (first | refine blk_drewN ?_ _ | refine blk_drew ?_ | refine blk_alloc ?_ _)); exact BK300.out), fun h0_ => absurd ((hon 3 (by kernel_rfl)).symm.trans h0_) (by decide), (by repeat (first | (with_reducible first | exact HB.out | apply below_alloc | apply pw_below_drewN | apply below_drew1 | refine below_set ?_ GE289.out | refine below_set ?_ GE300.out) | exact HB.out)), fun _ h1_ => absurd ((hon 9 (by kernel_rfl)).symm.trans h1_) (by decide), z_HI293_e9, fun _ => (by (with_reducible repeat (first | apply Kd.R_alloc | apply Kd.R_drewN | apply Kd.R_drew)); exact HO318.out), fun _ => ⟨_, rfl⟩, z_HI293_e12, z_BK289_e15, fun h0_ => absurd ((hoff 13 (by kernel_rfl)).symm.trans h0_) (by decide)⟩
          refine steps_cons ?_ ?_
          · rintro b a w' ⟨v317, adz_v317, m13_, ha, Q_HO297, Q_BK289, Q_BK300, Q_HI293, Q_HB, Q_HI293_e3, Q_HI293_e9, Q_HO318, Q_HA_HO318, Q_HI293_e12, Q_BK289_e15, Q_X13_⟩ hb_ hon hoff
            refine ⟨_, rfl, fun K hK => ?_⟩
            have e29 : a.tmps[29]? = some (.pointer (some ⟨g293, 0, none⟩)) := by rw [ha]; exact (putSel_off rfl).trans rfl
            replace ha := Aside0.mk ha
            have HO297 := Aside0.mk Q_HO297
            have BK289 := Aside0.mk (Q_BK289 (hoff 15 (by kernel_rfl)))
            have BK300 := Aside0.mk Q_BK300
            have HB := Aside0.mk Q_HB
            have HI293 := Aside0.mk (Q_HI293_e9 (hon 9 (by kernel_rfl)) hb_)
            refine goes_ Try.func62 (by kernel_rfl) rfl #[.pointer (some ⟨g293, 0, none⟩), .int .i64 2] (by rfl) rfl rfl (by first | (simp only [List.map_toArray, List.map_cons, List.map_nil, Act.eval, Array.getD_eq_getD_getElem?, Option.getD_some, e29]; done) | (simp only [List.map_toArray, List.map_cons, List.map_nil, Act.eval, Array.getD_eq_getD_getElem?, Option.getD_some, e29]; rfl)) ?_
            with_reducible refine (spec_l01Cur_pick.calls g293 t290 t314 t315 2 t319 t320 t321 w _ ?side1 ?side2 A12.out).mono ?_
            (case side1 => repeat (first | (with_reducible first | exact HI293.out | apply IsS73.alloc | apply IsS73.drewN | apply IsS73.drew | apply IsS73.set_1 | apply IsS73.set_2 | refine IsS73.far ?_ NB293_289.out _ | refine IsS73.far ?_ NB293_300.out _) | exact HI293.out))
            (case side2 => repeat (first | (with_reducible first | exact HB.out | apply below_alloc | apply pw_below_drewN | apply below_drew1 | refine below_set ?_ (IsS73.ge HI293.out) | refine below_set ?_ GE289.out | refine below_set ?_ GE300.out) | exact HB.out))
            rintro e w30 ⟨rfl, hi, hb, hk⟩
            refine ⟨_, rfl, ?_⟩
            have n0_ := Aside0.mk (KeepBut.blk hk (g' := gb289) (o := .cells #[.int .i64 0, .slice none 0 0] 25 (0, 0)) (by (with_reducible repeat (first | refine blk_drewN ?_ _ | refine blk_drew ?_ | refine blk_alloc ?_ _)); exact BK289.out) NB289_293.out (by simp))
            have n1_ := Aside0.mk (Kd.R_mono (Kd.R_keep (IsS73.apart (show IsS73 w _ g293 t290 t314 t315 from by repeat (first | (with_reducible first | exact HI293.out | apply IsS73.alloc | apply IsS73.drewN | apply IsS73.drew | apply IsS73.set_1 | apply IsS73.set_2 | refine IsS73.far ?_ NB293_289.out _ | refine IsS73.far ?_ NB293_300.out _) | exact HI293.out)) (by (with_reducible repeat (first | apply Kd.R_alloc | apply Kd.R_drewN | apply Kd.R_drew)); exact HO297.out) (by decide)) hk (fun _ h => h.2)) (fun _ h => h.1))
            have n2_ := Aside0.mk (KeepBut.blk hk (g' := gb300) (o := .cells #[.int .i64 t294, .slice Ao22 t295.length co22] 25 (0, 0)) (by (with_reducible repeat (first | refine blk_drewN ?_ _ | refine blk_drew ?_ | refine blk_alloc ?_ _)); exact BK300.out) NB300_293.out (by simp))
            have n3_ := Aside0.mk (hb)
            have n4_ := Aside0.mk (hi)
            have z_HO318 := fun (h0_ : b 10 = true) => (show Kd.R (Kd.int .i64) 3 w30 w.heap.size (fun _ => True) v317 y316 from by first | exact (Kd.R_mono (Kd.R_keep (IsS73.apart (show IsS73 w _ g293 t290 t314 t315 from by repeat (first | (with_reducible first | exact HI293.out | apply IsS73.alloc | apply IsS73.drewN | apply IsS73.drew | apply IsS73.set_1 | apply IsS73.set_2 | refine IsS73.far ?_ NB293_289.out _ | refine IsS73.far ?_ NB293_300.out _) | exact HI293.out)) (by (with_reducible repeat (first | apply Kd.R_alloc | apply Kd.R_drewN | apply Kd.R_drew)); exact (Q_HO318 h0_)) (by decide)) hk (fun _ h => h.2)) (fun _ h => h.1)) | exact Kd.R_mono (Kd.R_mono (Kd.R_keep (IsS73.apart (show IsS73 w _ g293 t290 t314 t315 from by repeat (first | (with_reducible first | exact HI293.out | apply IsS73.alloc | apply IsS73.drewN | apply IsS73.drew | apply IsS73.set_1 | apply IsS73.set_2 | refine IsS73.far ?_ NB293_289.out _ | refine IsS73.far ?_ NB293_300.out _) | exact HI293.out)) (by (with_reducible repeat (first | apply Kd.R_alloc | apply Kd.R_drewN | apply Kd.R_drew)); exact (Q_HO318 h0_)) (by decide)) hk (fun _ h => h.2)) (fun _ h => h.1)) (fun _ h_ => by first | trivial | exact h_ | exact h_.1))
            clear BK289
            clear HO297
            clear BK300
            clear HB
            clear HI293
            have BK289 := n0_
            have HO297 := n1_
            have BK300 := n2_
            have HB := n3_
            have HI293 := n4_
            clear n0_ n1_ n2_ n3_ n4_
            (try clear hb)
            (try clear hb2)
            (try clear hk)
            (try clear hi)
            refine hK.out _ _ ⟨v317, adz_v317, m13_, (by rw [ha.out]; exact putSel_upk 7 hb_ rfl rfl rfl), (by (with_reducible repeat (first | apply Kd.R_alloc | apply Kd.R_drewN | apply Kd.R_drew)); exact HO297.out), fun _ => (by (with_reducible repeat (first | refine blk_drewN ?_ _ | refine blk_drew ?_ | refine blk_alloc ?_ _)); exact BK289.out), (by (with_reducible repeat (first | refine blk_drewN ?_ _ | refine blk_drew ?_ | refine blk_alloc ?_ _)); exact BK300.out), fun h0_ => absurd ((hon 3 (by kernel_rfl)).symm.trans h0_) (by decide), (by repeat (first | (with_reducible first | exact HB.out | apply below_alloc | apply pw_below_drewN | apply below_drew1 | refine below_set ?_ (IsS73.ge HI293.out) | refine below_set ?_ GE289.out | refine below_set ?_ GE300.out) | exact HB.out)), fun _ h1_ => absurd ((hon 9 (by kernel_rfl)).symm.trans h1_) (by decide), fun _ h1_ => absurd ((up_self b 12).symm.trans h1_) (by decide), z_HO318, Q_HA_HO318, fun _ => (by repeat (first | (with_reducible first | exact HI293.out | apply IsS73.alloc | apply IsS73.drewN | apply IsS73.drew | apply IsS73.set_1 | apply IsS73.set_2 | refine IsS73.far ?_ NB293_289.out _ | refine IsS73.far ?_ NB293_300.out _) | exact HI293.out)), fun h0_ => absurd ((hoff 15 (by kernel_rfl)).symm.trans h0_) (by decide), fun h0_ => absurd ((hoff 13 (by kernel_rfl)).symm.trans h0_) (by decide)⟩
          refine steps_cons ?_ ?_
          · rintro b a w' ⟨v317, adz_v317, m13_, ha, Q_HO297, Q_BK289, Q_BK300, Q_HI293, Q_HB, Q_HI293_e3, Q_HI293_e9, Q_HO318, Q_HA_HO318, Q_HI293_e12, Q_BK289_e15, Q_X13_⟩ hb_ hon hoff
            refine ⟨_, rfl, fun K hK => ?_⟩
            have e28 : a.tmps[28]? = some (v317) := by rw [ha]; exact putSel_on (e := (10, 28, v317)) 6 rfl rfl (hon 10 (by kernel_rfl)) rfl
            have e30 : a.tmps[30]? = some (.int .i64 t319) := by rw [ha]; exact putSel_on (e := (12, 30, .int .i64 t319)) 7 rfl rfl (hon 12 (by kernel_rfl)) rfl
            replace ha := Aside0.mk ha
            have HO297 := Aside0.mk Q_HO297
            have BK300 := Aside0.mk Q_BK300
            have HB := Aside0.mk Q_HB
            have HO318 := Aside0.mk (Q_HO318 (hon 10 (by kernel_rfl)))
            have HA_HO318 := Aside0.mk (Q_HA_HO318 (hon 10 (by kernel_rfl)))
            have HI293 := Aside0.mk (Q_HI293_e12 (hon 12 (by kernel_rfl)))
            obtain ⟨c_, hv_⟩ := HA_HO318.out
            rw [hv_] at e28
            refine value_ (w1 := w') (v := .pointer (some (adz_v317.add (t319).toNat))) (by rfl) rfl ?_ ?_
            · go_simp
              (try simp only [i64_w])
              try rfl
            refine hK.out _ _ ⟨v317, adz_v317, (.pointer (some (adz_v317.add (t319).toNat))), (by rw [ha.out]; exact putSel_upk 8 hb_ rfl rfl rfl), Q_HO297, Q_BK289, Q_BK300, fun h0_ => absurd ((hon 3 (by kernel_rfl)).symm.trans h0_) (by decide), Q_HB, fun _ h1_ => absurd ((hon 9 (by kernel_rfl)).symm.trans h1_) (by decide), fun _ h1_ => absurd ((hon 12 (by kernel_rfl)).symm.trans h1_) (by decide), Q_HO318, Q_HA_HO318, Q_HI293_e12, Q_BK289_e15, fun _ => rfl⟩
          refine steps_cons ?_ ?_
          · rintro b a w' ⟨v317, adz_v317, m13_, ha, Q_HO297, Q_BK289, Q_BK300, Q_HI293, Q_HB, Q_HI293_e3, Q_HI293_e9, Q_HO318, Q_HA_HO318, Q_HI293_e12, Q_BK289_e15, Q_X13_⟩ hb_ hon hoff
            refine ⟨_, rfl, fun K hK => ?_⟩
            have e31 : a.tmps[31]? = some (m13_) := by rw [ha]; exact putSel_on (e := (13, 31, m13_)) 8 rfl rfl (hon 13 (by kernel_rfl)) rfl
            rw [Q_X13_ (hon 13 (by kernel_rfl))] at e31
            replace ha := Aside0.mk ha
            have HO297 := Aside0.mk Q_HO297
            have BK300 := Aside0.mk Q_BK300
            have HB := Aside0.mk Q_HB
            have HO318 := Aside0.mk (Q_HO318 (hon 10 (by kernel_rfl)))
            have HA_HO318 := Aside0.mk (Q_HA_HO318 (hon 10 (by kernel_rfl)))
            have HI293 := Aside0.mk (Q_HI293_e12 (hon 12 (by kernel_rfl)))
            obtain ⟨c_, hv_⟩ := HA_HO318.out
            have hF_ := HO318.out
            rw [hv_] at hF_
            obtain ⟨ad_, ea_, hx_⟩ := Kd.at_int (Kd.R_reads' hF_).2.2 t319 (of_eq_true pi322) (of_eq_true qi322)
            cases ea_
            refine value_ (w1 := w') (v := .int .i64 (rd y316 t319)) (by rfl) rfl ?_ ?_
            · go_simp
              (try simp only [i64_w])
              try rfl
            refine hK.out _ _ ⟨v317, adz_v317, m13_, (by rw [ha.out]; exact putSel_upk 9 hb_ rfl rfl rfl), Q_HO297, Q_BK289, Q_BK300, fun h0_ => absurd ((hon 3 (by kernel_rfl)).symm.trans h0_) (by decide), Q_HB, fun _ h1_ => absurd ((hon 9 (by kernel_rfl)).symm.trans h1_) (by decide), fun _ h1_ => absurd ((hon 12 (by kernel_rfl)).symm.trans h1_) (by decide), Q_HO318, Q_HA_HO318, Q_HI293_e12, Q_BK289_e15, Q_X13_⟩
          refine steps_cons ?_ ?_
          · rintro b a w' ⟨v317, adz_v317, m13_, ha, Q_HO297, Q_BK289, Q_BK300, Q_HI293, Q_HB, Q_HI293_e3, Q_HI293_e9, Q_HO318, Q_HA_HO318, Q_HI293_e12, Q_BK289_e15, Q_X13_⟩ hb_ hon hoff
            refine ⟨_, rfl, fun K hK => ?_⟩
            have e2 : a.tmps[2]? = some (.pointer (some ⟨gb289, 0, none⟩)) := by rw [ha]; exact (putSel_off rfl).trans rfl
            have e18 : a.tmps[18]? = some (.agg #[.int .i64 t294, .slice Ao22 t295.length co22]) := by rw [ha]; exact putSel_on (e := (0, 18, .agg #[.int .i64 t294, .slice Ao22 t295.length co22])) 0 rfl rfl (hon 0 (by kernel_rfl)) rfl
            replace ha := Aside0.mk ha
            have HO297 := Aside0.mk Q_HO297
            have BK289 := Aside0.mk (Q_BK289 hb_)
            have BK300 := Aside0.mk Q_BK300
            have HB := Aside0.mk Q_HB
            have HI293 := Aside0.mk (Q_HI293_e12 (hon 12 (by kernel_rfl)))
            have hs31 : w'.cell? ⟨gb289, 0, none⟩ = some (.int .i64 0) := (blk_cell BK289.out 0).trans rfl
            have hfs31 := blk_frozen BK289.out 0
            have hns31_1 := NB300_289.out
            have hms31_1 := NB289_300.out
            have hs32 : w'.cell? ⟨gb289, 1, none⟩ = some (.slice none 0 0) := (blk_cell BK289.out 1).trans rfl
            have hfs32 := blk_frozen BK289.out 1
            have hns32_1 := NB300_289.out
            have hms32_1 := NB289_300.out
            refine skip_ (w1 := ?_) (by rfl) rfl ?_ ?_
            rotate_left
            · go_simp
              rfl
            refine hK.out _ _ ⟨v317, adz_v317, m13_, (by rw [ha.out]; exact putSel_none (v := undef) rfl), (by (with_reducible repeat (first | apply Kd.R_alloc | apply Kd.R_drewN | apply Kd.R_drew)); exact Kd.R_mono (Kd.R_far (p := ⟨gb289, 1, none⟩) (Kd.R_far (p := ⟨gb289, 0, none⟩) (Kd.R_types HO297.out BK289.out (by decide)) (fun _ hk => hk.2) (.int .i64 t294)) (fun _ hk => hk.2) (.slice Ao22 t295.length co22)) (fun _ hk => trivial)), fun h0_ => absurd ((up_self b 15).symm.trans h0_) (by decide), (by (with_reducible repeat (first | refine blk_drewN ?_ _ | refine blk_drew ?_ | refine blk_alloc ?_ _)); refine blk_far ?_ NB300_289.out _; (with_reducible repeat (first | refine blk_drewN ?_ _ | refine blk_drew ?_ | refine blk_alloc ?_ _)); refine blk_far ?_ NB300_289.out _; (with_reducible repeat (first | refine blk_drewN ?_ _ | refine blk_drew ?_ | refine blk_alloc ?_ _)); exact BK300.out), fun h0_ => absurd ((hon 3 (by kernel_rfl)).symm.trans h0_) (by decide), (by repeat (first | (with_reducible first | exact HB.out | apply below_alloc | apply pw_below_drewN | apply below_drew1 | refine below_set ?_ (IsS73.ge HI293.out) | refine below_set ?_ GE289.out | refine below_set ?_ GE300.out) | exact HB.out)), fun _ h1_ => absurd ((hon 9 (by kernel_rfl)).symm.trans h1_) (by decide), fun _ h1_ => absurd ((hon 12 (by kernel_rfl)).symm.trans h1_) (by decide), fun h0_ => (by (with_reducible repeat (first | apply Kd.R_alloc | apply Kd.R_drewN | apply Kd.R_drew)); exact Kd.R_mono (Kd.R_far (p := ⟨gb289, 1, none⟩) (Kd.R_far (p := ⟨gb289, 0, none⟩) (Kd.R_types (Q_HO318 h0_) BK289.out (by decide)) (fun _ hk => hk.2) (.int .i64 t294)) (fun _ hk => hk.2) (.slice Ao22 t295.length co22)) (fun _ hk => trivial)), Q_HA_HO318, fun _ => (by repeat (first | (with_reducible first | exact HI293.out | apply IsS73.alloc | apply IsS73.drewN | apply IsS73.drew | apply IsS73.set_1 | apply IsS73.set_2 | refine IsS73.far ?_ NB293_289.out _ | refine IsS73.far ?_ NB293_300.out _) | exact HI293.out)), fun _ => (by (with_reducible repeat (first | refine blk_drewN ?_ _ | refine blk_drew ?_ | refine blk_alloc ?_ _)); refine blk_put (cs := #[.int .i64 t294, .slice none 0 0]) ?_ 1 _ rfl; (with_reducible repeat (first | refine blk_drewN ?_ _ | refine blk_drew ?_ | refine blk_alloc ?_ _)); refine blk_put (cs := #[.int .i64 0, .slice none 0 0]) ?_ 0 _ rfl; (with_reducible repeat (first | refine blk_drewN ?_ _ | refine blk_drew ?_ | refine blk_alloc ?_ _)); exact BK289.out), Q_X13_⟩
          refine steps_cons ?_ ?_
          · rintro b a w' ⟨v317, adz_v317, m13_, ha, Q_HO297, Q_BK289, Q_BK300, Q_HI293, Q_HB, Q_HI293_e3, Q_HI293_e9, Q_HO318, Q_HA_HO318, Q_HI293_e12, Q_BK289_e15, Q_X13_⟩ hb_ hon hoff
            refine ⟨_, rfl, fun K hK => ?_⟩
            have e19 : a.tmps[19]? = some (.int .i64 t307) := by rw [ha]; exact (putSel_off rfl).trans rfl
            replace ha := Aside0.mk ha
            have HO297 := Aside0.mk Q_HO297
            have BK300 := Aside0.mk Q_BK300
            have HB := Aside0.mk Q_HB
            have HI293 := Aside0.mk (Q_HI293_e12 (hon 12 (by kernel_rfl)))
            have BK289 := Aside0.mk (Q_BK289_e15 (hon 15 (by kernel_rfl)))
            refine value_ (w1 := w') (v := .int .i64 t307) (by rfl) rfl ?_ ?_
            · go_simp
              (try simp only [i64_w])
              try rfl
            refine hK.out _ _ ⟨v317, adz_v317, m13_, (by rw [ha.out]; exact putSel_upk 10 hb_ rfl rfl rfl), Q_HO297, fun h0_ => absurd ((hon 15 (by kernel_rfl)).symm.trans h0_) (by decide), Q_BK300, fun h0_ => absurd ((hon 3 (by kernel_rfl)).symm.trans h0_) (by decide), Q_HB, fun _ h1_ => absurd ((hon 9 (by kernel_rfl)).symm.trans h1_) (by decide), fun _ h1_ => absurd ((hon 12 (by kernel_rfl)).symm.trans h1_) (by decide), Q_HO318, Q_HA_HO318, Q_HI293_e12, Q_BK289_e15, Q_X13_⟩
          refine steps_cons ?_ ?_
          · rintro b a w' ⟨v317, adz_v317, m13_, ha, Q_HO297, Q_BK289, Q_BK300, Q_HI293, Q_HB, Q_HI293_e3, Q_HI293_e9, Q_HO318, Q_HA_HO318, Q_HI293_e12, Q_BK289_e15, Q_X13_⟩ hb_ hon hoff
            refine ⟨_, rfl, fun K hK => ?_⟩
            have e32 : a.tmps[32]? = some (.int .i64 (rd y316 t319)) := by rw [ha]; exact putSel_on (e := (14, 32, .int .i64 (rd y316 t319))) 9 rfl rfl (hon 14 (by kernel_rfl)) rfl
            replace ha := Aside0.mk ha
            have HO297 := Aside0.mk Q_HO297
            have BK300 := Aside0.mk Q_BK300
            have HB := Aside0.mk Q_HB
            have HO318 := Aside0.mk (Q_HO318 (hon 10 (by kernel_rfl)))
            have HA_HO318 := Aside0.mk (Q_HA_HO318 (hon 10 (by kernel_rfl)))
            have HI293 := Aside0.mk (Q_HI293_e12 (hon 12 (by kernel_rfl)))
            have BK289 := Aside0.mk (Q_BK289_e15 (hon 15 (by kernel_rfl)))
            refine value_ (w1 := w') (v := .int .i64 (rd y316 t319)) (by rfl) rfl ?_ ?_
            · go_simp
              (try simp only [i64_w])
              try rfl
            refine hK.out _ _ ⟨v317, adz_v317, m13_, (by rw [ha.out]; exact putSel_upk 11 hb_ rfl rfl rfl), Q_HO297, fun h0_ => absurd ((hon 15 (by kernel_rfl)).symm.trans h0_) (by decide), Q_BK300, fun h0_ => absurd ((hon 3 (by kernel_rfl)).symm.trans h0_) (by decide), Q_HB, fun _ h1_ => absurd ((hon 9 (by kernel_rfl)).symm.trans h1_) (by decide), fun _ h1_ => absurd ((hon 12 (by kernel_rfl)).symm.trans h1_) (by decide), Q_HO318, Q_HA_HO318, Q_HI293_e12, Q_BK289_e15, Q_X13_⟩
          exact steps_nil
        rintro b a w35 hall ⟨v317, adz_v317, m13_, ha, Q_HO297, Q_BK289, Q_BK300, Q_HI293, Q_HB, Q_HI293_e3, Q_HI293_e9, Q_HO318, Q_HA_HO318, Q_HI293_e12, Q_BK289_e15, Q_X13_⟩
        clear BK289 BK300 HB HI293 HO297
        have hb0_ := hall 0 (by kernel_rfl)
        have hb3_ := hall 3 (by kernel_rfl)
        have hb6_ := hall 6 (by kernel_rfl)
        have hb7_ := hall 7 (by kernel_rfl)
        have hb8_ := hall 8 (by kernel_rfl)
        have hb9_ := hall 9 (by kernel_rfl)
        have hb10_ := hall 10 (by kernel_rfl)
        have hb12_ := hall 12 (by kernel_rfl)
        have hb13_ := hall 13 (by kernel_rfl)
        have hb14_ := hall 14 (by kernel_rfl)
        have hb15_ := hall 15 (by kernel_rfl)
        have hb16_ := hall 16 (by kernel_rfl)
        have hb17_ := hall 17 (by kernel_rfl)
        subst ha
        obtain rfl := Q_X13_ hb13_
        simp only [putSel, hb0_, hb3_, hb6_, hb7_, hb8_, hb9_, hb10_, hb12_, hb13_, hb14_, hb15_, hb16_, hb17_, if_true, Act.put, List.setIfInBounds_toArray, List.set_cons_zero, List.set_cons_succ]
        have HO297 := Aside0.mk Q_HO297
        clear Q_HO297
        clear Q_BK289
        have BK300 := Aside0.mk Q_BK300
        clear Q_BK300
        clear Q_HI293
        have HB := Aside0.mk Q_HB
        clear Q_HB
        clear Q_HI293_e3
        clear Q_HI293_e9
        have HO318 := Aside0.mk (Q_HO318 hb10_)
        clear Q_HO318
        have HA_HO318 := Aside0.mk (Q_HA_HO318 hb10_)
        clear Q_HA_HO318
        have HI293 := Aside0.mk (Q_HI293_e12 hb12_)
        clear Q_HI293_e12
        have BK289 := Aside0.mk (Q_BK289_e15 hb15_)
        clear Q_BK289_e15
        clear hall hb0_ hb3_ hb6_ hb7_ hb8_ hb9_ hb10_ hb12_ hb13_ hb14_ hb15_ hb16_ hb17_
        obtain ⟨co36, eo36⟩ := HA_HO318.out
        clear HA_HO318
        subst eo36
        try go_wp2
        refine bodyPost_ret (results_ctt rfl _ _ gb289 25 #[.int .i64 t294, .slice Ao22 t295.length co22] (0, 0) _ rfl (by (with_reducible repeat (first | refine blk_drewN ?_ _ | refine blk_drew ?_ | refine blk_alloc ?_ _)); exact BK289.out) Try.underlying25 rfl (by kernel_rfl)) rfl ?_
        exact ⟨_, by first | rfl | (simp [errW_none, errW_some] <;> rfl) | (simp only [← hji9, ← hji10]; first | rfl | (simp [errW_none, errW_some] <;> rfl)) | (simp [*, errW_none, errW_some] <;> rfl), by (with_reducible repeat (first | apply Kd.R_alloc | apply Kd.R_drewN | apply Kd.R_drew)); exact HO297.out, by repeat (first | (with_reducible first | exact HB.out | apply below_alloc | apply pw_below_drewN | apply below_drew1 | refine below_set ?_ (IsS73.ge HI293.out) | refine below_set ?_ GE289.out | refine below_set ?_ GE300.out) | exact HB.out)⟩
      · rw [if_neg c14] at H
        exact absurd H (by simp)
    · rw [if_neg c13] at H
      exact absurd H (by simp)
  · replace c6 := Bool.eq_false_iff.mpr c6
    subst c6
    have H1 : ((spec_l01Cur_pick.f t290 t305 t306 20).bind fun bt323 => ((spec_l01Cur_place.f t290 bt323.2.1 bt323.2.2 (mn 300 (mx 0 t294))).bind fun bt326 => ((some (([bt323.1, bt326.1] : List Int) : List Int)).bind fun y329 => ((spec_l01Cur_pick.f t290 bt326.2.1 bt326.2.2 2).bind fun bt332 => (if 0 ≤ bt332.1 then (if bt332.1 < (y329.length : Int) then (some (t294, t295, t301, rd y329 bt332.1)) else (none)) else (none)))))) = some (r1, r2, r3, r4) := by rw [if_neg (show ¬ (false = true) by decide)] at H; exact H
    clear H
    have H := H1
    clear H1
    replace H := Option.bind_eq_some_iff.mp H
    obtain ⟨⟨t323, t324, t325⟩, A370, H⟩ := H
    replace H : ((spec_l01Cur_place.f t290 t324 t325 (mn 300 (mx 0 t294))).bind fun bt326 => ((some (([t323, bt326.1] : List Int) : List Int)).bind fun y329 => ((spec_l01Cur_pick.f t290 bt326.2.1 bt326.2.2 2).bind fun bt332 => (if 0 ≤ bt332.1 then (if bt332.1 < (y329.length : Int) then (some (t294, t295, t301, rd y329 bt332.1)) else (none)) else (none))))) = some (r1, r2, r3, r4) := H
    have A37 := Aside0.mk A370
    clear A370
    obtain ⟨ji38, hji38⟩ : ∃ j_ : Int, (mx 0 t294) = j_ := ⟨_, rfl⟩
    replace H : ((spec_l01Cur_place.f t290 t324 t325 (mn 300 (ji38))).bind fun bt326 => ((some (([t323, bt326.1] : List Int) : List Int)).bind fun y329 => ((spec_l01Cur_pick.f t290 bt326.2.1 bt326.2.2 2).bind fun bt332 => (if 0 ≤ bt332.1 then (if bt332.1 < (y329.length : Int) then (some (t294, t295, t301, rd y329 bt332.1)) else (none)) else (none))))) = some (r1, r2, r3, r4) := by first | (rw [hji38] at H; exact H) | (simp only [hji38] at H ⊢; exact H)
    (try rw [hji38] at A2)
    (try rw [hji38] at A3)
    (try rw [hji38] at A4)
    (try rw [hji38] at A5)
    (try rw [hji38] at A37)
    (try (have hji38l : 0 ≤ ji38 := by (rw [← hji38]; unfold mx; (repeat' split) <;> omega)))
    (try (have hji38m : 0 ≤ ji38 := by omega))
    have hji38_ : (if 0 < t294 then t294 else 0) = ji38 := hji38
    obtain ⟨ji39, hji39⟩ : ∃ j_ : Int, (mn 300 (ji38)) = j_ := ⟨_, rfl⟩
    replace H : ((spec_l01Cur_place.f t290 t324 t325 (ji39)).bind fun bt326 => ((some (([t323, bt326.1] : List Int) : List Int)).bind fun y329 => ((spec_l01Cur_pick.f t290 bt326.2.1 bt326.2.2 2).bind fun bt332 => (if 0 ≤ bt332.1 then (if bt332.1 < (y329.length : Int) then (some (t294, t295, t301, rd y329 bt332.1)) else (none)) else (none))))) = some (r1, r2, r3, r4) := by first | (rw [hji39] at H; exact H) | (simp only [hji39] at H ⊢; exact H)
    (try rw [hji39] at A2)
    (try rw [hji39] at A3)
    (try rw [hji39] at A4)
    (try rw [hji39] at A5)
    (try rw [hji39] at A37)
    have hji39_ : (if (ji38) < 300 then (ji38) else 300) = ji39 := hji39
    replace H := Option.bind_eq_some_iff.mp H
    obtain ⟨⟨t326, t327, t328⟩, A400, H⟩ := H
    replace H : ((some (([t323, t326] : List Int) : List Int)).bind fun y329 => ((spec_l01Cur_pick.f t290 t327 t328 2).bind fun bt332 => (if 0 ≤ bt332.1 then (if bt332.1 < (y329.length : Int) then (some (t294, t295, t301, rd y329 bt332.1)) else (none)) else (none)))) = some (r1, r2, r3, r4) := H
    have A40 := Aside0.mk A400
    clear A400
    obtain ⟨y329, hy329⟩ : ∃ y_ : List Int, y_ = (([t323, t326] : List Int)) := ⟨_, rfl⟩
    replace H : ((spec_l01Cur_pick.f t290 t327 t328 2).bind fun bt332 => (if 0 ≤ bt332.1 then (if bt332.1 < (y329.length : Int) then (some (t294, t295, t301, rd y329 bt332.1)) else (none)) else (none))) = some (r1, r2, r3, r4) := by first | (rw [hy329]; with_reducible exact H) | (have H2_ := (Option.bind_some _ _).symm.trans H; rw [hy329]; with_reducible exact H2_) | (have H2_ := (Option.bind_some _ _).symm.trans H; with_reducible exact H2_) | with_reducible exact H | (rw [hy329]; exact H) | exact H
    have Ny329 := Aside0.mk hy329
    clear hy329
    replace H := Option.bind_eq_some_iff.mp H
    obtain ⟨⟨t332, t333, t334⟩, A410, H⟩ := H
    replace H : (if 0 ≤ t332 then (if t332 < (y329.length : Int) then (some (t294, t295, t301, rd y329 t332)) else (none)) else (none)) = some (r1, r2, r3, r4) := H
    have A41 := Aside0.mk A410
    clear A410
    by_cases c42 : 0 ≤ t332
    · rw [if_pos c42] at H
      have c42b0 : decide (0 ≤ t332) = true := decide_eq_true c42
      clear c42
      by_cases c43 : t332 < (y329.length : Int)
      · rw [if_pos c43] at H
        have c43b0 : decide (t332 < (y329.length : Int)) = true := decide_eq_true c43
        clear c43
        simp only [Option.some.injEq, Prod.mk.injEq] at H
        obtain ⟨rfl, rfl, rfl, rfl⟩ := H
        go_enter Try.func39, Try.ntmps39
        try go_wp2_with (first | ((with_reducible refine gate_dst (N := 2) rfl ?_); refine box_event ?hg (N := 2) ?hd (cs := #[.int .i64 0, .slice none 0 0]) (t := 25) ?hr ?_; (case hd => rfl); (case hg => rfl); (case hr => first | (go_simp; done) | (go_simp; rfl)); intro gb289 hg w44 hbox hb; have n0_ := Aside0.mk (below_step (by repeat (first | (with_reducible first | exact HB.out | apply below_alloc | apply pw_below_drewN | apply below_drew1) | exact HB.out)) hb); have n1_ := Aside0.mk (hbox); have n2_ := Aside0.mk ((by rw [hg]; exact (below_size (by repeat (first | (with_reducible first | exact HB.out | apply below_alloc | apply pw_below_drewN | apply below_drew1) | exact HB.out))) : w.heap.size ≤ gb289)); have n3_ := Aside0.mk ((by rw [hg]; exact (below_size (by repeat (first | (with_reducible first | exact HB.out | apply below_alloc | apply pw_below_drewN | apply below_drew1) | exact HB.out))) : w.heap.size ≤ gb289)); clear HB; have HB := n0_; have BK289 := n1_; have GW289 := n2_; have GE289 := n3_; clear n0_ n1_ n2_ n3_; clear hb hbox hg) | ((with_reducible refine gate_callee (f := 60) rfl ?_); refine goesL_ (some 9) rfl rfl Try.func60 (by kernel_rfl) rfl #[.slice A0 l0.length c0] rfl (by (try simp only [List.map_toArray, List.map_cons, List.map_nil]); first | done | rfl | (simp only [List.length_drop, List.length_take]; rfl)) ?_; (with_reducible refine (spec_l01Open.calls _ _ l0 t290 t291 t292 w _ ?side1 ?side2 ?side3 A2.out).mono ?_); (case side1 => repeat (first | (with_reducible first | exact HB.out | apply below_alloc | apply pw_below_drewN | apply below_drew1 | refine below_set ?_ GE289.out) | exact HB.out)); (case side2 => exact HR0.out); (case side3 => exact HC0.out); rintro e w45 ⟨g293, rfl, hi, hb, hb2⟩; refine ⟨_, rfl, ?_⟩; have n0_ := Aside0.mk (blk_below (g := gb289) (o := .cells #[.int .i64 0, .slice none 0 0] 25 (0, 0)) (by (with_reducible repeat (first | refine blk_drewN ?_ _ | refine blk_drew ?_ | refine blk_alloc ?_ _)); exact BK289.out) hb2); have n1_ := Aside0.mk (hb); have n2_ := Aside0.mk (hi); have n3_ := Aside0.mk (IsS73.ne_blk hi (blk_below (g := gb289) (o := .cells #[.int .i64 0, .slice none 0 0] 25 (0, 0)) (by (with_reducible repeat (first | refine blk_drewN ?_ _ | refine blk_drew ?_ | refine blk_alloc ?_ _)); exact BK289.out) hb2) (by decide)); have n4_ := Aside0.mk (Ne.symm (IsS73.ne_blk hi (blk_below (g := gb289) (o := .cells #[.int .i64 0, .slice none 0 0] 25 (0, 0)) (by (with_reducible repeat (first | refine blk_drewN ?_ _ | refine blk_drew ?_ | refine blk_alloc ?_ _)); exact BK289.out) hb2) (by decide))); clear BK289; clear HB; have BK289 := n0_; have HB := n1_; have HI293 := n2_; have NB293_289 := n3_; have NB289_293 := n4_; clear n0_ n1_ n2_ n3_ n4_; (try clear hb); (try clear hb2); (try clear hk); (try clear hi)) | ((with_reducible refine gate_callee (f := 61) rfl ?_); refine goesL_ (some 11) rfl rfl Try.func61 (by kernel_rfl) rfl #[.pointer (some ⟨g293, 0, none⟩)] rfl (by (try simp only [List.map_toArray, List.map_cons, List.map_nil]); first | done | rfl | (simp only [List.length_drop, List.length_take]; rfl)) ?_; (with_reducible refine (spec_l01Cur_badBits.calls k g293 t290 t291 t292 t294 t295 t298 t299 w _ ?side1 ?side2 A3.out).mono ?_); (case side1 => repeat (first | (with_reducible first | exact HI293.out | apply IsS73.alloc | apply IsS73.drewN | apply IsS73.drew | apply IsS73.set_1 | apply IsS73.set_2 | refine IsS73.far ?_ NB293_289.out _) | exact HI293.out)); (case side2 => repeat (first | (with_reducible first | exact HB.out | apply below_alloc | apply pw_below_drewN | apply below_drew1 | refine below_set ?_ (IsS73.ge HI293.out) | refine below_set ?_ GE289.out) | exact HB.out)); rintro e w46 ⟨v296, rfl, ho0, hi, hb, hk⟩; refine ⟨_, rfl, ?_⟩; have n0_ := Aside0.mk (KeepBut.blk hk (g' := gb289) (o := .cells #[.int .i64 0, .slice none 0 0] 25 (0, 0)) (by (with_reducible repeat (first | refine blk_drewN ?_ _ | refine blk_drew ?_ | refine blk_alloc ?_ _)); exact BK289.out) NB289_293.out (by simp)); have n1_ := Aside0.mk (Kd.R_lower ho0 (below_size (by repeat (first | (with_reducible first | exact HB.out | apply below_alloc | apply pw_below_drewN | apply below_drew1 | refine below_set ?_ (IsS73.ge HI293.out) | refine below_set ?_ GE289.out) | exact HB.out)))); have n2_ := Aside0.mk (hb); have n3_ := Aside0.mk (hi); clear BK289; clear HB; clear HI293; have BK289 := n0_; have HO297 := n1_; have HB := n2_; have HI293 := n3_; clear n0_ n1_ n2_ n3_; (try clear hb); (try clear hb2); (try clear hk); (try clear hi); (try clear ho0)) | ((with_reducible refine gate_dst (N := 6) rfl ?_); refine box_event ?hg (N := 6) ?hd (cs := #[.int .i64 0, .slice none 0 0]) (t := 25) ?hr ?_; (case hd => rfl); (case hg => rfl); (case hr => first | (go_simp; done) | (go_simp; rfl)); intro gb300 hg w47 hbox hb; have n0_ := Aside0.mk (Kd.R_below (by (with_reducible repeat (first | apply Kd.R_alloc | apply Kd.R_drewN | apply Kd.R_drew)); exact HO297.out) hb); have n1_ := Aside0.mk (blk_below (g := gb289) (o := .cells #[.int .i64 0, .slice none 0 0] 25 (0, 0)) (by (with_reducible repeat (first | refine blk_drewN ?_ _ | refine blk_drew ?_ | refine blk_alloc ?_ _)); exact BK289.out) hb); have n2_ := Aside0.mk (IsS73.below (by repeat (first | (with_reducible first | exact HI293.out | apply IsS73.alloc | apply IsS73.drewN | apply IsS73.drew | apply IsS73.set_1 | apply IsS73.set_2 | refine IsS73.far ?_ NB293_289.out _) | exact HI293.out)) hb); have n3_ := Aside0.mk (below_step (by repeat (first | (with_reducible first | exact HB.out | apply below_alloc | apply pw_below_drewN | apply below_drew1 | refine below_set ?_ (IsS73.ge HI293.out) | refine below_set ?_ GE289.out) | exact HB.out)) hb); have n4_ := Aside0.mk (hbox); have n5_ := Aside0.mk ((by rw [hg]; exact (below_size (by repeat (first | (with_reducible first | exact HB.out | apply below_alloc | apply pw_below_drewN | apply below_drew1 | refine below_set ?_ (IsS73.ge HI293.out) | refine below_set ?_ GE289.out) | exact HB.out))) : w.heap.size ≤ gb300)); have n6_ := Aside0.mk ((by rw [hg]; exact (below_size (by repeat (first | (with_reducible first | exact HB.out | apply below_alloc | apply pw_below_drewN | apply below_drew1 | refine below_set ?_ (IsS73.ge HI293.out) | refine below_set ?_ GE289.out) | exact HB.out))) : w.heap.size ≤ gb300)); have n7_ := Aside0.mk ((by rw [hg]; exact Nat.ne_of_lt (blk_lt (g := gb289) (o := .cells #[.int .i64 0, .slice none 0 0] 25 (0, 0)) (by (with_reducible repeat (first | refine blk_drewN ?_ _ | refine blk_drew ?_ | refine blk_alloc ?_ _)); exact BK289.out)) : gb289 ≠ gb300)); have n8_ := Aside0.mk ((by rw [hg]; exact Nat.ne_of_gt (blk_lt (g := gb289) (o := .cells #[.int .i64 0, .slice none 0 0] 25 (0, 0)) (by (with_reducible repeat (first | refine blk_drewN ?_ _ | refine blk_drew ?_ | refine blk_alloc ?_ _)); exact BK289.out)) : gb300 ≠ gb289)); have n9_ := Aside0.mk ((by rw [hg]; exact Nat.ne_of_lt (IsS73.lt (show IsS73 w _ g293 t290 t298 t299 from by repeat (first | (with_reducible first | exact HI293.out | apply IsS73.alloc | apply IsS73.drewN | apply IsS73.drew | apply IsS73.set_1 | apply IsS73.set_2 | refine IsS73.far ?_ NB293_289.out _) | exact HI293.out))) : g293 ≠ gb300)); have n10_ := Aside0.mk ((by rw [hg]; exact Nat.ne_of_gt (IsS73.lt (show IsS73 w _ g293 t290 t298 t299 from by repeat (first | (with_reducible first | exact HI293.out | apply IsS73.alloc | apply IsS73.drewN | apply IsS73.drew | apply IsS73.set_1 | apply IsS73.set_2 | refine IsS73.far ?_ NB293_289.out _) | exact HI293.out))) : gb300 ≠ g293)); clear HO297; clear BK289; clear HI293; clear HB; have HO297 := n0_; have BK289 := n1_; have HI293 := n2_; have HB := n3_; have BK300 := n4_; have GW300 := n5_; have GE300 := n6_; have NB289_300 := n7_; have NB300_289 := n8_; have NB293_300 := n9_; have NB300_293 := n10_; clear n0_ n1_ n2_ n3_ n4_ n5_ n6_ n7_ n8_ n9_ n10_; clear hb hbox hg; have hnb48 := NB300_289.out; have hnc48 := NB289_300.out; have hnb49 := NB300_293.out; have hnc49 := NB293_300.out; have hcz50_0 : w47.cell? ⟨gb300, 0, none⟩ = some (.int .i64 0) := (blk_cell BK300.out 0).trans rfl; have hcz50_1 : w47.cell? ⟨gb300, 1, none⟩ = some (.slice none 0 0) := (blk_cell BK300.out 1).trans rfl; have hfz50_0 := blk_frozen BK300.out 0; have hfz50_1 := blk_frozen BK300.out 1; obtain ⟨Ao51, co51, eo51⟩ := Kd.R_slice HO297.out; subst eo51) | ((with_reducible refine gate_callee (f := 62) rfl ?_); refine goesL_ (some 13) rfl rfl Try.func62 (by kernel_rfl) rfl #[.pointer (some ⟨g293, 0, none⟩), .int .i64 2] rfl (by (try simp only [List.map_toArray, List.map_cons, List.map_nil]); first | done | rfl | (simp only [List.length_drop, List.length_take]; rfl)) ?_; (with_reducible refine (spec_l01Cur_pick.calls g293 t290 t298 t299 2 t301 t302 t303 w _ ?side1 ?side2 A4.out).mono ?_); (case side1 => repeat (first | (with_reducible first | exact HI293.out | apply IsS73.alloc | apply IsS73.drewN | apply IsS73.drew | apply IsS73.set_1 | apply IsS73.set_2 | refine IsS73.far ?_ NB293_289.out _ | refine IsS73.far ?_ NB293_300.out _) | exact HI293.out)); (case side2 => repeat (first | (with_reducible first | exact HB.out | apply below_alloc | apply pw_below_drewN | apply below_drew1 | refine below_set ?_ (IsS73.ge HI293.out) | refine below_set ?_ GE289.out | refine below_set ?_ GE300.out) | exact HB.out)); rintro e w52 ⟨rfl, hi, hb, hk⟩; refine ⟨_, rfl, ?_⟩; have n0_ := Aside0.mk (KeepBut.blk hk (g' := gb289) (o := .cells #[.int .i64 0, .slice none 0 0] 25 (0, 0)) (by (with_reducible repeat (first | refine blk_drewN ?_ _ | refine blk_drew ?_ | refine blk_alloc ?_ _)); refine blk_far ?_ NB289_300.out _; (with_reducible repeat (first | refine blk_drewN ?_ _ | refine blk_drew ?_ | refine blk_alloc ?_ _)); refine blk_far ?_ NB289_300.out _; (with_reducible repeat (first | refine blk_drewN ?_ _ | refine blk_drew ?_ | refine blk_alloc ?_ _)); exact BK289.out) NB289_293.out (by simp)); have n1_ := Aside0.mk (Kd.R_mono (Kd.R_keep (IsS73.apart (show IsS73 w _ g293 t290 t298 t299 from by repeat (first | (with_reducible first | exact HI293.out | apply IsS73.alloc | apply IsS73.drewN | apply IsS73.drew | apply IsS73.set_1 | apply IsS73.set_2 | refine IsS73.far ?_ NB293_289.out _ | refine IsS73.far ?_ NB293_300.out _) | exact HI293.out)) (by (with_reducible repeat (first | apply Kd.R_alloc | apply Kd.R_drewN | apply Kd.R_drew)); exact (Kd.R_mono (Kd.R_far (p := ⟨gb300, 1, none⟩) (Kd.R_far (p := ⟨gb300, 0, none⟩) (Kd.R_types HO297.out BK300.out (by decide)) (fun _ hk => hk.2) (.int .i64 t294)) (fun _ hk => hk.2) (.slice Ao51 t295.length co51)) (fun _ h_ => h_.1))) (by decide)) hk (fun _ h => h.2)) (fun _ h => h.1)); have n2_ := Aside0.mk (KeepBut.blk hk (g' := gb300) (o := .cells #[.int .i64 t294, .slice Ao51 t295.length co51] 25 (0, 0)) (by (with_reducible repeat (first | refine blk_drewN ?_ _ | refine blk_drew ?_ | refine blk_alloc ?_ _)); refine blk_put (cs := #[.int .i64 t294, .slice none 0 0]) ?_ 1 _ rfl; (with_reducible repeat (first | refine blk_drewN ?_ _ | refine blk_drew ?_ | refine blk_alloc ?_ _)); refine blk_put (cs := #[.int .i64 0, .slice none 0 0]) ?_ 0 _ rfl; (with_reducible repeat (first | refine blk_drewN ?_ _ | refine blk_drew ?_ | refine blk_alloc ?_ _)); exact BK300.out) NB300_293.out (by simp)); have n3_ := Aside0.mk (hb); have n4_ := Aside0.mk (hi); clear BK289; clear HO297; clear BK300; clear HB; clear HI293; have BK289 := n0_; have HO297 := n1_; have BK300 := n2_; have HB := n3_; have HI293 := n4_; clear n0_ n1_ n2_ n3_ n4_; (try clear hb); (try clear hb2); (try clear hk); (try clear hi)) | ((with_reducible refine gate_callee (f := 63) rfl ?_); refine goesL_ (some 15) rfl rfl Try.func63 (by kernel_rfl) rfl #[.pointer (some ⟨g293, 0, none⟩), .int .i64 12] rfl (by (try simp only [List.map_toArray, List.map_cons, List.map_nil]); first | done | rfl | (simp only [List.length_drop, List.length_take]; rfl)) ?_; (with_reducible refine (spec_l01Cur_once.calls g293 t290 t302 t303 12 false t305 t306 w _ ?side1 ?side2 A5.out).mono ?_); (case side1 => repeat (first | (with_reducible first | exact HI293.out | apply IsS73.alloc | apply IsS73.drewN | apply IsS73.drew | apply IsS73.set_1 | apply IsS73.set_2 | refine IsS73.far ?_ NB293_289.out _ | refine IsS73.far ?_ NB293_300.out _) | exact HI293.out)); (case side2 => repeat (first | (with_reducible first | exact HB.out | apply below_alloc | apply pw_below_drewN | apply below_drew1 | refine below_set ?_ (IsS73.ge HI293.out) | refine below_set ?_ GE289.out | refine below_set ?_ GE300.out) | exact HB.out)); rintro e w53 ⟨rfl, hi, hb, hk⟩; refine ⟨_, rfl, ?_⟩; have n0_ := Aside0.mk (KeepBut.blk hk (g' := gb289) (o := .cells #[.int .i64 0, .slice none 0 0] 25 (0, 0)) (by (with_reducible repeat (first | refine blk_drewN ?_ _ | refine blk_drew ?_ | refine blk_alloc ?_ _)); exact BK289.out) NB289_293.out (by simp)); have n1_ := Aside0.mk (Kd.R_mono (Kd.R_keep (IsS73.apart (show IsS73 w _ g293 t290 t302 t303 from by repeat (first | (with_reducible first | exact HI293.out | apply IsS73.alloc | apply IsS73.drewN | apply IsS73.drew | apply IsS73.set_1 | apply IsS73.set_2 | refine IsS73.far ?_ NB293_289.out _ | refine IsS73.far ?_ NB293_300.out _) | exact HI293.out)) (by (with_reducible repeat (first | apply Kd.R_alloc | apply Kd.R_drewN | apply Kd.R_drew)); exact HO297.out) (by decide)) hk (fun _ h => h.2)) (fun _ h => h.1)); have n2_ := Aside0.mk (KeepBut.blk hk (g' := gb300) (o := .cells #[.int .i64 t294, .slice Ao51 t295.length co51] 25 (0, 0)) (by (with_reducible repeat (first | refine blk_drewN ?_ _ | refine blk_drew ?_ | refine blk_alloc ?_ _)); exact BK300.out) NB300_293.out (by simp)); have n3_ := Aside0.mk (hb); have n4_ := Aside0.mk (hi); clear BK289; clear HO297; clear BK300; clear HB; clear HI293; have BK289 := n0_; have HO297 := n1_; have BK300 := n2_; have HB := n3_; have HI293 := n4_; clear n0_ n1_ n2_ n3_ n4_; (try clear hb); (try clear hb2); (try clear hk); (try clear hi)))
        have pi335 : (0 ≤ (t332 : Int)) = True := eq_true (of_decide_eq_true (by first | (with_reducible assumption) | assumption))
        have qi335 : (t332 < (y329.length : Int)) = True := eq_true (of_decide_eq_true (by first | (with_reducible assumption) | assumption))
        have n0_ := Aside0.mk (Kd.R_drew HO297.out)
        have n1_ := Aside0.mk (blk_drew BK289.out)
        have n2_ := Aside0.mk (blk_drew BK300.out)
        have n3_ := Aside0.mk (IsS73.drew HI293.out)
        have n4_ := Aside0.mk (below_drew1 HB.out)
        clear HO297
        clear BK289
        clear BK300
        clear HI293
        clear HB
        have HO297 := n0_
        have BK289 := n1_
        have BK300 := n2_
        have HI293 := n3_
        have HB := n4_
        clear n0_ n1_ n2_ n3_ n4_
        refine start_ (n := 18) (S := fun w' => True) (ds := []) #[false, false, false, false, false, false, false, false, false, false, false, false, false, false, false, false, false, false] (by kernel_rfl) rfl rfl trivial (fun hHeld => ?_); refine with_tabW spec_DrawSelect.tab6 spec_DrawSelect.bits6 (fun HT_ HW_ => ?_)
        generalize w53.drew = w54 at HO297 BK289 BK300 HI293 HB hHeld ⊢
        refine pure_ (i := 1) (N := some 19) (v := ?_) (a' := ?_) #[false, true, false, false, false, false, false, false, false, false, false, false, false, false, false, false, false, false] rfl rfl (any_of HT_.out (by kernel_rfl)) (fun _ _ _ h => h) (Or.inl ⟨by rfl, ?_⟩) ?_ ?_
        rotate_left
        · intro w'
          go_simp
          with_reducible rfl
        rotate_left
        · simp only [Act.put, List.setIfInBounds_toArray, List.set_cons_zero, List.set_cons_succ, i64_w, i32_w]
          rfl
        refine pure_ (i := 2) (N := some 20) (v := ?_) (a' := ?_) #[false, true, true, false, false, false, false, false, false, false, false, false, false, false, false, false, false, false] rfl rfl (any_of HT_.out (by kernel_rfl)) (fun _ _ _ h => h) (Or.inl ⟨by rfl, ?_⟩) ?_ ?_
        rotate_left
        · intro w'
          go_simp
          with_reducible rfl
        rotate_left
        · simp only [Act.put, List.setIfInBounds_toArray, List.set_cons_zero, List.set_cons_succ, i64_w, i32_w]
          rfl
        refine pure_ (i := 4) (N := some 22) (v := ?_) (a' := ?_) #[false, true, true, false, true, false, false, false, false, false, false, false, false, false, false, false, false, false] rfl rfl (any_of HT_.out (by kernel_rfl)) (fun _ _ _ h => h) (Or.inl ⟨by rfl, ?_⟩) ?_ ?_
        rotate_left
        · intro w'
          go_simp
          with_reducible rfl
        rotate_left
        · simp only [Act.put, List.setIfInBounds_toArray, List.set_cons_zero, List.set_cons_succ, i64_w, i32_w]
          rfl
        refine pure_ (i := 5) (N := some 23) (v := ?_) (a' := ?_) #[false, true, true, false, true, true, false, false, false, false, false, false, false, false, false, false, false, false] rfl rfl (any_of HT_.out (by kernel_rfl)) (fun _ _ _ h => h) (Or.inl ⟨by rfl, ?_⟩) ?_ ?_
        rotate_left
        · intro w'
          go_simp
          with_reducible rfl
        rotate_left
        · simp only [Act.put, List.setIfInBounds_toArray, List.set_cons_zero, List.set_cons_succ, i64_w, i32_w]
          rfl
        refine pure_ (i := 11) (N := some 29) (v := ?_) (a' := ?_) #[false, true, true, false, true, true, false, false, false, false, false, true, false, false, false, false, false, false] rfl rfl (any_of HT_.out (by kernel_rfl)) (fun _ _ _ h => h) (Or.inl ⟨by rfl, ?_⟩) ?_ ?_
        rotate_left
        · intro w'
          go_simp
          with_reducible rfl
        rotate_left
        · simp only [Act.put, List.setIfInBounds_toArray, List.set_cons_zero, List.set_cons_succ, i64_w, i32_w]
          rfl
        refine inv_at [0, 3, 6, 7, 8, 9, 10, 12, 13, 14, 15, 16, 17] (fun a0_ b a w' => ∃ (v330 : Value) (adz_v330 : Addr) (m13_ : Value), a = putSel a0_ b [(0, 18, .agg #[.int .i64 t294, .slice Ao51 t295.length co51]), (3, 21, .int .i64 t323), (6, 24, .int .i64 t294), (7, 25, .int .i64 ji38), (8, 26, .int .i64 ji39), (9, 27, .int .i64 t326), (10, 28, v330), (12, 30, .int .i64 t332), (13, 31, m13_), (14, 32, .int .i64 (rd y329 t332)), (16, 3, .int .i64 t301), (17, 4, .int .i64 (rd y329 t332))] ∧ (Kd.R (Kd.int .u64) 53 w' w.heap.size (fun _ => True) (.slice Ao51 t295.length co51) t295) ∧ (b 15 = false → w'.heap[gb289]? = some (.cells #[.int .i64 0, .slice none 0 0] 25 (0, 0))) ∧ (w'.heap[gb300]? = some (.cells #[.int .i64 t294, .slice Ao51 t295.length co51] 25 (0, 0))) ∧ (b 3 = false → IsS73 w w' g293 t290 t305 t306) ∧ (Below w.heap.size w w') ∧ (b 3 = true → b 9 = false → IsS73 w w' g293 t290 t324 t325) ∧ (b 9 = true → b 12 = false → IsS73 w w' g293 t290 t327 t328) ∧ (b 10 = true → Kd.R (Kd.int .i64) 3 w' w.heap.size (fun _ => True) v330 y329) ∧ (b 10 = true → ∃ c_, (v330 : Value) = .slice (some adz_v330) y329.length c_) ∧ (b 12 = true → IsS73 w w' g293 t290 t333 t334) ∧ (b 15 = true → w'.heap[gb289]? = some (.cells #[.int .i64 t294, .slice Ao51 t295.length co51] 25 (0, 0))) ∧ (b 13 = true → (m13_ : Value) = .pointer (some (adz_v330.add (t332).toNat)))) HT_.out HW_.out (by kernel_rfl) (by kernel_rfl) ?_ ?_ ?_
        · exact ⟨.bool false, ⟨0, 0, none⟩, .bool false, by simp only [putSel, Bool.false_eq_true, if_false], HO297.out, fun _ => BK289.out, BK300.out, fun _ => HI293.out, HB.out, fun h_ => absurd h_ (by decide), fun h_ => absurd h_ (by decide), fun h_ => absurd h_ (by decide), fun h_ => absurd h_ (by decide), fun h_ => absurd h_ (by decide), fun h_ => absurd h_ (by decide), fun h_ => absurd h_ (by decide)⟩
        · skip
          clear BK289 BK300 HB HI293 HO297
          refine steps_cons ?_ ?_
          · rintro b a w' ⟨v330, adz_v330, m13_, ha, Q_HO297, Q_BK289, Q_BK300, Q_HI293, Q_HB, Q_HI293_e3, Q_HI293_e9, Q_HO331, Q_HA_HO331, Q_HI293_e12, Q_BK289_e15, Q_X13_⟩ hb_ hon hoff
            refine ⟨_, rfl, fun K hK => ?_⟩
            have e6 : a.tmps[6]? = some (.pointer (some ⟨gb300, 0, none⟩)) := by rw [ha]; exact (putSel_off rfl).trans rfl
            replace ha := Aside0.mk ha
            have HO297 := Aside0.mk Q_HO297
            have BK289 := Aside0.mk (Q_BK289 (hoff 15 (by kernel_rfl)))
            have BK300 := Aside0.mk Q_BK300
            have HB := Aside0.mk Q_HB
            have hc0_ : w'.cell? ⟨gb300, 0, none⟩ = some (.int .i64 t294) := (blk_cell BK300.out 0).trans rfl
            have hc1_ : w'.cell? ⟨gb300, 1, none⟩ = some (.slice Ao51 t295.length co51) := (blk_cell BK300.out 1).trans rfl
            refine value_ (w1 := w') (v := .agg #[.int .i64 t294, .slice Ao51 t295.length co51]) (by rfl) rfl ?_ ?_
            · go_simp
              (try simp only [i64_w])
              try rfl
            refine hK.out _ _ ⟨v330, adz_v330, m13_, (by rw [ha.out]; exact putSel_upk 0 hb_ rfl rfl rfl), Q_HO297, Q_BK289, Q_BK300, Q_HI293, Q_HB, Q_HI293_e3, Q_HI293_e9, Q_HO331, Q_HA_HO331, Q_HI293_e12, fun h0_ => absurd ((hoff 15 (by kernel_rfl)).symm.trans h0_) (by decide), Q_X13_⟩
          refine steps_cons ?_ ?_
          · rintro b a w' ⟨v330, adz_v330, m13_, ha, Q_HO297, Q_BK289, Q_BK300, Q_HI293, Q_HB, Q_HI293_e3, Q_HI293_e9, Q_HO331, Q_HA_HO331, Q_HI293_e12, Q_BK289_e15, Q_X13_⟩ hb_ hon hoff
            refine ⟨_, rfl, fun K hK => ?_⟩
            have e20 : a.tmps[20]? = some (.pointer (some ⟨g293, 0, none⟩)) := by rw [ha]; exact (putSel_off rfl).trans rfl
            replace ha := Aside0.mk ha
            have HO297 := Aside0.mk Q_HO297
            have BK289 := Aside0.mk (Q_BK289 (hoff 15 (by kernel_rfl)))
            have BK300 := Aside0.mk Q_BK300
            have HI293 := Aside0.mk (Q_HI293 hb_)
            have HB := Aside0.mk Q_HB
            refine goes_ Try.func62 (by kernel_rfl) rfl #[.pointer (some ⟨g293, 0, none⟩), .int .i64 20] (by rfl) rfl rfl (by first | (simp only [List.map_toArray, List.map_cons, List.map_nil, Act.eval, Array.getD_eq_getD_getElem?, Option.getD_some, e20]; done) | (simp only [List.map_toArray, List.map_cons, List.map_nil, Act.eval, Array.getD_eq_getD_getElem?, Option.getD_some, e20]; rfl)) ?_
            with_reducible refine (spec_l01Cur_pick.calls g293 t290 t305 t306 20 t323 t324 t325 w _ ?side1 ?side2 A37.out).mono ?_
            (case side1 => repeat (first | (with_reducible first | exact HI293.out | apply IsS73.alloc | apply IsS73.drewN | apply IsS73.drew | apply IsS73.set_1 | apply IsS73.set_2 | refine IsS73.far ?_ NB293_289.out _ | refine IsS73.far ?_ NB293_300.out _) | exact HI293.out))
            (case side2 => repeat (first | (with_reducible first | exact HB.out | apply below_alloc | apply pw_below_drewN | apply below_drew1 | refine below_set ?_ (IsS73.ge HI293.out) | refine below_set ?_ GE289.out | refine below_set ?_ GE300.out) | exact HB.out))
            rintro e w55 ⟨rfl, hi, hb, hk⟩
            refine ⟨_, rfl, ?_⟩
            have n0_ := Aside0.mk (KeepBut.blk hk (g' := gb289) (o := .cells #[.int .i64 0, .slice none 0 0] 25 (0, 0)) (by (with_reducible repeat (first | refine blk_drewN ?_ _ | refine blk_drew ?_ | refine blk_alloc ?_ _)); exact BK289.out) NB289_293.out (by simp))
            have n1_ := Aside0.mk (Kd.R_mono (Kd.R_keep (IsS73.apart (show IsS73 w _ g293 t290 t305 t306 from by repeat (first | (with_reducible first | exact HI293.out | apply IsS73.alloc | apply IsS73.drewN | apply IsS73.drew | apply IsS73.set_1 | apply IsS73.set_2 | refine IsS73.far ?_ NB293_289.out _ | refine IsS73.far ?_ NB293_300.out _) | exact HI293.out)) (by (with_reducible repeat (first | apply Kd.R_alloc | apply Kd.R_drewN | apply Kd.R_drew)); exact HO297.out) (by decide)) hk (fun _ h => h.2)) (fun _ h => h.1))
            have n2_ := Aside0.mk (KeepBut.blk hk (g' := gb300) (o := .cells #[.int .i64 t294, .slice Ao51 t295.length co51] 25 (0, 0)) (by (with_reducible repeat (first | refine blk_drewN ?_ _ | refine blk_drew ?_ | refine blk_alloc ?_ _)); exact BK300.out) NB300_293.out (by simp))
            have n3_ := Aside0.mk (hb)
            have n4_ := Aside0.mk (hi)
            clear BK289
            clear HO297
            clear BK300
            clear HB
            clear HI293
            have BK289 := n0_
            have HO297 := n1_
            have BK300 := n2_
            have HB := n3_
            have HI293 := n4_
            clear n0_ n1_ n2_ n3_ n4_
            (try clear hb)
            (try clear hb2)
            (try clear hk)
            (try clear hi)
            refine hK.out _ _ ⟨v330, adz_v330, m13_, (by rw [ha.out]; exact putSel_upk 1 hb_ rfl rfl rfl), (by (with_reducible repeat (first | apply Kd.R_alloc | apply Kd.R_drewN | apply Kd.R_drew)); exact HO297.out), fun _ => (by (with_reducible repeat (first | refine blk_drewN ?_ _ | refine blk_drew ?_ | refine blk_alloc ?_ _)); exact BK289.out), (by (with_reducible repeat (first | refine blk_drewN ?_ _ | refine blk_drew ?_ | refine blk_alloc ?_ _)); exact BK300.out), fun h0_ => absurd ((up_self b 3).symm.trans h0_) (by decide), (by repeat (first | (with_reducible first | exact HB.out | apply below_alloc | apply pw_below_drewN | apply below_drew1 | refine below_set ?_ (IsS73.ge HI293.out) | refine below_set ?_ GE289.out | refine below_set ?_ GE300.out) | exact HB.out)), fun _ _ => (by repeat (first | (with_reducible first | exact HI293.out | apply IsS73.alloc | apply IsS73.drewN | apply IsS73.drew | apply IsS73.set_1 | apply IsS73.set_2 | refine IsS73.far ?_ NB293_289.out _ | refine IsS73.far ?_ NB293_300.out _) | exact HI293.out)), fun h0_ _ => absurd ((hoff 9 (by kernel_rfl)).symm.trans h0_) (by decide), fun h0_ => absurd ((hoff 10 (by kernel_rfl)).symm.trans h0_) (by decide), fun h0_ => absurd ((hoff 10 (by kernel_rfl)).symm.trans h0_) (by decide), fun h0_ => absurd ((hoff 12 (by kernel_rfl)).symm.trans h0_) (by decide), fun h0_ => absurd ((hoff 15 (by kernel_rfl)).symm.trans h0_) (by decide), fun h0_ => absurd ((hoff 13 (by kernel_rfl)).symm.trans h0_) (by decide)⟩
          refine steps_cons ?_ ?_
          · rintro b a w' ⟨v330, adz_v330, m13_, ha, Q_HO297, Q_BK289, Q_BK300, Q_HI293, Q_HB, Q_HI293_e3, Q_HI293_e9, Q_HO331, Q_HA_HO331, Q_HI293_e12, Q_BK289_e15, Q_X13_⟩ hb_ hon hoff
            refine ⟨_, rfl, fun K hK => ?_⟩
            have e23 : a.tmps[23]? = some (.pointer (some ⟨gb300, 0, none⟩)) := by rw [ha]; exact (putSel_off rfl).trans rfl
            replace ha := Aside0.mk ha
            have HO297 := Aside0.mk Q_HO297
            have BK289 := Aside0.mk (Q_BK289 (hoff 15 (by kernel_rfl)))
            have BK300 := Aside0.mk Q_BK300
            have HB := Aside0.mk Q_HB
            have hc0_ : w'.cell? ⟨gb300, 0, none⟩ = some (.int .i64 t294) := (blk_cell BK300.out 0).trans rfl
            have hc1_ : w'.cell? ⟨gb300, 1, none⟩ = some (.slice Ao51 t295.length co51) := (blk_cell BK300.out 1).trans rfl
            refine value_ (w1 := w') (v := .int .i64 t294) (by rfl) rfl ?_ ?_
            · go_simp
              (try simp only [i64_w])
              try rfl
            refine hK.out _ _ ⟨v330, adz_v330, m13_, (by rw [ha.out]; exact putSel_upk 2 hb_ rfl rfl rfl), Q_HO297, Q_BK289, Q_BK300, Q_HI293, Q_HB, Q_HI293_e3, fun h0_ _ => absurd ((hoff 9 (by kernel_rfl)).symm.trans h0_) (by decide), fun h0_ => absurd ((hoff 10 (by kernel_rfl)).symm.trans h0_) (by decide), fun h0_ => absurd ((hoff 10 (by kernel_rfl)).symm.trans h0_) (by decide), fun h0_ => absurd ((hoff 12 (by kernel_rfl)).symm.trans h0_) (by decide), fun h0_ => absurd ((hoff 15 (by kernel_rfl)).symm.trans h0_) (by decide), fun h0_ => absurd ((hoff 13 (by kernel_rfl)).symm.trans h0_) (by decide)⟩
          refine steps_cons ?_ ?_
          · rintro b a w' ⟨v330, adz_v330, m13_, ha, Q_HO297, Q_BK289, Q_BK300, Q_HI293, Q_HB, Q_HI293_e3, Q_HI293_e9, Q_HO331, Q_HA_HO331, Q_HI293_e12, Q_BK289_e15, Q_X13_⟩ hb_ hon hoff
            refine ⟨_, rfl, fun K hK => ?_⟩
            have e24 : a.tmps[24]? = some (.int .i64 t294) := by rw [ha]; exact putSel_on (e := (6, 24, .int .i64 t294)) 2 rfl rfl (hon 6 (by kernel_rfl)) rfl
            replace ha := Aside0.mk ha
            have HO297 := Aside0.mk Q_HO297
            have BK289 := Aside0.mk (Q_BK289 (hoff 15 (by kernel_rfl)))
            have BK300 := Aside0.mk Q_BK300
            have HB := Aside0.mk Q_HB
            refine value_ (w1 := w') (v := .int .i64 ji38) (by rfl) rfl ?_ ?_
            · go_simp
              (try simp only [i64_w])
              try rfl
            refine hK.out _ _ ⟨v330, adz_v330, m13_, (by rw [ha.out]; exact putSel_upk 3 hb_ rfl rfl rfl), Q_HO297, Q_BK289, Q_BK300, Q_HI293, Q_HB, Q_HI293_e3, fun h0_ _ => absurd ((hoff 9 (by kernel_rfl)).symm.trans h0_) (by decide), fun h0_ => absurd ((hoff 10 (by kernel_rfl)).symm.trans h0_) (by decide), fun h0_ => absurd ((hoff 10 (by kernel_rfl)).symm.trans h0_) (by decide), fun h0_ => absurd ((hoff 12 (by kernel_rfl)).symm.trans h0_) (by decide), fun h0_ => absurd ((hoff 15 (by kernel_rfl)).symm.trans h0_) (by decide), fun h0_ => absurd ((hoff 13 (by kernel_rfl)).symm.trans h0_) (by decide)⟩
          refine steps_cons ?_ ?_
          · rintro b a w' ⟨v330, adz_v330, m13_, ha, Q_HO297, Q_BK289, Q_BK300, Q_HI293, Q_HB, Q_HI293_e3, Q_HI293_e9, Q_HO331, Q_HA_HO331, Q_HI293_e12, Q_BK289_e15, Q_X13_⟩ hb_ hon hoff
            refine ⟨_, rfl, fun K hK => ?_⟩
            have e25 : a.tmps[25]? = some (.int .i64 ji38) := by rw [ha]; exact putSel_on (e := (7, 25, .int .i64 ji38)) 3 rfl rfl (hon 7 (by kernel_rfl)) rfl
            replace ha := Aside0.mk ha
            have HO297 := Aside0.mk Q_HO297
            have BK289 := Aside0.mk (Q_BK289 (hoff 15 (by kernel_rfl)))
            have BK300 := Aside0.mk Q_BK300
            have HB := Aside0.mk Q_HB
            refine value_ (w1 := w') (v := .int .i64 ji39) (by rfl) rfl ?_ ?_
            · go_simp
              (try simp only [i64_w])
              try rfl
            refine hK.out _ _ ⟨v330, adz_v330, m13_, (by rw [ha.out]; exact putSel_upk 4 hb_ rfl rfl rfl), Q_HO297, Q_BK289, Q_BK300, Q_HI293, Q_HB, Q_HI293_e3, fun h0_ _ => absurd ((hoff 9 (by kernel_rfl)).symm.trans h0_) (by decide), fun h0_ => absurd ((hoff 10 (by kernel_rfl)).symm.trans h0_) (by decide), fun h0_ => absurd ((hoff 10 (by kernel_rfl)).symm.trans h0_) (by decide), fun h0_ => absurd ((hoff 12 (by kernel_rfl)).symm.trans h0_) (by decide), fun h0_ => absurd ((hoff 15 (by kernel_rfl)).symm.trans h0_) (by decide), fun h0_ => absurd ((hoff 13 (by kernel_rfl)).symm.trans h0_) (by decide)⟩
          refine steps_cons ?_ ?_
          · rintro b a w' ⟨v330, adz_v330, m13_, ha, Q_HO297, Q_BK289, Q_BK300, Q_HI293, Q_HB, Q_HI293_e3, Q_HI293_e9, Q_HO331, Q_HA_HO331, Q_HI293_e12, Q_BK289_e15, Q_X13_⟩ hb_ hon hoff
            refine ⟨_, rfl, fun K hK => ?_⟩
            have e22 : a.tmps[22]? = some (.pointer (some ⟨g293, 0, none⟩)) := by rw [ha]; exact (putSel_off rfl).trans rfl
            have e26 : a.tmps[26]? = some (.int .i64 ji39) := by rw [ha]; exact putSel_on (e := (8, 26, .int .i64 ji39)) 4 rfl rfl (hon 8 (by kernel_rfl)) rfl
            replace ha := Aside0.mk ha
            have HO297 := Aside0.mk Q_HO297
            have BK289 := Aside0.mk (Q_BK289 (hoff 15 (by kernel_rfl)))
            have BK300 := Aside0.mk Q_BK300
            have HB := Aside0.mk Q_HB
            have HI293 := Aside0.mk (Q_HI293_e3 (hon 3 (by kernel_rfl)) hb_)
            refine goes_ Try.func65 (by kernel_rfl) rfl #[.pointer (some ⟨g293, 0, none⟩), .int .i64 ji39] (by rfl) rfl rfl (by (try simp only [List.map_toArray, List.map_cons, List.map_nil]); first | done | (simp only [hji39]; rfl) | rfl | (simp only [List.length_drop, List.length_take]; rfl) | (simp only [List.map_toArray, List.map_cons, List.map_nil, Act.eval, Array.getD_eq_getD_getElem?, Option.getD_some, e22, e26]; done) | (simp only [List.map_toArray, List.map_cons, List.map_nil, Act.eval, Array.getD_eq_getD_getElem?, Option.getD_some, e22, e26]; rfl)) ?_
            with_reducible refine (spec_l01Cur_place.calls g293 t290 t324 t325 ji39 t326 t327 t328 w _ ?side1 ?side2 A40.out).mono ?_
            (case side1 => repeat (first | (with_reducible first | exact HI293.out | apply IsS73.alloc | apply IsS73.drewN | apply IsS73.drew | apply IsS73.set_1 | apply IsS73.set_2 | refine IsS73.far ?_ NB293_289.out _ | refine IsS73.far ?_ NB293_300.out _) | exact HI293.out))
            (case side2 => repeat (first | (with_reducible first | exact HB.out | apply below_alloc | apply pw_below_drewN | apply below_drew1 | refine below_set ?_ (IsS73.ge HI293.out) | refine below_set ?_ GE289.out | refine below_set ?_ GE300.out) | exact HB.out))
            rintro e w57 ⟨rfl, hi, hb, hk⟩
            refine ⟨_, rfl, ?_⟩
            have n0_ := Aside0.mk (KeepBut.blk hk (g' := gb289) (o := .cells #[.int .i64 0, .slice none 0 0] 25 (0, 0)) (by (with_reducible repeat (first | refine blk_drewN ?_ _ | refine blk_drew ?_ | refine blk_alloc ?_ _)); exact BK289.out) NB289_293.out (by simp))
            have n1_ := Aside0.mk (Kd.R_mono (Kd.R_keep (IsS73.apart (show IsS73 w _ g293 t290 t324 t325 from by repeat (first | (with_reducible first | exact HI293.out | apply IsS73.alloc | apply IsS73.drewN | apply IsS73.drew | apply IsS73.set_1 | apply IsS73.set_2 | refine IsS73.far ?_ NB293_289.out _ | refine IsS73.far ?_ NB293_300.out _) | exact HI293.out)) (by (with_reducible repeat (first | apply Kd.R_alloc | apply Kd.R_drewN | apply Kd.R_drew)); exact HO297.out) (by decide)) hk (fun _ h => h.2)) (fun _ h => h.1))
            have n2_ := Aside0.mk (KeepBut.blk hk (g' := gb300) (o := .cells #[.int .i64 t294, .slice Ao51 t295.length co51] 25 (0, 0)) (by (with_reducible repeat (first | refine blk_drewN ?_ _ | refine blk_drew ?_ | refine blk_alloc ?_ _)); exact BK300.out) NB300_293.out (by simp))
            have n3_ := Aside0.mk (hb)
            have n4_ := Aside0.mk (hi)
            clear BK289
            clear HO297
            clear BK300
            clear HB
            clear HI293
            have BK289 := n0_
            have HO297 := n1_
            have BK300 := n2_
            have HB := n3_
            have HI293 := n4_
            clear n0_ n1_ n2_ n3_ n4_
            (try clear hb)
            (try clear hb2)
            (try clear hk)
            (try clear hi)
            refine hK.out _ _ ⟨v330, adz_v330, m13_, (by rw [ha.out]; exact putSel_upk 5 hb_ rfl rfl rfl), (by (with_reducible repeat (first | apply Kd.R_alloc | apply Kd.R_drewN | apply Kd.R_drew)); exact HO297.out), fun _ => (by (with_reducible repeat (first | refine blk_drewN ?_ _ | refine blk_drew ?_ | refine blk_alloc ?_ _)); exact BK289.out), (by (with_reducible repeat (first | refine blk_drewN ?_ _ | refine blk_drew ?_ | refine blk_alloc ?_ _)); exact BK300.out), fun h0_ => absurd ((hon 3 (by kernel_rfl)).symm.trans h0_) (by decide), (by repeat (first | (with_reducible first | exact HB.out | apply below_alloc | apply pw_below_drewN | apply below_drew1 | refine below_set ?_ (IsS73.ge HI293.out) | refine below_set ?_ GE289.out | refine below_set ?_ GE300.out) | exact HB.out)), fun _ h1_ => absurd ((up_self b 9).symm.trans h1_) (by decide), fun _ _ => (by repeat (first | (with_reducible first | exact HI293.out | apply IsS73.alloc | apply IsS73.drewN | apply IsS73.drew | apply IsS73.set_1 | apply IsS73.set_2 | refine IsS73.far ?_ NB293_289.out _ | refine IsS73.far ?_ NB293_300.out _) | exact HI293.out)), fun h0_ => absurd ((hoff 10 (by kernel_rfl)).symm.trans h0_) (by decide), fun h0_ => absurd ((hoff 10 (by kernel_rfl)).symm.trans h0_) (by decide), fun h0_ => absurd ((hoff 12 (by kernel_rfl)).symm.trans h0_) (by decide), fun h0_ => absurd ((hoff 15 (by kernel_rfl)).symm.trans h0_) (by decide), fun h0_ => absurd ((hoff 13 (by kernel_rfl)).symm.trans h0_) (by decide)⟩
          refine steps_cons ?_ ?_
          · rintro b a w' ⟨v330, adz_v330, m13_, ha, Q_HO297, Q_BK289, Q_BK300, Q_HI293, Q_HB, Q_HI293_e3, Q_HI293_e9, Q_HO331, Q_HA_HO331, Q_HI293_e12, Q_BK289_e15, Q_X13_⟩ hb_ hon hoff
            refine ⟨_, rfl, fun K hK => ?_⟩
            have e21 : a.tmps[21]? = some (.int .i64 t323) := by rw [ha]; exact putSel_on (e := (3, 21, .int .i64 t323)) 1 rfl rfl (hon 3 (by kernel_rfl)) rfl
            have e27 : a.tmps[27]? = some (.int .i64 t326) := by rw [ha]; exact putSel_on (e := (9, 27, .int .i64 t326)) 5 rfl rfl (hon 9 (by kernel_rfl)) rfl
            replace ha := Aside0.mk ha
            have HO297 := Aside0.mk Q_HO297
            have BK300 := Aside0.mk Q_BK300
            have HB := Aside0.mk Q_HB
            refine Kd.R_lit_step (Kd.int .i64) _ 3 ?hg (N := 28) ?hd (xs := ([t323, t326] : List Int)) (inner := [.int .i64 t323, .int .i64 t326]) (ok := fun _ => True) (okp := fun _ => True) ?hr ?hp (fun _ hk => hk) trivial (Below.refl _ _) (Nat.le_refl _) (by simp) ?_; (case hd => rfl); (case hg => rfl); (case hr => first | (go_simp; done) | (go_simp; rfl)); (case hp => exact (Reps.one (show Kd.M (Kd.int .i64) _ _ _ t323 [.int .i64 t323] from rfl) (Reps.one (show Kd.M (Kd.int .i64) _ _ _ t326 [.int .i64 t326] from rfl) (Reps.none _ _))))
            intro v330 w58 ho59 hb hg_ hnew_
            clear hg_ hnew_
            (first | rw [← Ny329.out] at ho59 | (simp only [Int.reduceToNat] at ho59; rw [← Ny329.out] at ho59))
            have n0_ := Aside0.mk (Kd.R_below (by (with_reducible repeat (first | apply Kd.R_alloc | apply Kd.R_drewN | apply Kd.R_drew)); exact HO297.out) hb)
            have n1_ := Aside0.mk (Kd.R_lower ho59 (below_size (by repeat (first | (with_reducible first | exact HB.out | apply below_alloc | apply pw_below_drewN | apply below_drew1 | refine below_set ?_ GE289.out | refine below_set ?_ GE300.out) | exact HB.out))))
            have n4_ := Aside0.mk (blk_below (g := gb300) (o := .cells #[.int .i64 t294, .slice Ao51 t295.length co51] 25 (0, 0)) (by (with_reducible repeat (first | refine blk_drewN ?_ _ | refine blk_drew ?_ | refine blk_alloc ?_ _)); exact BK300.out) hb)
            have n5_ := Aside0.mk (below_step (by repeat (first | (with_reducible first | exact HB.out | apply below_alloc | apply pw_below_drewN | apply below_drew1 | refine below_set ?_ GE289.out | refine below_set ?_ GE300.out) | exact HB.out)) hb)
            have z_BK289 := fun (h0_ : b 15 = false) => (show w58.heap[gb289]? = some (.cells #[.int .i64 0, .slice none 0 0] 25 (0, 0)) from by first | exact (blk_below (g := gb289) (o := .cells #[.int .i64 0, .slice none 0 0] 25 (0, 0)) (by (with_reducible repeat (first | refine blk_drewN ?_ _ | refine blk_drew ?_ | refine blk_alloc ?_ _)); exact (Q_BK289 h0_)) hb))
            have z_HI293_e9 := fun (h0_ : b 9 = true) (h1_ : b 12 = false) => (show IsS73 w w58 g293 t290 t327 t328 from by first | exact (IsS73.below (by repeat (first | (with_reducible first | exact (Q_HI293_e9 h0_ h1_) | apply IsS73.alloc | apply IsS73.drewN | apply IsS73.drew | apply IsS73.set_1 | apply IsS73.set_2 | refine IsS73.far ?_ NB293_289.out _ | refine IsS73.far ?_ NB293_300.out _) | exact (Q_HI293_e9 h0_ h1_))) hb))
            have z_HI293_e12 := fun (h0_ : b 12 = true) => (show IsS73 w w58 g293 t290 t333 t334 from by first | exact (IsS73.below (by repeat (first | (with_reducible first | exact (Q_HI293_e12 h0_) | apply IsS73.alloc | apply IsS73.drewN | apply IsS73.drew | apply IsS73.set_1 | apply IsS73.set_2 | refine IsS73.far ?_ NB293_289.out _ | refine IsS73.far ?_ NB293_300.out _) | exact (Q_HI293_e12 h0_))) hb))
            have z_BK289_e15 := fun (h0_ : b 15 = true) => (show w58.heap[gb289]? = some (.cells #[.int .i64 t294, .slice Ao51 t295.length co51] 25 (0, 0)) from by first | exact (blk_below (g := gb289) (o := .cells #[.int .i64 t294, .slice Ao51 t295.length co51] 25 (0, 0)) (by (with_reducible repeat (first | refine blk_drewN ?_ _ | refine blk_drew ?_ | refine blk_alloc ?_ _)); exact (Q_BK289_e15 h0_)) hb))
            clear HO297
            clear BK300
            clear HB
            have HO297 := n0_
            have HO331 := n1_
            have BK300 := n4_
            have HB := n5_
            clear n0_ n1_ n4_ n5_
            clear hb ho59
            obtain ⟨Ao60, co60, eo60⟩ := Kd.R_slice HO331.out
            subst eo60
            obtain ⟨ado60, fo60, _⟩ := Kd.at_int (Kd.R_reads' HO331.out).2.2 0 (by decide) (by rw [Ny329.out]; simp)
            cases fo60
            refine hK.out _ _ ⟨.slice (some ado60) y329.length co60, ado60, m13_, (by rw [ha.out]; exact putSel_upk 6 hb_ rfl rfl rfl), (by (with_reducible repeat (first | apply Kd.R_alloc | apply Kd.R_drewN | apply Kd.R_drew)); exact HO297.out), z_BK289, (by (with_reducible repeat (first | refine blk_drewN ?_ _ | refine blk_drew ?_ | refine blk_alloc ?_ _)); exact BK300.out), fun h0_ => absurd ((hon 3 (by kernel_rfl)).symm.trans h0_) (by decide), (by repeat (first | (with_reducible first | exact HB.out | apply below_alloc | apply pw_below_drewN | apply below_drew1 | refine below_set ?_ GE289.out | refine below_set ?_ GE300.out) | exact HB.out)), fun _ h1_ => absurd ((hon 9 (by kernel_rfl)).symm.trans h1_) (by decide), z_HI293_e9, fun _ => (by (with_reducible repeat (first | apply Kd.R_alloc | apply Kd.R_drewN | apply Kd.R_drew)); exact HO331.out), fun _ => ⟨_, rfl⟩, z_HI293_e12, z_BK289_e15, fun h0_ => absurd ((hoff 13 (by kernel_rfl)).symm.trans h0_) (by decide)⟩
          refine steps_cons ?_ ?_
          · rintro b a w' ⟨v330, adz_v330, m13_, ha, Q_HO297, Q_BK289, Q_BK300, Q_HI293, Q_HB, Q_HI293_e3, Q_HI293_e9, Q_HO331, Q_HA_HO331, Q_HI293_e12, Q_BK289_e15, Q_X13_⟩ hb_ hon hoff
            refine ⟨_, rfl, fun K hK => ?_⟩
            have e29 : a.tmps[29]? = some (.pointer (some ⟨g293, 0, none⟩)) := by rw [ha]; exact (putSel_off rfl).trans rfl
            replace ha := Aside0.mk ha
            have HO297 := Aside0.mk Q_HO297
            have BK289 := Aside0.mk (Q_BK289 (hoff 15 (by kernel_rfl)))
            have BK300 := Aside0.mk Q_BK300
            have HB := Aside0.mk Q_HB
            have HI293 := Aside0.mk (Q_HI293_e9 (hon 9 (by kernel_rfl)) hb_)
            refine goes_ Try.func62 (by kernel_rfl) rfl #[.pointer (some ⟨g293, 0, none⟩), .int .i64 2] (by rfl) rfl rfl (by first | (simp only [List.map_toArray, List.map_cons, List.map_nil, Act.eval, Array.getD_eq_getD_getElem?, Option.getD_some, e29]; done) | (simp only [List.map_toArray, List.map_cons, List.map_nil, Act.eval, Array.getD_eq_getD_getElem?, Option.getD_some, e29]; rfl)) ?_
            with_reducible refine (spec_l01Cur_pick.calls g293 t290 t327 t328 2 t332 t333 t334 w _ ?side1 ?side2 A41.out).mono ?_
            (case side1 => repeat (first | (with_reducible first | exact HI293.out | apply IsS73.alloc | apply IsS73.drewN | apply IsS73.drew | apply IsS73.set_1 | apply IsS73.set_2 | refine IsS73.far ?_ NB293_289.out _ | refine IsS73.far ?_ NB293_300.out _) | exact HI293.out))
            (case side2 => repeat (first | (with_reducible first | exact HB.out | apply below_alloc | apply pw_below_drewN | apply below_drew1 | refine below_set ?_ (IsS73.ge HI293.out) | refine below_set ?_ GE289.out | refine below_set ?_ GE300.out) | exact HB.out))
            rintro e w58 ⟨rfl, hi, hb, hk⟩
            refine ⟨_, rfl, ?_⟩
            have n0_ := Aside0.mk (KeepBut.blk hk (g' := gb289) (o := .cells #[.int .i64 0, .slice none 0 0] 25 (0, 0)) (by (with_reducible repeat (first | refine blk_drewN ?_ _ | refine blk_drew ?_ | refine blk_alloc ?_ _)); exact BK289.out) NB289_293.out (by simp))
            have n1_ := Aside0.mk (Kd.R_mono (Kd.R_keep (IsS73.apart (show IsS73 w _ g293 t290 t327 t328 from by repeat (first | (with_reducible first | exact HI293.out | apply IsS73.alloc | apply IsS73.drewN | apply IsS73.drew | apply IsS73.set_1 | apply IsS73.set_2 | refine IsS73.far ?_ NB293_289.out _ | refine IsS73.far ?_ NB293_300.out _) | exact HI293.out)) (by (with_reducible repeat (first | apply Kd.R_alloc | apply Kd.R_drewN | apply Kd.R_drew)); exact HO297.out) (by decide)) hk (fun _ h => h.2)) (fun _ h => h.1))
            have n2_ := Aside0.mk (KeepBut.blk hk (g' := gb300) (o := .cells #[.int .i64 t294, .slice Ao51 t295.length co51] 25 (0, 0)) (by (with_reducible repeat (first | refine blk_drewN ?_ _ | refine blk_drew ?_ | refine blk_alloc ?_ _)); exact BK300.out) NB300_293.out (by simp))
            have n3_ := Aside0.mk (hb)
            have n4_ := Aside0.mk (hi)
            have z_HO331 := fun (h0_ : b 10 = true) => (show Kd.R (Kd.int .i64) 3 w58 w.heap.size (fun _ => True) v330 y329 from by first | exact (Kd.R_mono (Kd.R_keep (IsS73.apart (show IsS73 w _ g293 t290 t327 t328 from by repeat (first | (with_reducible first | exact HI293.out | apply IsS73.alloc | apply IsS73.drewN | apply IsS73.drew | apply IsS73.set_1 | apply IsS73.set_2 | refine IsS73.far ?_ NB293_289.out _ | refine IsS73.far ?_ NB293_300.out _) | exact HI293.out)) (by (with_reducible repeat (first | apply Kd.R_alloc | apply Kd.R_drewN | apply Kd.R_drew)); exact (Q_HO331 h0_)) (by decide)) hk (fun _ h => h.2)) (fun _ h => h.1)) | exact Kd.R_mono (Kd.R_mono (Kd.R_keep (IsS73.apart (show IsS73 w _ g293 t290 t327 t328 from by repeat (first | (with_reducible first | exact HI293.out | apply IsS73.alloc | apply IsS73.drewN | apply IsS73.drew | apply IsS73.set_1 | apply IsS73.set_2 | refine IsS73.far ?_ NB293_289.out _ | refine IsS73.far ?_ NB293_300.out _) | exact HI293.out)) (by (with_reducible repeat (first | apply Kd.R_alloc | apply Kd.R_drewN | apply Kd.R_drew)); exact (Q_HO331 h0_)) (by decide)) hk (fun _ h => h.2)) (fun _ h => h.1)) (fun _ h_ => by first | trivial | exact h_ | exact h_.1))
            clear BK289
            clear HO297
            clear BK300
            clear HB
            clear HI293
            have BK289 := n0_
            have HO297 := n1_
            have BK300 := n2_
            have HB := n3_
            have HI293 := n4_
            clear n0_ n1_ n2_ n3_ n4_
            (try clear hb)
            (try clear hb2)
            (try clear hk)
            (try clear hi)
            refine hK.out _ _ ⟨v330, adz_v330, m13_, (by rw [ha.out]; exact putSel_upk 7 hb_ rfl rfl rfl), (by (with_reducible repeat (first | apply Kd.R_alloc | apply Kd.R_drewN | apply Kd.R_drew)); exact HO297.out), fun _ => (by (with_reducible repeat (first | refine blk_drewN ?_ _ | refine blk_drew ?_ | refine blk_alloc ?_ _)); exact BK289.out), (by (with_reducible repeat (first | refine blk_drewN ?_ _ | refine blk_drew ?_ | refine blk_alloc ?_ _)); exact BK300.out), fun h0_ => absurd ((hon 3 (by kernel_rfl)).symm.trans h0_) (by decide), (by repeat (first | (with_reducible first | exact HB.out | apply below_alloc | apply pw_below_drewN | apply below_drew1 | refine below_set ?_ (IsS73.ge HI293.out) | refine below_set ?_ GE289.out | refine below_set ?_ GE300.out) | exact HB.out)), fun _ h1_ => absurd ((hon 9 (by kernel_rfl)).symm.trans h1_) (by decide), fun _ h1_ => absurd ((up_self b 12).symm.trans h1_) (by decide), z_HO331, Q_HA_HO331, fun _ => (by repeat (first | (with_reducible first | exact HI293.out | apply IsS73.alloc | apply IsS73.drewN | apply IsS73.drew | apply IsS73.set_1 | apply IsS73.set_2 | refine IsS73.far ?_ NB293_289.out _ | refine IsS73.far ?_ NB293_300.out _) | exact HI293.out)), fun h0_ => absurd ((hoff 15 (by kernel_rfl)).symm.trans h0_) (by decide), fun h0_ => absurd ((hoff 13 (by kernel_rfl)).symm.trans h0_) (by decide)⟩
          refine steps_cons ?_ ?_
          · rintro b a w' ⟨v330, adz_v330, m13_, ha, Q_HO297, Q_BK289, Q_BK300, Q_HI293, Q_HB, Q_HI293_e3, Q_HI293_e9, Q_HO331, Q_HA_HO331, Q_HI293_e12, Q_BK289_e15, Q_X13_⟩ hb_ hon hoff
            refine ⟨_, rfl, fun K hK => ?_⟩
            have e28 : a.tmps[28]? = some (v330) := by rw [ha]; exact putSel_on (e := (10, 28, v330)) 6 rfl rfl (hon 10 (by kernel_rfl)) rfl
            have e30 : a.tmps[30]? = some (.int .i64 t332) := by rw [ha]; exact putSel_on (e := (12, 30, .int .i64 t332)) 7 rfl rfl (hon 12 (by kernel_rfl)) rfl
            replace ha := Aside0.mk ha
            have HO297 := Aside0.mk Q_HO297
            have BK300 := Aside0.mk Q_BK300
            have HB := Aside0.mk Q_HB
            have HO331 := Aside0.mk (Q_HO331 (hon 10 (by kernel_rfl)))
            have HA_HO331 := Aside0.mk (Q_HA_HO331 (hon 10 (by kernel_rfl)))
            have HI293 := Aside0.mk (Q_HI293_e12 (hon 12 (by kernel_rfl)))
            obtain ⟨c_, hv_⟩ := HA_HO331.out
            rw [hv_] at e28
            refine value_ (w1 := w') (v := .pointer (some (adz_v330.add (t332).toNat))) (by rfl) rfl ?_ ?_
            · go_simp
              (try simp only [i64_w])
              try rfl
            refine hK.out _ _ ⟨v330, adz_v330, (.pointer (some (adz_v330.add (t332).toNat))), (by rw [ha.out]; exact putSel_upk 8 hb_ rfl rfl rfl), Q_HO297, Q_BK289, Q_BK300, fun h0_ => absurd ((hon 3 (by kernel_rfl)).symm.trans h0_) (by decide), Q_HB, fun _ h1_ => absurd ((hon 9 (by kernel_rfl)).symm.trans h1_) (by decide), fun _ h1_ => absurd ((hon 12 (by kernel_rfl)).symm.trans h1_) (by decide), Q_HO331, Q_HA_HO331, Q_HI293_e12, Q_BK289_e15, fun _ => rfl⟩
          refine steps_cons ?_ ?_
          · rintro b a w' ⟨v330, adz_v330, m13_, ha, Q_HO297, Q_BK289, Q_BK300, Q_HI293, Q_HB, Q_HI293_e3, Q_HI293_e9, Q_HO331, Q_HA_HO331, Q_HI293_e12, Q_BK289_e15, Q_X13_⟩ hb_ hon hoff
            refine ⟨_, rfl, fun K hK => ?_⟩
            have e31 : a.tmps[31]? = some (m13_) := by rw [ha]; exact putSel_on (e := (13, 31, m13_)) 8 rfl rfl (hon 13 (by kernel_rfl)) rfl
            rw [Q_X13_ (hon 13 (by kernel_rfl))] at e31
            replace ha := Aside0.mk ha
            have HO297 := Aside0.mk Q_HO297
            have BK300 := Aside0.mk Q_BK300
            have HB := Aside0.mk Q_HB
            have HO331 := Aside0.mk (Q_HO331 (hon 10 (by kernel_rfl)))
            have HA_HO331 := Aside0.mk (Q_HA_HO331 (hon 10 (by kernel_rfl)))
            have HI293 := Aside0.mk (Q_HI293_e12 (hon 12 (by kernel_rfl)))
            obtain ⟨c_, hv_⟩ := HA_HO331.out
            have hF_ := HO331.out
            rw [hv_] at hF_
            obtain ⟨ad_, ea_, hx_⟩ := Kd.at_int (Kd.R_reads' hF_).2.2 t332 (of_eq_true pi335) (of_eq_true qi335)
            cases ea_
            refine value_ (w1 := w') (v := .int .i64 (rd y329 t332)) (by rfl) rfl ?_ ?_
            · go_simp
              (try simp only [i64_w])
              try rfl
            refine hK.out _ _ ⟨v330, adz_v330, m13_, (by rw [ha.out]; exact putSel_upk 9 hb_ rfl rfl rfl), Q_HO297, Q_BK289, Q_BK300, fun h0_ => absurd ((hon 3 (by kernel_rfl)).symm.trans h0_) (by decide), Q_HB, fun _ h1_ => absurd ((hon 9 (by kernel_rfl)).symm.trans h1_) (by decide), fun _ h1_ => absurd ((hon 12 (by kernel_rfl)).symm.trans h1_) (by decide), Q_HO331, Q_HA_HO331, Q_HI293_e12, Q_BK289_e15, Q_X13_⟩
          refine steps_cons ?_ ?_
          · rintro b a w' ⟨v330, adz_v330, m13_, ha, Q_HO297, Q_BK289, Q_BK300, Q_HI293, Q_HB, Q_HI293_e3, Q_HI293_e9, Q_HO331, Q_HA_HO331, Q_HI293_e12, Q_BK289_e15, Q_X13_⟩ hb_ hon hoff
            refine ⟨_, rfl, fun K hK => ?_⟩
            have e2 : a.tmps[2]? = some (.pointer (some ⟨gb289, 0, none⟩)) := by rw [ha]; exact (putSel_off rfl).trans rfl
            have e18 : a.tmps[18]? = some (.agg #[.int .i64 t294, .slice Ao51 t295.length co51]) := by rw [ha]; exact putSel_on (e := (0, 18, .agg #[.int .i64 t294, .slice Ao51 t295.length co51])) 0 rfl rfl (hon 0 (by kernel_rfl)) rfl
            replace ha := Aside0.mk ha
            have HO297 := Aside0.mk Q_HO297
            have BK289 := Aside0.mk (Q_BK289 hb_)
            have BK300 := Aside0.mk Q_BK300
            have HB := Aside0.mk Q_HB
            have HI293 := Aside0.mk (Q_HI293_e12 (hon 12 (by kernel_rfl)))
            have hs59 : w'.cell? ⟨gb289, 0, none⟩ = some (.int .i64 0) := (blk_cell BK289.out 0).trans rfl
            have hfs59 := blk_frozen BK289.out 0
            have hns59_1 := NB300_289.out
            have hms59_1 := NB289_300.out
            have hs60 : w'.cell? ⟨gb289, 1, none⟩ = some (.slice none 0 0) := (blk_cell BK289.out 1).trans rfl
            have hfs60 := blk_frozen BK289.out 1
            have hns60_1 := NB300_289.out
            have hms60_1 := NB289_300.out
            refine skip_ (w1 := ?_) (by rfl) rfl ?_ ?_
            rotate_left
            · go_simp
              rfl
            refine hK.out _ _ ⟨v330, adz_v330, m13_, (by rw [ha.out]; exact putSel_none (v := undef) rfl), (by (with_reducible repeat (first | apply Kd.R_alloc | apply Kd.R_drewN | apply Kd.R_drew)); exact Kd.R_mono (Kd.R_far (p := ⟨gb289, 1, none⟩) (Kd.R_far (p := ⟨gb289, 0, none⟩) (Kd.R_types HO297.out BK289.out (by decide)) (fun _ hk => hk.2) (.int .i64 t294)) (fun _ hk => hk.2) (.slice Ao51 t295.length co51)) (fun _ hk => trivial)), fun h0_ => absurd ((up_self b 15).symm.trans h0_) (by decide), (by (with_reducible repeat (first | refine blk_drewN ?_ _ | refine blk_drew ?_ | refine blk_alloc ?_ _)); refine blk_far ?_ NB300_289.out _; (with_reducible repeat (first | refine blk_drewN ?_ _ | refine blk_drew ?_ | refine blk_alloc ?_ _)); refine blk_far ?_ NB300_289.out _; (with_reducible repeat (first | refine blk_drewN ?_ _ | refine blk_drew ?_ | refine blk_alloc ?_ _)); exact BK300.out), fun h0_ => absurd ((hon 3 (by kernel_rfl)).symm.trans h0_) (by decide), (by repeat (first | (with_reducible first | exact HB.out | apply below_alloc | apply pw_below_drewN | apply below_drew1 | refine below_set ?_ (IsS73.ge HI293.out) | refine below_set ?_ GE289.out | refine below_set ?_ GE300.out) | exact HB.out)), fun _ h1_ => absurd ((hon 9 (by kernel_rfl)).symm.trans h1_) (by decide), fun _ h1_ => absurd ((hon 12 (by kernel_rfl)).symm.trans h1_) (by decide), fun h0_ => (by (with_reducible repeat (first | apply Kd.R_alloc | apply Kd.R_drewN | apply Kd.R_drew)); exact Kd.R_mono (Kd.R_far (p := ⟨gb289, 1, none⟩) (Kd.R_far (p := ⟨gb289, 0, none⟩) (Kd.R_types (Q_HO331 h0_) BK289.out (by decide)) (fun _ hk => hk.2) (.int .i64 t294)) (fun _ hk => hk.2) (.slice Ao51 t295.length co51)) (fun _ hk => trivial)), Q_HA_HO331, fun _ => (by repeat (first | (with_reducible first | exact HI293.out | apply IsS73.alloc | apply IsS73.drewN | apply IsS73.drew | apply IsS73.set_1 | apply IsS73.set_2 | refine IsS73.far ?_ NB293_289.out _ | refine IsS73.far ?_ NB293_300.out _) | exact HI293.out)), fun _ => (by (with_reducible repeat (first | refine blk_drewN ?_ _ | refine blk_drew ?_ | refine blk_alloc ?_ _)); refine blk_put (cs := #[.int .i64 t294, .slice none 0 0]) ?_ 1 _ rfl; (with_reducible repeat (first | refine blk_drewN ?_ _ | refine blk_drew ?_ | refine blk_alloc ?_ _)); refine blk_put (cs := #[.int .i64 0, .slice none 0 0]) ?_ 0 _ rfl; (with_reducible repeat (first | refine blk_drewN ?_ _ | refine blk_drew ?_ | refine blk_alloc ?_ _)); exact BK289.out), Q_X13_⟩
          refine steps_cons ?_ ?_
          · rintro b a w' ⟨v330, adz_v330, m13_, ha, Q_HO297, Q_BK289, Q_BK300, Q_HI293, Q_HB, Q_HI293_e3, Q_HI293_e9, Q_HO331, Q_HA_HO331, Q_HI293_e12, Q_BK289_e15, Q_X13_⟩ hb_ hon hoff
            refine ⟨_, rfl, fun K hK => ?_⟩
            have e19 : a.tmps[19]? = some (.int .i64 t301) := by rw [ha]; exact (putSel_off rfl).trans rfl
            replace ha := Aside0.mk ha
            have HO297 := Aside0.mk Q_HO297
            have BK300 := Aside0.mk Q_BK300
            have HB := Aside0.mk Q_HB
            have HI293 := Aside0.mk (Q_HI293_e12 (hon 12 (by kernel_rfl)))
            have BK289 := Aside0.mk (Q_BK289_e15 (hon 15 (by kernel_rfl)))
            refine value_ (w1 := w') (v := .int .i64 t301) (by rfl) rfl ?_ ?_
            · go_simp
              (try simp only [i64_w])
              try rfl
            refine hK.out _ _ ⟨v330, adz_v330, m13_, (by rw [ha.out]; exact putSel_upk 10 hb_ rfl rfl rfl), Q_HO297, fun h0_ => absurd ((hon 15 (by kernel_rfl)).symm.trans h0_) (by decide), Q_BK300, fun h0_ => absurd ((hon 3 (by kernel_rfl)).symm.trans h0_) (by decide), Q_HB, fun _ h1_ => absurd ((hon 9 (by kernel_rfl)).symm.trans h1_) (by decide), fun _ h1_ => absurd ((hon 12 (by kernel_rfl)).symm.trans h1_) (by decide), Q_HO331, Q_HA_HO331, Q_HI293_e12, Q_BK289_e15, Q_X13_⟩
          refine steps_cons ?_ ?_
          · rintro b a w' ⟨v330, adz_v330, m13_, ha, Q_HO297, Q_BK289, Q_BK300, Q_HI293, Q_HB, Q_HI293_e3, Q_HI293_e9, Q_HO331, Q_HA_HO331, Q_HI293_e12, Q_BK289_e15, Q_X13_⟩ hb_ hon hoff
            refine ⟨_, rfl, fun K hK => ?_⟩
            have e32 : a.tmps[32]? = some (.int .i64 (rd y329 t332)) := by rw [ha]; exact putSel_on (e := (14, 32, .int .i64 (rd y329 t332))) 9 rfl rfl (hon 14 (by kernel_rfl)) rfl
            replace ha := Aside0.mk ha
            have HO297 := Aside0.mk Q_HO297
            have BK300 := Aside0.mk Q_BK300
            have HB := Aside0.mk Q_HB
            have HO331 := Aside0.mk (Q_HO331 (hon 10 (by kernel_rfl)))
            have HA_HO331 := Aside0.mk (Q_HA_HO331 (hon 10 (by kernel_rfl)))
            have HI293 := Aside0.mk (Q_HI293_e12 (hon 12 (by kernel_rfl)))
            have BK289 := Aside0.mk (Q_BK289_e15 (hon 15 (by kernel_rfl)))
            refine value_ (w1 := w') (v := .int .i64 (rd y329 t332)) (by rfl) rfl ?_ ?_
            · go_simp
              (try simp only [i64_w])
              try rfl
            refine hK.out _ _ ⟨v330, adz_v330, m13_, (by rw [ha.out]; exact putSel_upk 11 hb_ rfl rfl rfl), Q_HO297, fun h0_ => absurd ((hon 15 (by kernel_rfl)).symm.trans h0_) (by decide), Q_BK300, fun h0_ => absurd ((hon 3 (by kernel_rfl)).symm.trans h0_) (by decide), Q_HB, fun _ h1_ => absurd ((hon 9 (by kernel_rfl)).symm.trans h1_) (by decide), fun _ h1_ => absurd ((hon 12 (by kernel_rfl)).symm.trans h1_) (by decide), Q_HO331, Q_HA_HO331, Q_HI293_e12, Q_BK289_e15, Q_X13_⟩
          exact steps_nil
        rintro b a w63 hall ⟨v330, adz_v330, m13_, ha, Q_HO297, Q_BK289, Q_BK300, Q_HI293, Q_HB, Q_HI293_e3, Q_HI293_e9, Q_HO331, Q_HA_HO331, Q_HI293_e12, Q_BK289_e15, Q_X13_⟩
        clear BK289 BK300 HB HI293 HO297
        have hb0_ := hall 0 (by kernel_rfl)
        have hb3_ := hall 3 (by kernel_rfl)
        have hb6_ := hall 6 (by kernel_rfl)
        have hb7_ := hall 7 (by kernel_rfl)
        have hb8_ := hall 8 (by kernel_rfl)
        have hb9_ := hall 9 (by kernel_rfl)
        have hb10_ := hall 10 (by kernel_rfl)
        have hb12_ := hall 12 (by kernel_rfl)
        have hb13_ := hall 13 (by kernel_rfl)
        have hb14_ := hall 14 (by kernel_rfl)
        have hb15_ := hall 15 (by kernel_rfl)
        have hb16_ := hall 16 (by kernel_rfl)
        have hb17_ := hall 17 (by kernel_rfl)
        subst ha
        obtain rfl := Q_X13_ hb13_
        simp only [putSel, hb0_, hb3_, hb6_, hb7_, hb8_, hb9_, hb10_, hb12_, hb13_, hb14_, hb15_, hb16_, hb17_, if_true, Act.put, List.setIfInBounds_toArray, List.set_cons_zero, List.set_cons_succ]
        have HO297 := Aside0.mk Q_HO297
        clear Q_HO297
        clear Q_BK289
        have BK300 := Aside0.mk Q_BK300
        clear Q_BK300
        clear Q_HI293
        have HB := Aside0.mk Q_HB
        clear Q_HB
        clear Q_HI293_e3
        clear Q_HI293_e9
        have HO331 := Aside0.mk (Q_HO331 hb10_)
        clear Q_HO331
        have HA_HO331 := Aside0.mk (Q_HA_HO331 hb10_)
        clear Q_HA_HO331
        have HI293 := Aside0.mk (Q_HI293_e12 hb12_)
        clear Q_HI293_e12
        have BK289 := Aside0.mk (Q_BK289_e15 hb15_)
        clear Q_BK289_e15
        clear hall hb0_ hb3_ hb6_ hb7_ hb8_ hb9_ hb10_ hb12_ hb13_ hb14_ hb15_ hb16_ hb17_
        obtain ⟨co64, eo64⟩ := HA_HO331.out
        clear HA_HO331
        subst eo64
        try go_wp2
        refine bodyPost_ret (results_ctt rfl _ _ gb289 25 #[.int .i64 t294, .slice Ao51 t295.length co51] (0, 0) _ rfl (by (with_reducible repeat (first | refine blk_drewN ?_ _ | refine blk_drew ?_ | refine blk_alloc ?_ _)); exact BK289.out) Try.underlying25 rfl (by kernel_rfl)) rfl ?_
        exact ⟨_, by first | rfl | (simp [errW_none, errW_some] <;> rfl) | (simp only [← hji38, ← hji39]; first | rfl | (simp [errW_none, errW_some] <;> rfl)) | (simp [*, errW_none, errW_some] <;> rfl), by (with_reducible repeat (first | apply Kd.R_alloc | apply Kd.R_drewN | apply Kd.R_drew)); exact HO297.out, by repeat (first | (with_reducible first | exact HB.out | apply below_alloc | apply pw_below_drewN | apply below_drew1 | refine below_set ?_ (IsS73.ge HI293.out) | refine below_set ?_ GE289.out | refine below_set ?_ GE300.out) | exact HB.out)⟩
      · rw [if_neg c43] at H
        exact absurd H (by simp)
    · rw [if_neg c42] at H
      exact absurd H (by simp)

end Go.Proofs.Ytcbhepghmmbdmaa.QFnRankSelect
