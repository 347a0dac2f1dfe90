-- WRITTEN BY A PROGRAM OF THIS SESSION (wip/tools/print2.py) out of Lean's own print of the loaded program; Lean checks every row.
import Derived.Test.YtcbhepghmmbdmaaQFnBitsJoinx0
import Derived.Test.YtcbhepghmmbdmaaQFnBitsJoinx2
import Derived.Test.YtcbhepghmmbdmaaQFnBitsJoinx6
import Derived.Test.YtcbhepghmmbdmaaQFnBitsJoinx7
namespace Go.Proofs.Ytcbhepghmmbdmaa.QFnBitsJoin
open Go.RowKit Go.Proofs.YtcbhepghmmbdmaaW.PrintWords Go.Proofs.YtcbhepghmmbdmaaW.PrintLast Go.Proofs.YtcbhepghmmbdmaaW.PrintMore
open Go.Proofs.YtcbhepghmmbdmaaW.PrintWords renaming below_alloc → ba, pw_below_drewN → bw, below_drew1 → b1, below_set → bs, blk_drewN → bN, blk_drew → bD, blk_alloc → bA, below_step → bt, blk_below → bb, gate_callee → gc, gate_dst → gd, Aside0 → As
open Go.Proofs.YtcbhepghmmbdmaaW.PrintWords.Kd renaming R_alloc → rA, R_drewN → rN, R_drew → rD, R_slice → rS, R_below → rB, R_elder' → rE, R_lower → rL, R_new' → rW, R_reads' → rR, C_alloc → cA, C_drewN → cN, C_drew → cD
open Bool renaming true → T_, false → F_
attribute [local go_sem] max2_int min2_int max_two min_two max_three min_three max_four min_four   -- for this text's walks alone
set_option linter.unusedVariables false
set_option linter.unusedSimpArgs false

/-! ### spec_l01Cur_badBits: function 61 -/
def spec_l01Cur_badBits.f (k : Nat) (s0_0 : List Int) (s0_1 : Int) (s0_2 : Int) : Option (Int × List Int × Int × Int) := (spec_l01Cur_row.f k s0_0 s0_1 s0_2).bind fun bt308 => ((spec_BitsOf.f k bt308.1).bind fun bt313 => ((spec_l01Cur_pick.f s0_0 bt308.2.1 bt308.2.2 14).bind fun bt319 => (if bt319.1 = 0 then ((spec_l01Cur_raw.f s0_0 bt319.2.1 bt319.2.2).bind fun bt322 => ((some (([bt322.1, wrap64 (bt313.1 + 1), wrap64 (bt313.1 - 1)] : List Int) : List Int)).bind fun y325 => ((spec_l01Cur_pick.f s0_0 bt322.2.1 bt322.2.2 3).bind fun bt328 => (if 0 ≤ bt328.1 then (if bt328.1 < (y325.length : Int) then (some (rd y325 bt328.1, bt313.2.1, bt328.2.1, bt328.2.2)) else (none)) else (none))))) else (if bt319.1 = 1 then ((spec_l01Cur_pick.f s0_0 bt319.2.1 bt319.2.2 2).bind fun bt332 => (if bt313.2.1.length < 17592186044416 then (some (bt313.1, (bt313.2.1 ++ [IntKind.u64.wrap (bt332.1)]), bt332.2.1, bt332.2.2)) else (none))) else (if bt319.1 = 2 then (if (bt313.2.1.length : Int) > 0 then ((spec_l01Cur_pick.f s0_0 bt319.2.1 bt319.2.2 (bt313.2.1.length : Int)).bind fun bt338 => (if 0 ≤ bt338.1 then (if bt338.1 < (bt313.2.1.length : Int) then (some (bt313.1, (bt313.2.1.set (bt338.1 : Int).toNat 18446744073709551615), bt338.2.1, bt338.2.2)) else (none)) else (none))) else (some (bt313.1, bt313.2.1, bt319.2.1, bt319.2.2))) else (some (bt313.1, bt313.2.1, bt319.2.1, bt319.2.2)))))))
theorem spec_l01Cur_badBits.mono : ∀ a0 a1 a2 k, LeO (spec_l01Cur_badBits.f k a0 a1 a2) (spec_l01Cur_badBits.f (k + 1) a0 a1 a2) := by
 intro a0 a1 a2 k
 unfold spec_l01Cur_badBits.f
 repeat' first
   | (with_reducible exact spec_BitsOf.mono _ _)
   | (with_reducible exact spec_l01Cur_row.mono _ _ _ _)
   | (with_reducible exact LeO.refl _)
   | (with_reducible exact LeO.none _)
   | (with_reducible refine LeO.ite ?_ ?_)
   | (with_reducible refine LeO.bind ?_ (fun _ => ?_))
   | exact spec_BitsOf.mono _ _
   | exact spec_l01Cur_row.mono _ _ _ _
   | exact LeO.none _
   | refine LeO.ite ?_ ?_
   | refine LeO.bind ?_ (fun _ => ?_)
def spec_l01Cur_badBits.T4 : Bool × List (List Nat × List Nat) := (true, [([], []), ([0], [0]), ([], []), ([2], [2]), ([3], [3]), ([], []), ([5], [5]), ([6], [6]), ([1, 4, 7], [1, 4, 7]), ([], []), ([9, 1], [9]), ([8, 10], [8, 10]), ([11], [11]), ([0, 1, 2, 3, 4, 5, 6, 7, 8, 9, 10, 11, 12], []), ([13, 12, 10, 0, 1, 2, 3, 4, 5, 6, 7, 8, 9, 10, 11, 12], [12, 13])])
def spec_l01Cur_badBits.B4 : List Nat := [0, 1, 0, 4, 12, 0, 32, 96, 255, 0, 515, 2047, 4095, 8191, 16383]
theorem spec_l01Cur_badBits.tab4 : rtab .any (opsOf Try.f61 4) = spec_l01Cur_badBits.T4 := by kernel_rfl
theorem spec_l01Cur_badBits.bits4 : waitsOk spec_l01Cur_badBits.T4.2 spec_l01Cur_badBits.B4 = true := by kernel_rfl
def spec_l01Cur_badBits.T6 : Bool × List (List Nat × List Nat) := (true, [([], []), ([0], [0]), ([], []), ([2], [2]), ([3], [3]), ([4], [4]), ([1, 5, 3], [1, 5]), ([0, 1, 2, 3, 4, 5, 6], []), ([7, 6, 6, 0, 1, 2, 3, 4, 5, 6], [6, 7])])
def spec_l01Cur_badBits.B6 : List Nat := [0, 1, 0, 4, 12, 28, 63, 127, 255]
theorem spec_l01Cur_badBits.tab6 : rtab .any (opsOf Try.f61 6) = spec_l01Cur_badBits.T6 := by kernel_rfl
theorem spec_l01Cur_badBits.bits6 : waitsOk spec_l01Cur_badBits.T6.2 spec_l01Cur_badBits.B6 = true := by kernel_rfl
def spec_l01Cur_badBits.T9 : Bool × List (List Nat × List Nat) := (true, [([], []), ([0], [0]), ([], []), ([], []), ([3], [3]), ([4], [4]), ([2, 5], [2, 5]), ([1, 6, 0, 1, 2, 3, 4, 5, 6], [1, 6]), ([7, 6, 0, 1, 2, 3, 4, 5, 6], [7])])
def spec_l01Cur_badBits.B9 : List Nat := [0, 1, 0, 0, 8, 24, 60, 127, 255]
theorem spec_l01Cur_badBits.tab9 : rtab .any (opsOf Try.f61 9) = spec_l01Cur_badBits.T9 := by kernel_rfl
theorem spec_l01Cur_badBits.bits9 : waitsOk spec_l01Cur_badBits.T9.2 spec_l01Cur_badBits.B9 = true := by kernel_rfl
set_option maxHeartbeats 8000000 in
set_option maxRecDepth 100000 in
theorem spec_l01Cur_badBits.calls (k : Nat) (g : Nat) (s0_0 : List Int) (s0_1 : Int) (s0_2 : Int) (r1 : Int) (r2 : List Int) (r3 : Int) (r4 : Int) (w0 w : World) (hI : IsS73 w0 w g s0_0 s0_1 s0_2) (hB : Below w0.heap.size w0 w) (h : spec_l01Cur_badBits.f k s0_0 s0_1 s0_2 = some (r1, r2, r3, r4)) :
  Calls Try.prog 61 #[.pointer (some ⟨g, 0, none⟩)] w fun e w' => ∃ v1_ : Value, e = .returned (.agg #[.int .i64 r1, v1_]) ∧ Kd.R (Kd.int .u64) 53 w' w.heap.size (fun _ => True) v1_ r2 ∧ IsS73 w0 w' g s0_0 r3 r4 ∧ Below w0.heap.size w0 w' ∧ KeepBut w w' g none := by
 have hu25 := Try.underlying25
 have HI0 := As.mk hI
 have HK := As.mk (KeepBut.refl w g none)
 have HL := As.mk hB.size
 clear hI
 have HW0 := As.mk hB.size
 have HB := As.mk hB
 clear hB
 have H : ((spec_l01Cur_row.f k s0_0 s0_1 s0_2).bind fun bt308 => ((spec_BitsOf.f k bt308.1).bind fun bt313 => ((spec_l01Cur_pick.f s0_0 bt308.2.1 bt308.2.2 14).bind fun bt319 => (if bt319.1 = 0 then ((spec_l01Cur_raw.f s0_0 bt319.2.1 bt319.2.2).bind fun bt322 => ((some (([bt322.1, wrap64 (bt313.1 + 1), wrap64 (bt313.1 - 1)] : List Int) : List Int)).bind fun y325 => ((spec_l01Cur_pick.f s0_0 bt322.2.1 bt322.2.2 3).bind fun bt328 => (if 0 ≤ bt328.1 then (if bt328.1 < (y325.length : Int) then (some (rd y325 bt328.1, bt313.2.1, bt328.2.1, bt328.2.2)) else (none)) else (none))))) else (if bt319.1 = 1 then ((spec_l01Cur_pick.f s0_0 bt319.2.1 bt319.2.2 2).bind fun bt332 => (if bt313.2.1.length < 17592186044416 then (some (bt313.1, (bt313.2.1 ++ [IntKind.u64.wrap (bt332.1)]), bt332.2.1, bt332.2.2)) else (none))) else (if bt319.1 = 2 then (if (bt313.2.1.length : Int) > 0 then ((spec_l01Cur_pick.f s0_0 bt319.2.1 bt319.2.2 (bt313.2.1.length : Int)).bind fun bt338 => (if 0 ≤ bt338.1 then (if bt338.1 < (bt313.2.1.length : Int) then (some (bt313.1, (bt313.2.1.set (bt338.1 : Int).toNat 18446744073709551615), bt338.2.1, bt338.2.2)) else (none)) else (none))) else (some (bt313.1, bt313.2.1, bt319.2.1, bt319.2.2))) else (some (bt313.1, bt313.2.1, bt319.2.1, bt319.2.2)))))))) = some (r1, r2, r3, r4) := h
 clear h
 replace H := Option.bind_eq_some_iff.mp H
 obtain ⟨⟨t308, t311, t312⟩, A20, H⟩ := H
 replace H : ((spec_BitsOf.f k t308).bind fun bt313 => ((spec_l01Cur_pick.f s0_0 t311 t312 14).bind fun bt319 => (if bt319.1 = 0 then ((spec_l01Cur_raw.f s0_0 bt319.2.1 bt319.2.2).bind fun bt322 => ((some (([bt322.1, wrap64 (bt313.1 + 1), wrap64 (bt313.1 - 1)] : List Int) : List Int)).bind fun y325 => ((spec_l01Cur_pick.f s0_0 bt322.2.1 bt322.2.2 3).bind fun bt328 => (if 0 ≤ bt328.1 then (if bt328.1 < (y325.length : Int) then (some (rd y325 bt328.1, bt313.2.1, bt328.2.1, bt328.2.2)) else (none)) else (none))))) else (if bt319.1 = 1 then ((spec_l01Cur_pick.f s0_0 bt319.2.1 bt319.2.2 2).bind fun bt332 => (if bt313.2.1.length < 17592186044416 then (some (bt313.1, (bt313.2.1 ++ [IntKind.u64.wrap (bt332.1)]), bt332.2.1, bt332.2.2)) else (none))) else (if bt319.1 = 2 then (if (bt313.2.1.length : Int) > 0 then ((spec_l01Cur_pick.f s0_0 bt319.2.1 bt319.2.2 (bt313.2.1.length : Int)).bind fun bt338 => (if 0 ≤ bt338.1 then (if bt338.1 < (bt313.2.1.length : Int) then (some (bt313.1, (bt313.2.1.set (bt338.1 : Int).toNat 18446744073709551615), bt338.2.1, bt338.2.2)) else (none)) else (none))) else (some (bt313.1, bt313.2.1, bt319.2.1, bt319.2.2))) else (some (bt313.1, bt313.2.1, bt319.2.1, bt319.2.2))))))) = some (r1, r2, r3, r4) := H
 have A2 := As.mk A20
 clear A20
 replace H := Option.bind_eq_some_iff.mp H
 obtain ⟨⟨t313, t314, t317⟩, A30, H⟩ := H
 replace H : ((spec_l01Cur_pick.f s0_0 t311 t312 14).bind fun bt319 => (if bt319.1 = 0 then ((spec_l01Cur_raw.f s0_0 bt319.2.1 bt319.2.2).bind fun bt322 => ((some (([bt322.1, wrap64 (t313 + 1), wrap64 (t313 - 1)] : List Int) : List Int)).bind fun y325 => ((spec_l01Cur_pick.f s0_0 bt322.2.1 bt322.2.2 3).bind fun bt328 => (if 0 ≤ bt328.1 then (if bt328.1 < (y325.length : Int) then (some (rd y325 bt328.1, t314, bt328.2.1, bt328.2.2)) else (none)) else (none))))) else (if bt319.1 = 1 then ((spec_l01Cur_pick.f s0_0 bt319.2.1 bt319.2.2 2).bind fun bt332 => (if t314.length < 17592186044416 then (some (t313, (t314 ++ [IntKind.u64.wrap (bt332.1)]), bt332.2.1, bt332.2.2)) else (none))) else (if bt319.1 = 2 then (if (t314.length : Int) > 0 then ((spec_l01Cur_pick.f s0_0 bt319.2.1 bt319.2.2 (t314.length : Int)).bind fun bt338 => (if 0 ≤ bt338.1 then (if bt338.1 < (t314.length : Int) then (some (t313, (t314.set (bt338.1 : Int).toNat 18446744073709551615), bt338.2.1, bt338.2.2)) else (none)) else (none))) else (some (t313, t314, bt319.2.1, bt319.2.2))) else (some (t313, t314, bt319.2.1, bt319.2.2)))))) = some (r1, r2, r3, r4) := H
 have A3 := As.mk A30
 clear A30
 replace H := Option.bind_eq_some_iff.mp H
 obtain ⟨⟨t319, t320, t321⟩, A40, H⟩ := H
 replace H : (if t319 = 0 then ((spec_l01Cur_raw.f s0_0 t320 t321).bind fun bt322 => ((some (([bt322.1, wrap64 (t313 + 1), wrap64 (t313 - 1)] : List Int) : List Int)).bind fun y325 => ((spec_l01Cur_pick.f s0_0 bt322.2.1 bt322.2.2 3).bind fun bt328 => (if 0 ≤ bt328.1 then (if bt328.1 < (y325.length : Int) then (some (rd y325 bt328.1, t314, bt328.2.1, bt328.2.2)) else (none)) else (none))))) else (if t319 = 1 then ((spec_l01Cur_pick.f s0_0 t320 t321 2).bind fun bt332 => (if t314.length < 17592186044416 then (some (t313, (t314 ++ [IntKind.u64.wrap (bt332.1)]), bt332.2.1, bt332.2.2)) else (none))) else (if t319 = 2 then (if (t314.length : Int) > 0 then ((spec_l01Cur_pick.f s0_0 t320 t321 (t314.length : Int)).bind fun bt338 => (if 0 ≤ bt338.1 then (if bt338.1 < (t314.length : Int) then (some (t313, (t314.set (bt338.1 : Int).toNat 18446744073709551615), bt338.2.1, bt338.2.2)) else (none)) else (none))) else (some (t313, t314, t320, t321))) else (some (t313, t314, t320, t321))))) = some (r1, r2, r3, r4) := H
 have A4 := As.mk A40
 clear A40
 by_cases c5 : t319 = 0
 ·rw [if_pos c5] at H
  have c5b0 : (t319 == 0) = true := beq_iff_eq.mpr c5
  have c5b1 : (t319 != 0) = false := bne_eq_false_iff_eq.mpr c5
  clear c5
  replace H := Option.bind_eq_some_iff.mp H
  obtain ⟨⟨t322, t323, t324⟩, A60, H⟩ := H
  replace H : ((some (([t322, wrap64 (t313 + 1), wrap64 (t313 - 1)] : List Int) : List Int)).bind fun y325 => ((spec_l01Cur_pick.f s0_0 t323 t324 3).bind fun bt328 => (if 0 ≤ bt328.1 then (if bt328.1 < (y325.length : Int) then (some (rd y325 bt328.1, t314, bt328.2.1, bt328.2.2)) else (none)) else (none)))) = some (r1, r2, r3, r4) := H
  have A6 := As.mk A60
  clear A60
  obtain ⟨y325, hy325⟩ : ∃ y_ : List Int, y_ = (([t322, wrap64 (t313 + 1), wrap64 (t313 - 1)] : List Int)) := ⟨_, rfl⟩
  replace H : ((spec_l01Cur_pick.f s0_0 t323 t324 3).bind fun bt328 => (if 0 ≤ bt328.1 then (if bt328.1 < (y325.length : Int) then (some (rd y325 bt328.1, t314, bt328.2.1, bt328.2.2)) else (none)) else (none))) = some (r1, r2, r3, r4) := by first | (rw [hy325]; with_reducible exact H) | (have H2_ := (Option.bind_some _ _).symm.trans H; rw [hy325]; with_reducible exact H2_) | (have H2_ := (Option.bind_some _ _).symm.trans H; with_reducible exact H2_) | with_reducible exact H | (rw [hy325]; exact H) | exact H
  have Ny325 := As.mk hy325
  clear hy325
  replace H := Option.bind_eq_some_iff.mp H
  obtain ⟨⟨t328, t329, t330⟩, A70, H⟩ := H
  replace H : (if 0 ≤ t328 then (if t328 < (y325.length : Int) then (some (rd y325 t328, t314, t329, t330)) else (none)) else (none)) = some (r1, r2, r3, r4) := H
  have A7 := As.mk A70
  clear A70
  by_cases c8 : 0 ≤ t328
  ·rw [if_pos c8] at H
   have c8b0 : decide (0 ≤ t328) = true := decide_eq_true c8
   clear c8
   by_cases c9 : t328 < (y325.length : Int)
   ·rw [if_pos c9] at H
    have c9b0 : decide (t328 < (y325.length : Int)) = true := decide_eq_true c9
    clear c9
    simp only [Option.some.injEq, Prod.mk.injEq] at H
    obtain ⟨rfl, rfl, rfl, rfl⟩ := H
    go_enter Try.func61, Try.ntmps61
    try go_wp2_with (first | ((with_reducible refine gd (N := 2) rfl ?_); refine box_event ?hg (N := 2) ?hd (cs := #[.int .i64 0, .slice none 0 0]) (t := 25) ?hr ?_; (case hd => rfl); (case hg => rfl); (case hr => first | (go_simp; done) | (go_simp; rfl)); intro gb307 hg w10 hbox hb; have n0_ := As.mk (IsS73.below (by repeat (first | (with_reducible first | exact HI0.out | apply IsS73.alloc | apply IsS73.drewN | apply IsS73.drew | apply IsS73.set_1 | apply IsS73.set_2) | exact HI0.out)) hb); have n1_ := As.mk (KeepBut.trans (by repeat (first | (with_reducible first | exact HK.out | apply KeepBut.set_ | apply keep_drewN | apply keep_drew | apply keep_alloc) | exact HK.out)) (KeepBut.of_below hb g none) (.inl rfl)); have n2_ := As.mk (bt (by repeat (first | (with_reducible first | exact HB.out | apply ba | apply bw | apply b1 | refine bs ?_ (IsS73.ge HI0.out)) | exact HB.out)) hb); have n3_ := As.mk (hbox); have n4_ := As.mk ((by rw [hg]; exact (keep_size (w := w) (g := g) (row := none) (by repeat (first | (with_reducible first | exact HK.out | apply KeepBut.set_ | apply keep_drewN | apply keep_drew | apply keep_alloc) | exact HK.out))) : w.heap.size ≤ gb307)); have n5_ := As.mk ((Nat.le_trans HW0.out (by rw [hg]; exact (keep_size (w := w) (g := g) (row := none) (by repeat (first | (with_reducible first | exact HK.out | apply KeepBut.set_ | apply keep_drewN | apply keep_drew | apply keep_alloc) | exact HK.out))) : w.heap.size ≤ gb307) : w0.heap.size ≤ gb307)); have n6_ := As.mk ((by rw [hg]; exact Nat.ne_of_lt (IsS73.lt (show IsS73 w0 _ g s0_0 s0_1 s0_2 from by repeat (first | (with_reducible first | exact HI0.out | apply IsS73.alloc | apply IsS73.drewN | apply IsS73.drew | apply IsS73.set_1 | apply IsS73.set_2) | exact HI0.out))) : g ≠ gb307)); have n7_ := As.mk ((by rw [hg]; exact Nat.ne_of_gt (IsS73.lt (show IsS73 w0 _ g s0_0 s0_1 s0_2 from by repeat (first | (with_reducible first | exact HI0.out | apply IsS73.alloc | apply IsS73.drewN | apply IsS73.drew | apply IsS73.set_1 | apply IsS73.set_2) | exact HI0.out))) : gb307 ≠ g)); clear HI0; clear HK; clear HB; have HI0 := n0_; have HK := n1_; have HB := n2_; have BK307 := n3_; have GW307 := n4_; have GE307 := n5_; have NB0_307 := n6_; have NB307_0 := n7_; clear n0_ n1_ n2_ n3_ n4_ n5_ n6_ n7_; clear hb hbox hg) | ((with_reducible refine gc (f := 69) rfl ?_); refine goesL_ (some 7) rfl rfl Try.func69 (by kernel_rfl) rfl #[.pointer (some ⟨g, 0, none⟩)] rfl (by (try simp only [List.map_toArray, List.map_cons, List.map_nil]); first | done | rfl | (simp only [List.length_drop, List.length_take]; rfl)) ?_; (with_reducible refine (spec_l01Cur_row.calls k g s0_0 s0_1 s0_2 t308 t311 t312 w0 _ ?side1 ?side2 A2.out).mono ?_); (case side1 => repeat (first | (with_reducible first | exact HI0.out | apply IsS73.alloc | apply IsS73.drewN | apply IsS73.drew | apply IsS73.set_1 | apply IsS73.set_2 | refine IsS73.far ?_ NB0_307.out _) | exact HI0.out)); (case side2 => repeat (first | (with_reducible first | exact HB.out | apply ba | apply bw | apply b1 | refine bs ?_ (IsS73.ge HI0.out) | refine bs ?_ GE307.out) | exact HB.out)); rintro e w11 ⟨v309, rfl, ho0, hi, hb, hk⟩; refine ⟨_, rfl, ?_⟩; have n0_ := As.mk (KeepBut.blk hk (g' := gb307) (o := .cells #[.int .i64 0, .slice none 0 0] 25 (0, 0)) (by (with_reducible repeat first | apply bN | apply bD | apply bA); exact BK307.out) NB307_0.out (by simp)); have n1_ := As.mk (rL ho0 (keep_size (w := w) (g := g) (row := none) (by repeat (first | (with_reducible first | exact HK.out | apply KeepBut.set_ | apply keep_drewN | apply keep_drew | apply keep_alloc | refine keep_far ?_ GW307.out _) | exact HK.out)))); have n2_ := As.mk (KeepBut.trans (by repeat (first | (with_reducible first | exact HK.out | apply KeepBut.set_ | apply keep_drewN | apply keep_drew | apply keep_alloc | refine keep_far ?_ GW307.out _) | exact HK.out)) hk (.inl rfl)); have n3_ := As.mk (hb); have n4_ := As.mk (hi); clear BK307; clear HK; clear HB; clear HI0; have BK307 := n0_; have HO310 := n1_; have HK := n2_; have HB := n3_; have HI0 := n4_; clear n0_ n1_ n2_ n3_ n4_; (try clear hb); (try clear hb2); (try clear hk); (try clear hi); (try clear ho0); obtain ⟨Ao12, co12, eo12⟩ := rS HO310.out; subst eo12) | ((with_reducible refine gc (f := 13) rfl ?_); refine goesL_ (some 8) rfl rfl Try.func13 (by kernel_rfl) rfl #[.slice Ao12 t308.length co12] rfl (by (try simp only [List.map_toArray, List.map_cons, List.map_nil]); first | done | rfl | (simp only [List.length_drop, List.length_take]; rfl)) ?_; (with_reducible refine (spec_BitsOf.calls k _ _ t308 t313 t314 t317 _ ?side1 ?side2 A3.out).mono ?_); (case side1 => repeat (first | exact (rR HO310.out).2.2 | (with_reducible refine cA ?_ _) | (with_reducible refine cN ?_ _) | (with_reducible refine cD ?_))); (case side2 => exact (rR HO310.out).2.1); rintro e w13 ⟨v315, rfl, ho0, hb⟩; refine ⟨_, rfl, ?_⟩; have n0_ := As.mk (rB (by (with_reducible repeat first | apply rA | apply rN | apply rD); exact HO310.out) hb); have n1_ := As.mk (rL ho0 (keep_size (w := w) (g := g) (row := none) (by repeat (first | (with_reducible first | exact HK.out | apply KeepBut.set_ | apply keep_drewN | apply keep_drew | apply keep_alloc | refine keep_far ?_ GW307.out _) | exact HK.out)))); have n2_ := As.mk (IsS73.below (by repeat (first | (with_reducible first | exact HI0.out | apply IsS73.alloc | apply IsS73.drewN | apply IsS73.drew | apply IsS73.set_1 | apply IsS73.set_2 | refine IsS73.far ?_ NB0_307.out _) | exact HI0.out)) hb); have n3_ := As.mk (bb (g := gb307) (o := .cells #[.int .i64 0, .slice none 0 0] 25 (0, 0)) (by (with_reducible repeat first | apply bN | apply bD | apply bA); exact BK307.out) hb); have n4_ := As.mk (KeepBut.trans (by repeat (first | (with_reducible first | exact HK.out | apply KeepBut.set_ | apply keep_drewN | apply keep_drew | apply keep_alloc | refine keep_far ?_ GW307.out _) | exact HK.out)) (KeepBut.of_below hb g none) (.inl rfl)); have n5_ := As.mk (bt (by repeat (first | (with_reducible first | exact HB.out | apply ba | apply bw | apply b1 | refine bs ?_ (IsS73.ge HI0.out) | refine bs ?_ GE307.out) | exact HB.out)) hb); clear HO310; clear HI0; clear BK307; clear HK; clear HB; have HO310 := n0_; have HO316 := n1_; have HI0 := n2_; have BK307 := n3_; have HK := n4_; have HB := n5_; clear n0_ n1_ n2_ n3_ n4_ n5_; (try clear hb); (try clear hb2); (try clear hk); (try clear hi); (try clear ho0)) | ((with_reducible refine gd (N := 3) rfl ?_); refine box_event ?hg (N := 3) ?hd (cs := #[.int .i64 0, .slice none 0 0]) (t := 25) ?hr ?_; (case hd => rfl); (case hg => rfl); (case hr => first | (go_simp; done) | (go_simp; rfl)); intro gb318 hg w14 hbox hb; have n0_ := As.mk (rB (by (with_reducible repeat first | apply rA | apply rN | apply rD); exact HO310.out) hb); have n1_ := As.mk (rB (by (with_reducible repeat first | apply rA | apply rN | apply rD); exact HO316.out) hb); have n2_ := As.mk (IsS73.below (by repeat (first | (with_reducible first | exact HI0.out | apply IsS73.alloc | apply IsS73.drewN | apply IsS73.drew | apply IsS73.set_1 | apply IsS73.set_2 | refine IsS73.far ?_ NB0_307.out _) | exact HI0.out)) hb); have n3_ := As.mk (bb (g := gb307) (o := .cells #[.int .i64 0, .slice none 0 0] 25 (0, 0)) (by (with_reducible repeat first | apply bN | apply bD | apply bA); exact BK307.out) hb); have n4_ := As.mk (KeepBut.trans (by repeat (first | (with_reducible first | exact HK.out | apply KeepBut.set_ | apply keep_drewN | apply keep_drew | apply keep_alloc | refine keep_far ?_ GW307.out _) | exact HK.out)) (KeepBut.of_below hb g none) (.inl rfl)); have n5_ := As.mk (bt (by repeat (first | (with_reducible first | exact HB.out | apply ba | apply bw | apply b1 | refine bs ?_ (IsS73.ge HI0.out) | refine bs ?_ GE307.out) | exact HB.out)) hb); have n6_ := As.mk (hbox); have n7_ := As.mk ((by rw [hg]; exact (keep_size (w := w) (g := g) (row := none) (by repeat (first | (with_reducible first | exact HK.out | apply KeepBut.set_ | apply keep_drewN | apply keep_drew | apply keep_alloc | refine keep_far ?_ GW307.out _) | exact HK.out))) : w.heap.size ≤ gb318)); have n8_ := As.mk ((Nat.le_trans HW0.out (by rw [hg]; exact (keep_size (w := w) (g := g) (row := none) (by repeat (first | (with_reducible first | exact HK.out | apply KeepBut.set_ | apply keep_drewN | apply keep_drew | apply keep_alloc | refine keep_far ?_ GW307.out _) | exact HK.out))) : w.heap.size ≤ gb318) : w0.heap.size ≤ gb318)); have n9_ := As.mk ((by rw [hg]; exact Nat.ne_of_lt (blk_lt (g := gb307) (o := .cells #[.int .i64 0, .slice none 0 0] 25 (0, 0)) (by (with_reducible repeat first | apply bN | apply bD | apply bA); exact BK307.out)) : gb307 ≠ gb318)); have n10_ := As.mk ((by rw [hg]; exact Nat.ne_of_gt (blk_lt (g := gb307) (o := .cells #[.int .i64 0, .slice none 0 0] 25 (0, 0)) (by (with_reducible repeat first | apply bN | apply bD | apply bA); exact BK307.out)) : gb318 ≠ gb307)); have n11_ := As.mk ((by rw [hg]; exact Nat.ne_of_lt (IsS73.lt (show IsS73 w0 _ g s0_0 t311 t312 from by repeat (first | (with_reducible first | exact HI0.out | apply IsS73.alloc | apply IsS73.drewN | apply IsS73.drew | apply IsS73.set_1 | apply IsS73.set_2 | refine IsS73.far ?_ NB0_307.out _) | exact HI0.out))) : g ≠ gb318)); have n12_ := As.mk ((by rw [hg]; exact Nat.ne_of_gt (IsS73.lt (show IsS73 w0 _ g s0_0 t311 t312 from by repeat (first | (with_reducible first | exact HI0.out | apply IsS73.alloc | apply IsS73.drewN | apply IsS73.drew | apply IsS73.set_1 | apply IsS73.set_2 | refine IsS73.far ?_ NB0_307.out _) | exact HI0.out))) : gb318 ≠ g)); clear HO310; clear HO316; clear HI0; clear BK307; clear HK; clear HB; have HO310 := n0_; have HO316 := n1_; have HI0 := n2_; have BK307 := n3_; have HK := n4_; have HB := n5_; have BK318 := n6_; have GW318 := n7_; have GE318 := n8_; have NB307_318 := n9_; have NB318_307 := n10_; have NB0_318 := n11_; have NB318_0 := n12_; clear n0_ n1_ n2_ n3_ n4_ n5_ n6_ n7_ n8_ n9_ n10_ n11_ n12_; clear hb hbox hg; have hnb15 := NB318_307.out; have hnc15 := NB307_318.out; have hnb16 := NB318_0.out; have hnc16 := NB0_318.out; have hcz17_0 : w14.cell? ⟨gb318, 0, none⟩ = some (.int .i64 0) := (blk_cell BK318.out 0).trans rfl; have hcz17_1 : w14.cell? ⟨gb318, 1, none⟩ = some (.slice none 0 0) := (blk_cell BK318.out 1).trans rfl; have hfz17_0 := blk_frozen BK318.out 0; have hfz17_1 := blk_frozen BK318.out 1; obtain ⟨Ao18, co18, eo18⟩ := rS HO316.out; subst eo18) | ((with_reducible refine gc (f := 62) rfl ?_); refine goesL_ (some 12) rfl rfl Try.func62 (by kernel_rfl) rfl #[.pointer (some ⟨g, 0, none⟩), .int .i64 14] rfl (by (try simp only [List.map_toArray, List.map_cons, List.map_nil]); first | done | rfl | (simp only [List.length_drop, List.length_take]; rfl)) ?_; (with_reducible refine (spec_l01Cur_pick.calls g s0_0 t311 t312 14 t319 t320 t321 w0 _ ?side1 ?side2 A4.out).mono ?_); (case side1 => repeat (first | (with_reducible first | exact HI0.out | apply IsS73.alloc | apply IsS73.drewN | apply IsS73.drew | apply IsS73.set_1 | apply IsS73.set_2 | refine IsS73.far ?_ NB0_307.out _ | refine IsS73.far ?_ NB0_318.out _) | exact HI0.out)); (case side2 => repeat (first | (with_reducible first | exact HB.out | apply ba | apply bw | apply b1 | refine bs ?_ (IsS73.ge HI0.out) | refine bs ?_ GE307.out | refine bs ?_ GE318.out) | exact HB.out)); rintro e w19 ⟨rfl, hi, hb, hk⟩; refine ⟨_, rfl, ?_⟩; have n0_ := As.mk (KeepBut.blk hk (g' := gb307) (o := .cells #[.int .i64 0, .slice none 0 0] 25 (0, 0)) (by (with_reducible repeat first | apply bN | apply bD | apply bA); refine blk_far ?_ NB307_318.out _; (with_reducible repeat first | apply bN | apply bD | apply bA); refine blk_far ?_ NB307_318.out _; (with_reducible repeat first | apply bN | apply bD | apply bA); exact BK307.out) NB307_0.out (by simp)); have n1_ := As.mk (Kd.R_mono (Kd.R_keep (IsS73.apart (show IsS73 w0 _ g s0_0 t311 t312 from by repeat (first | (with_reducible first | exact HI0.out | apply IsS73.alloc | apply IsS73.drewN | apply IsS73.drew | apply IsS73.set_1 | apply IsS73.set_2 | refine IsS73.far ?_ NB0_307.out _ | refine IsS73.far ?_ NB0_318.out _) | exact HI0.out)) (by (with_reducible repeat first | apply rA | apply rN | apply rD); exact (Kd.R_mono (Kd.R_far (p := ⟨gb318, 1, none⟩) (Kd.R_far (p := ⟨gb318, 0, none⟩) (Kd.R_types HO310.out BK318.out (by decide)) (fun _ hk => hk.2) (.int .i64 t313)) (fun _ hk => hk.2) (.slice Ao18 t314.length co18)) (fun _ h_ => h_.1))) (by decide)) hk (fun _ h => h.2)) (fun _ h => h.1)); have n2_ := As.mk (Kd.R_mono (Kd.R_keep (IsS73.apart (show IsS73 w0 _ g s0_0 t311 t312 from by repeat (first | (with_reducible first | exact HI0.out | apply IsS73.alloc | apply IsS73.drewN | apply IsS73.drew | apply IsS73.set_1 | apply IsS73.set_2 | refine IsS73.far ?_ NB0_307.out _ | refine IsS73.far ?_ NB0_318.out _) | exact HI0.out)) (by (with_reducible repeat first | apply rA | apply rN | apply rD); exact (Kd.R_mono (Kd.R_far (p := ⟨gb318, 1, none⟩) (Kd.R_far (p := ⟨gb318, 0, none⟩) (Kd.R_types HO316.out BK318.out (by decide)) (fun _ hk => hk.2) (.int .i64 t313)) (fun _ hk => hk.2) (.slice Ao18 t314.length co18)) (fun _ h_ => h_.1))) (by decide)) hk (fun _ h => h.2)) (fun _ h => h.1)); have n3_ := As.mk (KeepBut.blk hk (g' := gb318) (o := .cells #[.int .i64 t313, .slice Ao18 t314.length co18] 25 (0, 0)) (by (with_reducible repeat first | apply bN | apply bD | apply bA); refine blk_put (cs := #[.int .i64 t313, .slice none 0 0]) ?_ 1 _ rfl; (with_reducible repeat first | apply bN | apply bD | apply bA); refine blk_put (cs := #[.int .i64 0, .slice none 0 0]) ?_ 0 _ rfl; (with_reducible repeat first | apply bN | apply bD | apply bA); exact BK318.out) NB318_0.out (by simp)); have n4_ := As.mk (KeepBut.trans (by repeat (first | (with_reducible first | exact HK.out | apply KeepBut.set_ | apply keep_drewN | apply keep_drew | apply keep_alloc | refine keep_far ?_ GW307.out _ | refine keep_far ?_ GW318.out _) | exact HK.out)) hk (.inl rfl)); have n5_ := As.mk (hb); have n6_ := As.mk (hi); clear BK307; clear HO310; clear HO316; clear BK318; clear HK; clear HB; clear HI0; have BK307 := n0_; have HO310 := n1_; have HO316 := n2_; have BK318 := n3_; have HK := n4_; have HB := n5_; have HI0 := n6_; clear n0_ n1_ n2_ n3_ n4_ n5_ n6_; (try clear hb); (try clear hb2); (try clear hk); (try clear hi)))
    have pi331 : (0 ≤ (t328 : Int)) = True := eq_true (of_decide_eq_true (by first | (with_reducible assumption) | assumption))
    have qi331 : (t328 < (y325.length : Int)) = True := eq_true (of_decide_eq_true (by first | (with_reducible assumption) | assumption))
    have n0_ := As.mk (rD HO310.out)
    have n1_ := As.mk (rD HO316.out)
    have n2_ := As.mk (bD BK307.out)
    have n3_ := As.mk (bD BK318.out)
    have n4_ := As.mk (IsS73.drew HI0.out)
    have n5_ := As.mk (keep_drew HK.out)
    have n6_ := As.mk (b1 HB.out)
    clear HO310
    clear HO316
    clear BK307
    clear BK318
    clear HI0
    clear HK
    clear HB
    have HO310 := n0_
    have HO316 := n1_
    have BK307 := n2_
    have BK318 := n3_
    have HI0 := n4_
    have HK := n5_
    have HB := n6_
    clear n0_ n1_ n2_ n3_ n4_ n5_ n6_
    refine start_ (n := 15) (S := fun w' => w'.cell? ⟨gb318, 0, none⟩ = some (.int .i64 t313) ∧ w'.cell? ⟨gb318, 1, none⟩ = some (.slice Ao18 t314.length co18)) (ds := [14]) #[F_,F_,F_,F_,F_,F_,F_,F_,F_,F_,F_,F_,F_,F_,F_] (by kernel_rfl) rfl rfl ⟨(blk_cell BK318.out 0).trans rfl, (blk_cell BK318.out 1).trans rfl⟩ (fun hHeld => ?_); refine with_tabW spec_l01Cur_badBits.tab4 spec_l01Cur_badBits.bits4 (fun HT_ HW_ => ?_)
    generalize w19.drew = w20 at HO310 HO316 BK307 BK318 HI0 HK HB hHeld ⊢
    refine pure_ (i := 0) (N := some 15) (v := ?_) (a' := ?_) #[T_,F_,F_,F_,F_,F_,F_,F_,F_,F_,F_,F_,F_,F_,F_] rfl rfl (any_of HT_.out (by kernel_rfl)) (fun _ _ _ h => h) (Or.inl ⟨by rfl, ?_⟩) ?_ ?_
    rotate_left
    ·intro w'
     go_simp
     with_reducible rfl
    rotate_left
    ·simp only [Act.put, List.setIfInBounds_toArray, List.set_cons_zero, List.set_cons_succ, i64_w, i32_w]
     rfl
    refine pure_ (i := 2) (N := some 17) (v := ?_) (a' := ?_) #[T_,F_,T_,F_,F_,F_,F_,F_,F_,F_,F_,F_,F_,F_,F_] rfl rfl (any_of HT_.out (by kernel_rfl)) (fun _ _ _ h => h) (Or.inl ⟨by rfl, ?_⟩) ?_ ?_
    rotate_left
    ·intro w'
     go_simp
     with_reducible rfl
    rotate_left
    ·simp only [Act.put, List.setIfInBounds_toArray, List.set_cons_zero, List.set_cons_succ, i64_w, i32_w]
     rfl
    refine pure_ (i := 5) (N := some 20) (v := ?_) (a' := ?_) #[T_,F_,T_,F_,F_,T_,F_,F_,F_,F_,F_,F_,F_,F_,F_] rfl rfl (any_of HT_.out (by kernel_rfl)) (fun _ _ _ h => h) (Or.inl ⟨by rfl, ?_⟩) ?_ ?_
    rotate_left
    ·intro w'
     go_simp
     with_reducible rfl
    rotate_left
    ·simp only [Act.put, List.setIfInBounds_toArray, List.set_cons_zero, List.set_cons_succ, i64_w, i32_w]
     rfl
    refine pure_ (i := 9) (N := some 24) (v := ?_) (a' := ?_) #[T_,F_,T_,F_,F_,T_,F_,F_,F_,T_,F_,F_,F_,F_,F_] rfl rfl (any_of HT_.out (by kernel_rfl)) (fun _ _ _ h => h) (Or.inl ⟨by rfl, ?_⟩) ?_ ?_
    rotate_left
    ·intro w'
     go_simp
     with_reducible rfl
    rotate_left
    ·simp only [Act.put, List.setIfInBounds_toArray, List.set_cons_zero, List.set_cons_succ, i64_w, i32_w]
     rfl
    refine take_ (i := 3) (N := some 18) (v := ?_) (a' := ?_) #[T_,F_,T_,T_,F_,T_,F_,F_,F_,T_,F_,F_,F_,F_,F_] rfl rfl (take_ofW HT_.out HW_.out (by kernel_rfl)) (fun _ _ _ h => h) (Or.inl ⟨by rfl, ?_⟩) hHeld ?_ ?_
    rotate_left
    ·rintro w' ⟨s0, s1⟩
     go_simp
     with_reducible rfl
    rotate_left
    ·simp only [Act.put, List.setIfInBounds_toArray, List.set_cons_zero, List.set_cons_succ, i64_w, i32_w]
     rfl
    refine pure_ (i := 4) (N := some 19) (v := ?_) (a' := ?_) #[T_,F_,T_,T_,T_,T_,F_,F_,F_,T_,F_,F_,F_,F_,F_] rfl rfl (any_of HT_.out (by kernel_rfl)) (fun _ _ _ h => h) (Or.inl ⟨by rfl, ?_⟩) ?_ ?_
    rotate_left
    ·intro w'
     go_simp
     with_reducible rfl
    rotate_left
    ·simp only [Act.put, List.setIfInBounds_toArray, List.set_cons_zero, List.set_cons_succ, i64_w, i32_w]
     rfl
    refine take_ (i := 6) (N := some 21) (v := ?_) (a' := ?_) #[T_,F_,T_,T_,T_,T_,T_,F_,F_,T_,F_,F_,F_,F_,F_] rfl rfl (take_ofW HT_.out HW_.out (by kernel_rfl)) (fun _ _ _ h => h) (Or.inl ⟨by rfl, ?_⟩) hHeld ?_ ?_
    rotate_left
    ·rintro w' ⟨s0, s1⟩
     go_simp
     with_reducible rfl
    rotate_left
    ·simp only [Act.put, List.setIfInBounds_toArray, List.set_cons_zero, List.set_cons_succ, i64_w, i32_w]
     rfl
    refine pure_ (i := 7) (N := some 22) (v := ?_) (a' := ?_) #[T_,F_,T_,T_,T_,T_,T_,T_,F_,T_,F_,F_,F_,F_,F_] rfl rfl (any_of HT_.out (by kernel_rfl)) (fun _ _ _ h => h) (Or.inl ⟨by rfl, ?_⟩) ?_ ?_
    rotate_left
    ·intro w'
     go_simp
     with_reducible rfl
    rotate_left
    ·simp only [Act.put, List.setIfInBounds_toArray, List.set_cons_zero, List.set_cons_succ, i64_w, i32_w]
     rfl
    refine one_ (i := 1) (N := some 16) #[T_,T_,T_,T_,T_,T_,T_,T_,F_,T_,F_,F_,F_,F_,F_] rfl rfl (one_of HT_.out (by kernel_rfl)) (by decide) (fun K hK => ?_)
    refine goes_ Try.func64 (by kernel_rfl) rfl #[.pointer (some ⟨g, 0, none⟩)] (by rfl) rfl rfl (by (try simp only [List.map_toArray, List.map_cons, List.map_nil]); first | done | rfl | (simp only [List.length_drop, List.length_take]; rfl)) ?_
    with_reducible refine (spec_l01Cur_raw.calls g s0_0 t320 t321 t322 t323 t324 w0 _ ?side1 ?side2 A6.out).mono ?_
    (case side1 => repeat (first | (with_reducible first | exact HI0.out | apply IsS73.alloc | apply IsS73.drewN | apply IsS73.drew | apply IsS73.set_1 | apply IsS73.set_2 | refine IsS73.far ?_ NB0_307.out _ | refine IsS73.far ?_ NB0_318.out _) | exact HI0.out))
    (case side2 => repeat (first | (with_reducible first | exact HB.out | apply ba | apply bw | apply b1 | refine bs ?_ (IsS73.ge HI0.out) | refine bs ?_ GE307.out | refine bs ?_ GE318.out) | exact HB.out))
    rintro e w21 ⟨rfl, hi, hb, hk⟩
    refine ⟨_, rfl, ?_⟩
    have n0_ := As.mk (KeepBut.blk hk (g' := gb307) (o := .cells #[.int .i64 0, .slice none 0 0] 25 (0, 0)) (by (with_reducible repeat first | apply bN | apply bD | apply bA); exact BK307.out) NB307_0.out (by simp))
    have n1_ := As.mk (Kd.R_mono (Kd.R_keep (IsS73.apart (show IsS73 w0 _ g s0_0 t320 t321 from by repeat (first | (with_reducible first | exact HI0.out | apply IsS73.alloc | apply IsS73.drewN | apply IsS73.drew | apply IsS73.set_1 | apply IsS73.set_2 | refine IsS73.far ?_ NB0_307.out _ | refine IsS73.far ?_ NB0_318.out _) | exact HI0.out)) (by (with_reducible repeat first | apply rA | apply rN | apply rD); exact HO310.out) (by decide)) hk (fun _ h => h.2)) (fun _ h => h.1))
    have n2_ := As.mk (Kd.R_mono (Kd.R_keep (IsS73.apart (show IsS73 w0 _ g s0_0 t320 t321 from by repeat (first | (with_reducible first | exact HI0.out | apply IsS73.alloc | apply IsS73.drewN | apply IsS73.drew | apply IsS73.set_1 | apply IsS73.set_2 | refine IsS73.far ?_ NB0_307.out _ | refine IsS73.far ?_ NB0_318.out _) | exact HI0.out)) (by (with_reducible repeat first | apply rA | apply rN | apply rD); exact HO316.out) (by decide)) hk (fun _ h => h.2)) (fun _ h => h.1))
    have n3_ := As.mk (KeepBut.blk hk (g' := gb318) (o := .cells #[.int .i64 t313, .slice Ao18 t314.length co18] 25 (0, 0)) (by (with_reducible repeat first | apply bN | apply bD | apply bA); exact BK318.out) NB318_0.out (by simp))
    have n4_ := As.mk (KeepBut.trans (by repeat (first | (with_reducible first | exact HK.out | apply KeepBut.set_ | apply keep_drewN | apply keep_drew | apply keep_alloc | refine keep_far ?_ GW307.out _ | refine keep_far ?_ GW318.out _) | exact HK.out)) hk (.inl rfl))
    have n5_ := As.mk (hb)
    have n6_ := As.mk (hi)
    clear BK307
    clear HO310
    clear HO316
    clear BK318
    clear HK
    clear HB
    clear HI0
    have BK307 := n0_
    have HO310 := n1_
    have HO316 := n2_
    have BK318 := n3_
    have HK := n4_
    have HB := n5_
    have HI0 := n6_
    clear n0_ n1_ n2_ n3_ n4_ n5_ n6_
    (try clear hb)
    (try clear hb2)
    (try clear hk)
    (try clear hi)
    refine hK.out _ _ ⟨(blk_cell BK318.out 0).trans rfl, (blk_cell BK318.out 1).trans rfl⟩ (fun hHeld => ?_)
    clear hK K
    refine norm_ (a' := ?_) ?_ ?_
    rotate_left
    ·show Act.put _ (some 16) _ = _
     simp only [Act.put, List.setIfInBounds_toArray, List.set_cons_zero, List.set_cons_succ, i64_w, i32_w]
     rfl
    refine join_ (σ := Value × Addr) 4 #[T_,T_,T_,T_,T_,T_,T_,T_,T_,T_,T_,F_,F_,F_,F_] (fun s_ => [(23, s_.1), (25, .int .i64 t328)]) (fun s_ w' => (w'.cell? ⟨gb318, 0, none⟩ = some (.int .i64 t313) ∧ w'.cell? ⟨gb318, 1, none⟩ = some (.slice Ao18 t314.length co18)) ∧ (Kd.R (Kd.int .i64) 3 w' w.heap.size (fun k_ => some k_ ≠ (s_.1 : Value).ownBlock) (.slice Ao12 t308.length co12) t308) ∧ (Kd.R (Kd.int .u64) 53 w' w.heap.size (fun _ => True) (.slice Ao18 t314.length co18) t314) ∧ (Kd.R (Kd.int .i64) 3 w' w.heap.size (fun k_ => some k_ ≠ (.slice Ao12 t308.length co12 : Value).ownBlock) s_.1 y325) ∧ (∃ c_, (s_.1 : Value) = .slice (some s_.2) y325.length c_) ∧ (w'.heap[gb307]? = some (.cells #[.int .i64 0, .slice none 0 0] 25 (0, 0))) ∧ (w'.heap[gb318]? = some (.cells #[.int .i64 t313, .slice Ao18 t314.length co18] 25 (0, 0))) ∧ (IsS73 w0 w' g s0_0 t329 t330) ∧ (KeepBut w w' g none) ∧ (Below w0.heap.size w0 w')) ?_ ?_
    rotate_left
    ·intro hCont
     refine two_ (i := 8) (j := 10) (Ni := some 23) (Nj := some 25) #[T_,T_,T_,T_,T_,T_,T_,T_,T_,T_,F_,F_,F_,F_,F_] #[T_,T_,T_,T_,T_,T_,T_,T_,F_,T_,T_,F_,F_,F_,F_] rfl rfl rfl rfl (two_of HT_.out (by kernel_rfl)) (by decide) (by decide) (fun K hK => ?_) (fun K hK => ?_)
     ·skip
      refine Kd.R_lit_step (Kd.int .i64) _ 3 ?hg (N := 23) ?hd (xs := ([t322, wrap64 (t313 + 1), wrap64 (t313 - 1)] : List Int)) (inner := [.int .i64 t322, .int .i64 (wrap64 (t313 + 1)), .int .i64 (wrap64 (t313 - 1))]) (ok := fun _ => True) (okp := fun _ => True) ?hr ?hp (fun _ hk => hk) trivial (Below.refl _ _) (Nat.le_refl _) (by simp) ?_; (case hd => rfl); (case hg => rfl); (case hr => first | (go_simp; done) | (go_simp; rfl)); (case hp => exact (Reps.one (show Kd.M (Kd.int .i64) _ _ _ t322 [.int .i64 t322] from rfl) (Reps.one (show Kd.M (Kd.int .i64) _ _ _ (wrap64 (t313 + 1)) [.int .i64 (wrap64 (t313 + 1))] from rfl) (Reps.one (show Kd.M (Kd.int .i64) _ _ _ (wrap64 (t313 - 1)) [.int .i64 (wrap64 (t313 - 1))] from rfl) (Reps.none _ _)))))
      intro v326 w22 ho23 hb hg_ hnew_
      clear hg_ hnew_
      (first | rw [← Ny325.out] at ho23 | (simp only [Int.reduceToNat] at ho23; rw [← Ny325.out] at ho23))
      have n0_ := As.mk (rE (by (with_reducible repeat first | apply rA | apply rN | apply rD); exact HO310.out) (Kd.R_base ho23) hb)
      have n1_ := As.mk (rB (by (with_reducible repeat first | apply rA | apply rN | apply rD); exact HO316.out) hb)
      have n2_ := As.mk (rL (rW ho23 (Kd.R_lt (by (with_reducible repeat first | apply rA | apply rN | apply rD); exact HO310.out))) (keep_size (w := w) (g := g) (row := none) (by repeat (first | (with_reducible first | exact HK.out | apply KeepBut.set_ | apply keep_drewN | apply keep_drew | apply keep_alloc | refine keep_far ?_ GW307.out _ | refine keep_far ?_ GW318.out _) | exact HK.out))))
      have n3_ := As.mk (IsS73.below (by repeat (first | (with_reducible first | exact HI0.out | apply IsS73.alloc | apply IsS73.drewN | apply IsS73.drew | apply IsS73.set_1 | apply IsS73.set_2 | refine IsS73.far ?_ NB0_307.out _ | refine IsS73.far ?_ NB0_318.out _) | exact HI0.out)) hb)
      have n4_ := As.mk (bb (g := gb307) (o := .cells #[.int .i64 0, .slice none 0 0] 25 (0, 0)) (by (with_reducible repeat first | apply bN | apply bD | apply bA); exact BK307.out) hb)
      have n5_ := As.mk (bb (g := gb318) (o := .cells #[.int .i64 t313, .slice Ao18 t314.length co18] 25 (0, 0)) (by (with_reducible repeat first | apply bN | apply bD | apply bA); exact BK318.out) hb)
      have n6_ := As.mk (KeepBut.trans (by repeat (first | (with_reducible first | exact HK.out | apply KeepBut.set_ | apply keep_drewN | apply keep_drew | apply keep_alloc | refine keep_far ?_ GW307.out _ | refine keep_far ?_ GW318.out _) | exact HK.out)) (KeepBut.of_below hb g none) (.inl rfl))
      have n7_ := As.mk (bt (by repeat (first | (with_reducible first | exact HB.out | apply ba | apply bw | apply b1 | refine bs ?_ (IsS73.ge HI0.out) | refine bs ?_ GE307.out | refine bs ?_ GE318.out) | exact HB.out)) hb)
      clear HO310
      clear HO316
      clear HI0
      clear BK307
      clear BK318
      clear HK
      clear HB
      have HO310 := n0_
      have HO316 := n1_
      have HO327 := n2_
      have HI0 := n3_
      have BK307 := n4_
      have BK318 := n5_
      have HK := n6_
      have HB := n7_
      clear n0_ n1_ n2_ n3_ n4_ n5_ n6_ n7_
      clear hb ho23
      obtain ⟨Ao24, co24, eo24⟩ := rS HO327.out
      subst eo24
      obtain ⟨ado24, fo24, _⟩ := Kd.at_int (rR HO327.out).2.2 0 (by decide) (by rw [Ny325.out]; simp)
      cases fo24
      refine hK.out _ _ ⟨(blk_cell BK318.out 0).trans rfl, (blk_cell BK318.out 1).trans rfl⟩ (fun hHeld => ?_)
      clear hK K
      refine norm_ (a' := ?_) ?_ ?_
      rotate_left
      ·show Act.put _ (some 23) _ = _
       simp only [Act.put, List.setIfInBounds_toArray, List.set_cons_zero, List.set_cons_succ, i64_w, i32_w]
       rfl
      refine one_ (i := 10) (N := some 25) #[T_,T_,T_,T_,T_,T_,T_,T_,T_,T_,T_,F_,F_,F_,F_] rfl rfl (one_of HT_.out (by kernel_rfl)) (by decide) (fun K hK => ?_)
      refine goes_ Try.func62 (by kernel_rfl) rfl #[.pointer (some ⟨g, 0, none⟩), .int .i64 3] (by rfl) rfl rfl (by (try simp only [List.map_toArray, List.map_cons, List.map_nil]); first | done | rfl | (simp only [List.length_drop, List.length_take]; rfl)) ?_
      with_reducible refine (spec_l01Cur_pick.calls g s0_0 t323 t324 3 t328 t329 t330 w0 _ ?side1 ?side2 A7.out).mono ?_
      (case side1 => repeat (first | (with_reducible first | exact HI0.out | apply IsS73.alloc | apply IsS73.drewN | apply IsS73.drew | apply IsS73.set_1 | apply IsS73.set_2 | refine IsS73.far ?_ NB0_307.out _ | refine IsS73.far ?_ NB0_318.out _) | exact HI0.out))
      (case side2 => repeat (first | (with_reducible first | exact HB.out | apply ba | apply bw | apply b1 | refine bs ?_ (IsS73.ge HI0.out) | refine bs ?_ GE307.out | refine bs ?_ GE318.out) | exact HB.out))
      rintro e w25 ⟨rfl, hi, hb, hk⟩
      refine ⟨_, rfl, ?_⟩
      have n0_ := As.mk (KeepBut.blk hk (g' := gb307) (o := .cells #[.int .i64 0, .slice none 0 0] 25 (0, 0)) (by (with_reducible repeat first | apply bN | apply bD | apply bA); exact BK307.out) NB307_0.out (by simp))
      have n1_ := As.mk (Kd.R_mono (Kd.R_keep (IsS73.apart (show IsS73 w0 _ g s0_0 t323 t324 from by repeat (first | (with_reducible first | exact HI0.out | apply IsS73.alloc | apply IsS73.drewN | apply IsS73.drew | apply IsS73.set_1 | apply IsS73.set_2 | refine IsS73.far ?_ NB0_307.out _ | refine IsS73.far ?_ NB0_318.out _) | exact HI0.out)) (by (with_reducible repeat first | apply rA | apply rN | apply rD); exact HO310.out) (by decide)) hk (fun _ h => h.2)) (fun _ h => h.1))
      have n2_ := As.mk (Kd.R_mono (Kd.R_keep (IsS73.apart (show IsS73 w0 _ g s0_0 t323 t324 from by repeat (first | (with_reducible first | exact HI0.out | apply IsS73.alloc | apply IsS73.drewN | apply IsS73.drew | apply IsS73.set_1 | apply IsS73.set_2 | refine IsS73.far ?_ NB0_307.out _ | refine IsS73.far ?_ NB0_318.out _) | exact HI0.out)) (by (with_reducible repeat first | apply rA | apply rN | apply rD); exact HO316.out) (by decide)) hk (fun _ h => h.2)) (fun _ h => h.1))
      have n3_ := As.mk (KeepBut.blk hk (g' := gb318) (o := .cells #[.int .i64 t313, .slice Ao18 t314.length co18] 25 (0, 0)) (by (with_reducible repeat first | apply bN | apply bD | apply bA); exact BK318.out) NB318_0.out (by simp))
      have n4_ := As.mk (Kd.R_mono (Kd.R_keep (IsS73.apart (show IsS73 w0 _ g s0_0 t323 t324 from by repeat (first | (with_reducible first | exact HI0.out | apply IsS73.alloc | apply IsS73.drewN | apply IsS73.drew | apply IsS73.set_1 | apply IsS73.set_2 | refine IsS73.far ?_ NB0_307.out _ | refine IsS73.far ?_ NB0_318.out _) | exact HI0.out)) (by (with_reducible repeat first | apply rA | apply rN | apply rD); exact HO327.out) (by decide)) hk (fun _ h => h.2)) (fun _ h => h.1))
      have n5_ := As.mk (KeepBut.trans (by repeat (first | (with_reducible first | exact HK.out | apply KeepBut.set_ | apply keep_drewN | apply keep_drew | apply keep_alloc | refine keep_far ?_ GW307.out _ | refine keep_far ?_ GW318.out _) | exact HK.out)) hk (.inl rfl))
      have n6_ := As.mk (hb)
      have n7_ := As.mk (hi)
      clear BK307
      clear HO310
      clear HO316
      clear BK318
      clear HO327
      clear HK
      clear HB
      clear HI0
      have BK307 := n0_
      have HO310 := n1_
      have HO316 := n2_
      have BK318 := n3_
      have HO327 := n4_
      have HK := n5_
      have HB := n6_
      have HI0 := n7_
      clear n0_ n1_ n2_ n3_ n4_ n5_ n6_ n7_
      (try clear hb)
      (try clear hb2)
      (try clear hk)
      (try clear hi)
      refine hK.out _ _ ⟨(blk_cell BK318.out 0).trans rfl, (blk_cell BK318.out 1).trans rfl⟩ (fun hHeld => ?_)
      clear hK K
      refine norm_ (a' := ?_) ?_ ?_
      rotate_left
      ·show Act.put _ (some 25) _ = _
       simp only [Act.put, List.setIfInBounds_toArray, List.set_cons_zero, List.set_cons_succ, i64_w, i32_w]
       rfl
      exact norm_ (by simp only [putAll, Act.put, List.setIfInBounds_toArray, List.set_cons_zero, List.set_cons_succ]) (hCont (.slice (some ado24) y325.length co24, ado24) _ ⟨hHeld, (by (with_reducible repeat first | apply rA | apply rN | apply rD); exact Kd.R_mono HO310.out (fun _ hk => hk.2)), (by (with_reducible repeat first | apply rA | apply rN | apply rD); exact HO316.out), (by (with_reducible repeat first | apply rA | apply rN | apply rD); exact Kd.R_mono HO327.out (fun _ hk => hk.2)), ⟨_, rfl⟩, (by (with_reducible repeat first | apply bN | apply bD | apply bA); exact BK307.out), (by (with_reducible repeat first | apply bN | apply bD | apply bA); exact BK318.out), (by repeat (first | (with_reducible first | exact HI0.out | apply IsS73.alloc | apply IsS73.drewN | apply IsS73.drew | apply IsS73.set_1 | apply IsS73.set_2 | refine IsS73.far ?_ NB0_307.out _ | refine IsS73.far ?_ NB0_318.out _) | exact HI0.out)), (by repeat (first | (with_reducible first | exact HK.out | apply KeepBut.set_ | apply keep_drewN | apply keep_drew | apply keep_alloc | refine keep_far ?_ GW307.out _ | refine keep_far ?_ GW318.out _) | exact HK.out)), (by repeat (first | (with_reducible first | exact HB.out | apply ba | apply bw | apply b1 | refine bs ?_ (IsS73.ge HI0.out) | refine bs ?_ GE307.out | refine bs ?_ GE318.out) | exact HB.out))⟩)
     ·skip
      refine goes_ Try.func62 (by kernel_rfl) rfl #[.pointer (some ⟨g, 0, none⟩), .int .i64 3] (by rfl) rfl rfl (by (try simp only [List.map_toArray, List.map_cons, List.map_nil]); first | done | rfl | (simp only [List.length_drop, List.length_take]; rfl)) ?_
      with_reducible refine (spec_l01Cur_pick.calls g s0_0 t323 t324 3 t328 t329 t330 w0 _ ?side1 ?side2 A7.out).mono ?_
      (case side1 => repeat (first | (with_reducible first | exact HI0.out | apply IsS73.alloc | apply IsS73.drewN | apply IsS73.drew | apply IsS73.set_1 | apply IsS73.set_2 | refine IsS73.far ?_ NB0_307.out _ | refine IsS73.far ?_ NB0_318.out _) | exact HI0.out))
      (case side2 => repeat (first | (with_reducible first | exact HB.out | apply ba | apply bw | apply b1 | refine bs ?_ (IsS73.ge HI0.out) | refine bs ?_ GE307.out | refine bs ?_ GE318.out) | exact HB.out))
      rintro e w22 ⟨rfl, hi, hb, hk⟩
      refine ⟨_, rfl, ?_⟩
      have n0_ := As.mk (KeepBut.blk hk (g' := gb307) (o := .cells #[.int .i64 0, .slice none 0 0] 25 (0, 0)) (by (with_reducible repeat first | apply bN | apply bD | apply bA); exact BK307.out) NB307_0.out (by simp))
      have n1_ := As.mk (Kd.R_mono (Kd.R_keep (IsS73.apart (show IsS73 w0 _ g s0_0 t323 t324 from by repeat (first | (with_reducible first | exact HI0.out | apply IsS73.alloc | apply IsS73.drewN | apply IsS73.drew | apply IsS73.set_1 | apply IsS73.set_2 | refine IsS73.far ?_ NB0_307.out _ | refine IsS73.far ?_ NB0_318.out _) | exact HI0.out)) (by (with_reducible repeat first | apply rA | apply rN | apply rD); exact HO310.out) (by decide)) hk (fun _ h => h.2)) (fun _ h => h.1))
      have n2_ := As.mk (Kd.R_mono (Kd.R_keep (IsS73.apart (show IsS73 w0 _ g s0_0 t323 t324 from by repeat (first | (with_reducible first | exact HI0.out | apply IsS73.alloc | apply IsS73.drewN | apply IsS73.drew | apply IsS73.set_1 | apply IsS73.set_2 | refine IsS73.far ?_ NB0_307.out _ | refine IsS73.far ?_ NB0_318.out _) | exact HI0.out)) (by (with_reducible repeat first | apply rA | apply rN | apply rD); exact HO316.out) (by decide)) hk (fun _ h => h.2)) (fun _ h => h.1))
      have n3_ := As.mk (KeepBut.blk hk (g' := gb318) (o := .cells #[.int .i64 t313, .slice Ao18 t314.length co18] 25 (0, 0)) (by (with_reducible repeat first | apply bN | apply bD | apply bA); exact BK318.out) NB318_0.out (by simp))
      have n4_ := As.mk (KeepBut.trans (by repeat (first | (with_reducible first | exact HK.out | apply KeepBut.set_ | apply keep_drewN | apply keep_drew | apply keep_alloc | refine keep_far ?_ GW307.out _ | refine keep_far ?_ GW318.out _) | exact HK.out)) hk (.inl rfl))
      have n5_ := As.mk (hb)
      have n6_ := As.mk (hi)
      clear BK307
      clear HO310
      clear HO316
      clear BK318
      clear HK
      clear HB
      clear HI0
      have BK307 := n0_
      have HO310 := n1_
      have HO316 := n2_
      have BK318 := n3_
      have HK := n4_
      have HB := n5_
      have HI0 := n6_
      clear n0_ n1_ n2_ n3_ n4_ n5_ n6_
      (try clear hb)
      (try clear hb2)
      (try clear hk)
      (try clear hi)
      refine hK.out _ _ ⟨(blk_cell BK318.out 0).trans rfl, (blk_cell BK318.out 1).trans rfl⟩ (fun hHeld => ?_)
      clear hK K
      refine norm_ (a' := ?_) ?_ ?_
      rotate_left
      ·show Act.put _ (some 25) _ = _
       simp only [Act.put, List.setIfInBounds_toArray, List.set_cons_zero, List.set_cons_succ, i64_w, i32_w]
       rfl
      refine one_ (i := 8) (N := some 23) #[T_,T_,T_,T_,T_,T_,T_,T_,T_,T_,T_,F_,F_,F_,F_] rfl rfl (one_of HT_.out (by kernel_rfl)) (by decide) (fun K hK => ?_)
      refine Kd.R_lit_step (Kd.int .i64) _ 3 ?hg (N := 23) ?hd (xs := ([t322, wrap64 (t313 + 1), wrap64 (t313 - 1)] : List Int)) (inner := [.int .i64 t322, .int .i64 (wrap64 (t313 + 1)), .int .i64 (wrap64 (t313 - 1))]) (ok := fun _ => True) (okp := fun _ => True) ?hr ?hp (fun _ hk => hk) trivial (Below.refl _ _) (Nat.le_refl _) (by simp) ?_; (case hd => rfl); (case hg => rfl); (case hr => first | (go_simp; done) | (go_simp; rfl)); (case hp => exact (Reps.one (show Kd.M (Kd.int .i64) _ _ _ t322 [.int .i64 t322] from rfl) (Reps.one (show Kd.M (Kd.int .i64) _ _ _ (wrap64 (t313 + 1)) [.int .i64 (wrap64 (t313 + 1))] from rfl) (Reps.one (show Kd.M (Kd.int .i64) _ _ _ (wrap64 (t313 - 1)) [.int .i64 (wrap64 (t313 - 1))] from rfl) (Reps.none _ _)))))
      intro v326 w23 ho24 hb hg_ hnew_
      clear hg_ hnew_
      (first | rw [← Ny325.out] at ho24 | (simp only [Int.reduceToNat] at ho24; rw [← Ny325.out] at ho24))
      have n0_ := As.mk (rE (by (with_reducible repeat first | apply rA | apply rN | apply rD); exact HO310.out) (Kd.R_base ho24) hb)
      have n1_ := As.mk (rB (by (with_reducible repeat first | apply rA | apply rN | apply rD); exact HO316.out) hb)
      have n2_ := As.mk (rL (rW ho24 (Kd.R_lt (by (with_reducible repeat first | apply rA | apply rN | apply rD); exact HO310.out))) (keep_size (w := w) (g := g) (row := none) (by repeat (first | (with_reducible first | exact HK.out | apply KeepBut.set_ | apply keep_drewN | apply keep_drew | apply keep_alloc | refine keep_far ?_ GW307.out _ | refine keep_far ?_ GW318.out _) | exact HK.out))))
      have n3_ := As.mk (IsS73.below (by repeat (first | (with_reducible first | exact HI0.out | apply IsS73.alloc | apply IsS73.drewN | apply IsS73.drew | apply IsS73.set_1 | apply IsS73.set_2 | refine IsS73.far ?_ NB0_307.out _ | refine IsS73.far ?_ NB0_318.out _) | exact HI0.out)) hb)
      have n4_ := As.mk (bb (g := gb307) (o := .cells #[.int .i64 0, .slice none 0 0] 25 (0, 0)) (by (with_reducible repeat first | apply bN | apply bD | apply bA); exact BK307.out) hb)
      have n5_ := As.mk (bb (g := gb318) (o := .cells #[.int .i64 t313, .slice Ao18 t314.length co18] 25 (0, 0)) (by (with_reducible repeat first | apply bN | apply bD | apply bA); exact BK318.out) hb)
      have n6_ := As.mk (KeepBut.trans (by repeat (first | (with_reducible first | exact HK.out | apply KeepBut.set_ | apply keep_drewN | apply keep_drew | apply keep_alloc | refine keep_far ?_ GW307.out _ | refine keep_far ?_ GW318.out _) | exact HK.out)) (KeepBut.of_below hb g none) (.inl rfl))
      have n7_ := As.mk (bt (by repeat (first | (with_reducible first | exact HB.out | apply ba | apply bw | apply b1 | refine bs ?_ (IsS73.ge HI0.out) | refine bs ?_ GE307.out | refine bs ?_ GE318.out) | exact HB.out)) hb)
      clear HO310
      clear HO316
      clear HI0
      clear BK307
      clear BK318
      clear HK
      clear HB
      have HO310 := n0_
      have HO316 := n1_
      have HO327 := n2_
      have HI0 := n3_
      have BK307 := n4_
      have BK318 := n5_
      have HK := n6_
      have HB := n7_
      clear n0_ n1_ n2_ n3_ n4_ n5_ n6_ n7_
      clear hb ho24
      obtain ⟨Ao25, co25, eo25⟩ := rS HO327.out
      subst eo25
      obtain ⟨ado25, fo25, _⟩ := Kd.at_int (rR HO327.out).2.2 0 (by decide) (by rw [Ny325.out]; simp)
      cases fo25
      refine hK.out _ _ ⟨(blk_cell BK318.out 0).trans rfl, (blk_cell BK318.out 1).trans rfl⟩ (fun hHeld => ?_)
      clear hK K
      refine norm_ (a' := ?_) ?_ ?_
      rotate_left
      ·show Act.put _ (some 23) _ = _
       simp only [Act.put, List.setIfInBounds_toArray, List.set_cons_zero, List.set_cons_succ, i64_w, i32_w]
       rfl
      exact norm_ (by simp only [putAll, Act.put, List.setIfInBounds_toArray, List.set_cons_zero, List.set_cons_succ]) (hCont (.slice (some ado25) y325.length co25, ado25) _ ⟨hHeld, (by (with_reducible repeat first | apply rA | apply rN | apply rD); exact Kd.R_mono HO310.out (fun _ hk => hk.2)), (by (with_reducible repeat first | apply rA | apply rN | apply rD); exact HO316.out), (by (with_reducible repeat first | apply rA | apply rN | apply rD); exact Kd.R_mono HO327.out (fun _ hk => hk.2)), ⟨_, rfl⟩, (by (with_reducible repeat first | apply bN | apply bD | apply bA); exact BK307.out), (by (with_reducible repeat first | apply bN | apply bD | apply bA); exact BK318.out), (by repeat (first | (with_reducible first | exact HI0.out | apply IsS73.alloc | apply IsS73.drewN | apply IsS73.drew | apply IsS73.set_1 | apply IsS73.set_2 | refine IsS73.far ?_ NB0_307.out _ | refine IsS73.far ?_ NB0_318.out _) | exact HI0.out)), (by repeat (first | (with_reducible first | exact HK.out | apply KeepBut.set_ | apply keep_drewN | apply keep_drew | apply keep_alloc | refine keep_far ?_ GW307.out _ | refine keep_far ?_ GW318.out _) | exact HK.out)), (by repeat (first | (with_reducible first | exact HB.out | apply ba | apply bw | apply b1 | refine bs ?_ (IsS73.ge HI0.out) | refine bs ?_ GE307.out | refine bs ?_ GE318.out) | exact HB.out))⟩)
    rintro ⟨v326, adz_v326⟩ w26 ⟨hS_, h0_, h1_, h2_, h3_, h4_, h5_, h6_, h7_, h8_⟩
    have n0_ : As (Kd.R (Kd.int .i64) 3 w26 w.heap.size (fun k_ => some k_ ≠ (v326 : Value).ownBlock) (.slice Ao12 t308.length co12) t308) := ⟨h0_⟩
    have n1_ : As (Kd.R (Kd.int .u64) 53 w26 w.heap.size (fun _ => True) (.slice Ao18 t314.length co18) t314) := ⟨h1_⟩
    have n2_ : As (Kd.R (Kd.int .i64) 3 w26 w.heap.size (fun k_ => some k_ ≠ (.slice Ao12 t308.length co12 : Value).ownBlock) v326 y325) := ⟨h2_⟩
    have n3_ : As (∃ c_, (v326 : Value) = .slice (some adz_v326) y325.length c_) := ⟨h3_⟩
    have n4_ : As (w26.heap[gb307]? = some (.cells #[.int .i64 0, .slice none 0 0] 25 (0, 0))) := ⟨h4_⟩
    have n5_ : As (w26.heap[gb318]? = some (.cells #[.int .i64 t313, .slice Ao18 t314.length co18] 25 (0, 0))) := ⟨h5_⟩
    have n6_ : As (IsS73 w0 w26 g s0_0 t329 t330) := ⟨h6_⟩
    have n7_ : As (KeepBut w w26 g none) := ⟨h7_⟩
    have n8_ : As (Below w0.heap.size w0 w26) := ⟨h8_⟩
    clear HO310
    clear HO316
    clear BK307
    clear BK318
    clear HI0
    clear HK
    clear HB
    clear h0_ h1_ h2_ h3_ h4_ h5_ h6_ h7_ h8_
    have HO310 := n0_
    have HO316 := n1_
    have HO327 := n2_
    have HA_HO327 := n3_
    have BK307 := n4_
    have BK318 := n5_
    have HI0 := n6_
    have HK := n7_
    have HB := n8_
    clear n0_ n1_ n2_ n3_ n4_ n5_ n6_ n7_ n8_
    have hHeld : w26.cell? ⟨gb318, 0, none⟩ = some (.int .i64 t313) ∧ w26.cell? ⟨gb318, 1, none⟩ = some (.slice Ao18 t314.length co18) := hS_
    obtain ⟨co27, eo27⟩ := HA_HO327.out
    clear HA_HO327
    subst eo27
    refine norm_ (a' := ?_) ?_ ?_
    rotate_left
    ·simp only [putAll, Act.put, List.setIfInBounds_toArray, List.set_cons_zero, List.set_cons_succ]
     rfl
    refine pure_ (i := 11) (N := some 26) (v := ?_) (a' := ?_) #[T_,T_,T_,T_,T_,T_,T_,T_,T_,T_,T_,T_,F_,F_,F_] rfl rfl (any_of HT_.out (by kernel_rfl)) (fun _ _ _ h => h) (Or.inl ⟨by rfl, ?_⟩) ?_ ?_
    rotate_left
    ·intro w'
     go_simp
     with_reducible rfl
    rotate_left
    ·simp only [Act.put, List.setIfInBounds_toArray, List.set_cons_zero, List.set_cons_succ, i64_w, i32_w]
     rfl
    refine one_ (i := 12) (N := some 27) #[T_,T_,T_,T_,T_,T_,T_,T_,T_,T_,T_,T_,T_,F_,F_] rfl rfl (one_of HT_.out (by kernel_rfl)) (by decide) (fun K hK => ?_)
    (have p331 : 0 ≤ (t328 : Int) := of_decide_eq_true (by first | (with_reducible assumption) | assumption); have q331 : t328 < (y325.length : Int) := of_decide_eq_true (by first | (with_reducible assumption) | assumption); obtain ⟨ad331, e331, hx331_0⟩ := Kd.at_int (rR HO327.out).2.2 t328 p331 q331; obtain rfl : adz_v326 = ad331 := (by injection e331))
    refine value_ (w1 := ?_) (v := ?_) (by rfl) rfl ?_ ?_
    rotate_left 2
    ·go_simp
     constructor
     ·rfl
     ·rfl
    clear hx331_0
    refine hK.out _ _ ⟨(blk_cell BK318.out 0).trans rfl, (blk_cell BK318.out 1).trans rfl⟩ (fun hHeld => ?_)
    clear hK K
    refine norm_ (a' := ?_) ?_ ?_
    rotate_left
    ·show Act.put _ (some 27) _ = _
     simp only [Act.put, List.setIfInBounds_toArray, List.set_cons_zero, List.set_cons_succ, i64_w, i32_w]
     rfl
    refine pure_ (i := 13) (N := some 28) (v := ?_) (a' := ?_) #[T_,T_,T_,T_,T_,T_,T_,T_,T_,T_,T_,T_,T_,T_,F_] rfl rfl (any_of HT_.out (by kernel_rfl)) (fun _ _ _ h => h) (Or.inl ⟨by rfl, ?_⟩) ?_ ?_
    rotate_left
    ·intro w'
     go_simp
     with_reducible rfl
    rotate_left
    ·simp only [Act.put, List.setIfInBounds_toArray, List.set_cons_zero, List.set_cons_succ, i64_w, i32_w]
     rfl
    refine last_ (i := 14) (N := none) #[T_,T_,T_,T_,T_,T_,T_,T_,T_,T_,T_,T_,T_,T_,T_] rfl rfl (one_of HT_.out (by kernel_rfl)) (by decide) (fun K hK => ?_)
    have hs28 : w26.cell? ⟨gb318, 0, none⟩ = some (.int .i64 t313) := (blk_cell BK318.out 0).trans rfl
    have hfs28 := blk_frozen BK318.out 0
    have hns28_0 := NB307_318.out
    have hms28_0 := NB318_307.out
    refine skip_ (w1 := ?_) (by rfl) rfl ?_ ?_
    rotate_left
    ·go_simp
     rfl
    refine hK.out _ _ ?_
    clear hK K
    refine done_ (done_of HT_.out (by kernel_rfl)) ?_
    have hcz29_0 : w26.cell? ⟨gb318, 0, none⟩ = some (.int .i64 t313) := (blk_cell BK318.out 0).trans rfl
    have hcz29_1 : w26.cell? ⟨gb318, 1, none⟩ = some (.slice Ao18 t314.length co18) := (blk_cell BK318.out 1).trans rfl
    have hfz29_0 := blk_frozen BK318.out 0
    have hfz29_1 := blk_frozen BK318.out 1
    have hnb30 := NB307_0.out
    have hnc30 := NB0_307.out
    have hcz31_0 : w26.cell? ⟨gb307, 0, none⟩ = some (.int .i64 0) := (blk_cell BK307.out 0).trans rfl
    have hcz31_1 : w26.cell? ⟨gb307, 1, none⟩ = some (.slice none 0 0) := (blk_cell BK307.out 1).trans rfl
    have hfz31_0 := blk_frozen BK307.out 0
    have hfz31_1 := blk_frozen BK307.out 1
    try go_wp2
    refine bodyPost_ret (results_cell_row rfl _ _ gb307 25 #[.int .i64 (rd y325 t328), .slice Ao18 t314.length co18] (0, 0) _ rfl (by (with_reducible repeat first | apply bN | apply bD | apply bA); refine blk_put (cs := #[.int .i64 (rd y325 t328), .slice none 0 0]) ?_ 1 _ rfl; (with_reducible repeat first | apply bN | apply bD | apply bA); refine blk_put (cs := #[.int .i64 0, .slice none 0 0]) ?_ 0 _ rfl; (with_reducible repeat first | apply bN | apply bD | apply bA); refine blk_far ?_ NB307_318.out _; (with_reducible repeat first | apply bN | apply bD | apply bA); exact BK307.out) Try.underlying25 rfl (by kernel_rfl)) rfl ?_
    exact ⟨_, by first | rfl | (simp [errW_none, errW_some] <;> rfl) | (simp [*, errW_none, errW_some] <;> rfl), by (with_reducible repeat first | apply rA | apply rN | apply rD); exact Kd.R_mono (Kd.R_far (p := ⟨gb307, 1, none⟩) (Kd.R_far (p := ⟨gb307, 0, none⟩) (Kd.R_far (p := ⟨gb318, 0, none⟩) (Kd.R_types (Kd.R_types HO316.out BK318.out (by decide)) BK307.out (by decide)) (fun _ hk => hk.1.2) (.int .i64 (rd y325 t328))) (fun _ hk => hk.2) (.int .i64 (rd y325 t328))) (fun _ hk => hk.2) (.slice Ao18 t314.length co18)) (fun _ hk => trivial), by repeat (first | (with_reducible first | exact HI0.out | apply IsS73.alloc | apply IsS73.drewN | apply IsS73.drew | apply IsS73.set_1 | apply IsS73.set_2 | refine IsS73.far ?_ NB0_307.out _ | refine IsS73.far ?_ NB0_318.out _) | exact HI0.out), by repeat (first | (with_reducible first | exact HB.out | apply ba | apply bw | apply b1 | refine bs ?_ (IsS73.ge HI0.out) | refine bs ?_ GE307.out | refine bs ?_ GE318.out) | exact HB.out), by repeat (first | (with_reducible first | exact HK.out | apply KeepBut.set_ | apply keep_drewN | apply keep_drew | apply keep_alloc | refine keep_far ?_ GW307.out _ | refine keep_far ?_ GW318.out _) | exact HK.out)⟩
   ·rw [if_neg c9] at H
    exact absurd H (by simp)
  ·rw [if_neg c8] at H
   exact absurd H (by simp)
 ·rw [if_neg c5] at H
  have c5b0 : (t319 == 0) = false := beq_eq_false_iff_ne.mpr c5
  have c5b1 : (t319 != 0) = true := bne_iff_ne.mpr c5
  by_cases c32 : t319 = 1
  ·rw [if_pos c32] at H
   have c32b0 : (t319 == 1) = true := beq_iff_eq.mpr c32
   have c32b1 : (t319 != 1) = false := bne_eq_false_iff_eq.mpr c32
   clear c32
   replace H := Option.bind_eq_some_iff.mp H
   obtain ⟨⟨t332, t333, t334⟩, A330, H⟩ := H
   replace H : (if t314.length < 17592186044416 then (some (t313, (t314 ++ [IntKind.u64.wrap (t332)]), t333, t334)) else (none)) = some (r1, r2, r3, r4) := H
   have A33 := As.mk A330
   clear A330
   by_cases c34 : t314.length < 17592186044416
   ·rw [if_pos c34] at H
    have LMc34 := As.mk c34
    clear c34
    obtain ⟨y335, hy335⟩ : ∃ y_ : List Int, y_ = (t314 ++ [IntKind.u64.wrap (t332)]) := ⟨_, rfl⟩
    replace H : (some (t313, y335, t333, t334)) = some (r1, r2, r3, r4) := by first | (rw [hy335]; with_reducible exact H) | (have H2_ := (Option.bind_some _ _).symm.trans H; rw [hy335]; with_reducible exact H2_) | (have H2_ := (Option.bind_some _ _).symm.trans H; with_reducible exact H2_) | with_reducible exact H | (rw [hy335]; exact H) | exact H
    have Ny335 := As.mk hy335
    clear hy335
    simp only [Option.some.injEq, Prod.mk.injEq] at H
    obtain ⟨rfl, rfl, rfl, rfl⟩ := H
    go_enter Try.func61, Try.ntmps61
    try go_wp2_with (first | ((with_reducible refine gd (N := 2) rfl ?_); refine box_event ?hg (N := 2) ?hd (cs := #[.int .i64 0, .slice none 0 0]) (t := 25) ?hr ?_; (case hd => rfl); (case hg => rfl); (case hr => first | (go_simp; done) | (go_simp; rfl)); intro gb307 hg w35 hbox hb; have n0_ := As.mk (IsS73.below (by repeat (first | (with_reducible first | exact HI0.out | apply IsS73.alloc | apply IsS73.drewN | apply IsS73.drew | apply IsS73.set_1 | apply IsS73.set_2) | exact HI0.out)) hb); have n1_ := As.mk (KeepBut.trans (by repeat (first | (with_reducible first | exact HK.out | apply KeepBut.set_ | apply keep_drewN | apply keep_drew | apply keep_alloc) | exact HK.out)) (KeepBut.of_below hb g none) (.inl rfl)); have n2_ := As.mk (bt (by repeat (first | (with_reducible first | exact HB.out | apply ba | apply bw | apply b1 | refine bs ?_ (IsS73.ge HI0.out)) | exact HB.out)) hb); have n3_ := As.mk (hbox); have n4_ := As.mk ((by rw [hg]; exact (keep_size (w := w) (g := g) (row := none) (by repeat (first | (with_reducible first | exact HK.out | apply KeepBut.set_ | apply keep_drewN | apply keep_drew | apply keep_alloc) | exact HK.out))) : w.heap.size ≤ gb307)); have n5_ := As.mk ((Nat.le_trans HW0.out (by rw [hg]; exact (keep_size (w := w) (g := g) (row := none) (by repeat (first | (with_reducible first | exact HK.out | apply KeepBut.set_ | apply keep_drewN | apply keep_drew | apply keep_alloc) | exact HK.out))) : w.heap.size ≤ gb307) : w0.heap.size ≤ gb307)); have n6_ := As.mk ((by rw [hg]; exact Nat.ne_of_lt (IsS73.lt (show IsS73 w0 _ g s0_0 s0_1 s0_2 from by repeat (first | (with_reducible first | exact HI0.out | apply IsS73.alloc | apply IsS73.drewN | apply IsS73.drew | apply IsS73.set_1 | apply IsS73.set_2) | exact HI0.out))) : g ≠ gb307)); have n7_ := As.mk ((by rw [hg]; exact Nat.ne_of_gt (IsS73.lt (show IsS73 w0 _ g s0_0 s0_1 s0_2 from by repeat (first | (with_reducible first | exact HI0.out | apply IsS73.alloc | apply IsS73.drewN | apply IsS73.drew | apply IsS73.set_1 | apply IsS73.set_2) | exact HI0.out))) : gb307 ≠ g)); clear HI0; clear HK; clear HB; have HI0 := n0_; have HK := n1_; have HB := n2_; have BK307 := n3_; have GW307 := n4_; have GE307 := n5_; have NB0_307 := n6_; have NB307_0 := n7_; clear n0_ n1_ n2_ n3_ n4_ n5_ n6_ n7_; clear hb hbox hg) | ((with_reducible refine gc (f := 69) rfl ?_); refine goesL_ (some 7) rfl rfl Try.func69 (by kernel_rfl) rfl #[.pointer (some ⟨g, 0, none⟩)] rfl (by (try simp only [List.map_toArray, List.map_cons, List.map_nil]); first | done | rfl | (simp only [List.length_drop, List.length_take]; rfl)) ?_; (with_reducible refine (spec_l01Cur_row.calls k g s0_0 s0_1 s0_2 t308 t311 t312 w0 _ ?side1 ?side2 A2.out).mono ?_); (case side1 => repeat (first | (with_reducible first | exact HI0.out | apply IsS73.alloc | apply IsS73.drewN | apply IsS73.drew | apply IsS73.set_1 | apply IsS73.set_2 | refine IsS73.far ?_ NB0_307.out _) | exact HI0.out)); (case side2 => repeat (first | (with_reducible first | exact HB.out | apply ba | apply bw | apply b1 | refine bs ?_ (IsS73.ge HI0.out) | refine bs ?_ GE307.out) | exact HB.out)); rintro e w36 ⟨v309, rfl, ho0, hi, hb, hk⟩; refine ⟨_, rfl, ?_⟩; have n0_ := As.mk (KeepBut.blk hk (g' := gb307) (o := .cells #[.int .i64 0, .slice none 0 0] 25 (0, 0)) (by (with_reducible repeat first | apply bN | apply bD | apply bA); exact BK307.out) NB307_0.out (by simp)); have n1_ := As.mk (rL ho0 (keep_size (w := w) (g := g) (row := none) (by repeat (first | (with_reducible first | exact HK.out | apply KeepBut.set_ | apply keep_drewN | apply keep_drew | apply keep_alloc | refine keep_far ?_ GW307.out _) | exact HK.out)))); have n2_ := As.mk (KeepBut.trans (by repeat (first | (with_reducible first | exact HK.out | apply KeepBut.set_ | apply keep_drewN | apply keep_drew | apply keep_alloc | refine keep_far ?_ GW307.out _) | exact HK.out)) hk (.inl rfl)); have n3_ := As.mk (hb); have n4_ := As.mk (hi); clear BK307; clear HK; clear HB; clear HI0; have BK307 := n0_; have HO310 := n1_; have HK := n2_; have HB := n3_; have HI0 := n4_; clear n0_ n1_ n2_ n3_ n4_; (try clear hb); (try clear hb2); (try clear hk); (try clear hi); (try clear ho0); obtain ⟨Ao37, co37, eo37⟩ := rS HO310.out; subst eo37) | ((with_reducible refine gc (f := 13) rfl ?_); refine goesL_ (some 8) rfl rfl Try.func13 (by kernel_rfl) rfl #[.slice Ao37 t308.length co37] rfl (by (try simp only [List.map_toArray, List.map_cons, List.map_nil]); first | done | rfl | (simp only [List.length_drop, List.length_take]; rfl)) ?_; (with_reducible refine (spec_BitsOf.calls k _ _ t308 t313 t314 t317 _ ?side1 ?side2 A3.out).mono ?_); (case side1 => repeat (first | exact (rR HO310.out).2.2 | (with_reducible refine cA ?_ _) | (with_reducible refine cN ?_ _) | (with_reducible refine cD ?_))); (case side2 => exact (rR HO310.out).2.1); rintro e w38 ⟨v315, rfl, ho0, hb⟩; refine ⟨_, rfl, ?_⟩; have n0_ := As.mk (rB (by (with_reducible repeat first | apply rA | apply rN | apply rD); exact HO310.out) hb); have n1_ := As.mk (rL ho0 (keep_size (w := w) (g := g) (row := none) (by repeat (first | (with_reducible first | exact HK.out | apply KeepBut.set_ | apply keep_drewN | apply keep_drew | apply keep_alloc | refine keep_far ?_ GW307.out _) | exact HK.out)))); have n2_ := As.mk (IsS73.below (by repeat (first | (with_reducible first | exact HI0.out | apply IsS73.alloc | apply IsS73.drewN | apply IsS73.drew | apply IsS73.set_1 | apply IsS73.set_2 | refine IsS73.far ?_ NB0_307.out _) | exact HI0.out)) hb); have n3_ := As.mk (bb (g := gb307) (o := .cells #[.int .i64 0, .slice none 0 0] 25 (0, 0)) (by (with_reducible repeat first | apply bN | apply bD | apply bA); exact BK307.out) hb); have n4_ := As.mk (KeepBut.trans (by repeat (first | (with_reducible first | exact HK.out | apply KeepBut.set_ | apply keep_drewN | apply keep_drew | apply keep_alloc | refine keep_far ?_ GW307.out _) | exact HK.out)) (KeepBut.of_below hb g none) (.inl rfl)); have n5_ := As.mk (bt (by repeat (first | (with_reducible first | exact HB.out | apply ba | apply bw | apply b1 | refine bs ?_ (IsS73.ge HI0.out) | refine bs ?_ GE307.out) | exact HB.out)) hb); clear HO310; clear HI0; clear BK307; clear HK; clear HB; have HO310 := n0_; have HO316 := n1_; have HI0 := n2_; have BK307 := n3_; have HK := n4_; have HB := n5_; clear n0_ n1_ n2_ n3_ n4_ n5_; (try clear hb); (try clear hb2); (try clear hk); (try clear hi); (try clear ho0)) | ((with_reducible refine gd (N := 3) rfl ?_); refine box_event ?hg (N := 3) ?hd (cs := #[.int .i64 0, .slice none 0 0]) (t := 25) ?hr ?_; (case hd => rfl); (case hg => rfl); (case hr => first | (go_simp; done) | (go_simp; rfl)); intro gb318 hg w39 hbox hb; have n0_ := As.mk (rB (by (with_reducible repeat first | apply rA | apply rN | apply rD); exact HO310.out) hb); have n1_ := As.mk (rB (by (with_reducible repeat first | apply rA | apply rN | apply rD); exact HO316.out) hb); have n2_ := As.mk (IsS73.below (by repeat (first | (with_reducible first | exact HI0.out | apply IsS73.alloc | apply IsS73.drewN | apply IsS73.drew | apply IsS73.set_1 | apply IsS73.set_2 | refine IsS73.far ?_ NB0_307.out _) | exact HI0.out)) hb); have n3_ := As.mk (bb (g := gb307) (o := .cells #[.int .i64 0, .slice none 0 0] 25 (0, 0)) (by (with_reducible repeat first | apply bN | apply bD | apply bA); exact BK307.out) hb); have n4_ := As.mk (KeepBut.trans (by repeat (first | (with_reducible first | exact HK.out | apply KeepBut.set_ | apply keep_drewN | apply keep_drew | apply keep_alloc | refine keep_far ?_ GW307.out _) | exact HK.out)) (KeepBut.of_below hb g none) (.inl rfl)); have n5_ := As.mk (bt (by repeat (first | (with_reducible first | exact HB.out | apply ba | apply bw | apply b1 | refine bs ?_ (IsS73.ge HI0.out) | refine bs ?_ GE307.out) | exact HB.out)) hb); have n6_ := As.mk (hbox); have n7_ := As.mk ((by rw [hg]; exact (keep_size (w := w) (g := g) (row := none) (by repeat (first | (with_reducible first | exact HK.out | apply KeepBut.set_ | apply keep_drewN | apply keep_drew | apply keep_alloc | refine keep_far ?_ GW307.out _) | exact HK.out))) : w.heap.size ≤ gb318)); have n8_ := As.mk ((Nat.le_trans HW0.out (by rw [hg]; exact (keep_size (w := w) (g := g) (row := none) (by repeat (first | (with_reducible first | exact HK.out | apply KeepBut.set_ | apply keep_drewN | apply keep_drew | apply keep_alloc | refine keep_far ?_ GW307.out _) | exact HK.out))) : w.heap.size ≤ gb318) : w0.heap.size ≤ gb318)); have n9_ := As.mk ((by rw [hg]; exact Nat.ne_of_lt (blk_lt (g := gb307) (o := .cells #[.int .i64 0, .slice none 0 0] 25 (0, 0)) (by (with_reducible repeat first | apply bN | apply bD | apply bA); exact BK307.out)) : gb307 ≠ gb318)); have n10_ := As.mk ((by rw [hg]; exact Nat.ne_of_gt (blk_lt (g := gb307) (o := .cells #[.int .i64 0, .slice none 0 0] 25 (0, 0)) (by (with_reducible repeat first | apply bN | apply bD | apply bA); exact BK307.out)) : gb318 ≠ gb307)); have n11_ := As.mk ((by rw [hg]; exact Nat.ne_of_lt (IsS73.lt (show IsS73 w0 _ g s0_0 t311 t312 from by repeat (first | (with_reducible first | exact HI0.out | apply IsS73.alloc | apply IsS73.drewN | apply IsS73.drew | apply IsS73.set_1 | apply IsS73.set_2 | refine IsS73.far ?_ NB0_307.out _) | exact HI0.out))) : g ≠ gb318)); have n12_ := As.mk ((by rw [hg]; exact Nat.ne_of_gt (IsS73.lt (show IsS73 w0 _ g s0_0 t311 t312 from by repeat (first | (with_reducible first | exact HI0.out | apply IsS73.alloc | apply IsS73.drewN | apply IsS73.drew | apply IsS73.set_1 | apply IsS73.set_2 | refine IsS73.far ?_ NB0_307.out _) | exact HI0.out))) : gb318 ≠ g)); clear HO310; clear HO316; clear HI0; clear BK307; clear HK; clear HB; have HO310 := n0_; have HO316 := n1_; have HI0 := n2_; have BK307 := n3_; have HK := n4_; have HB := n5_; have BK318 := n6_; have GW318 := n7_; have GE318 := n8_; have NB307_318 := n9_; have NB318_307 := n10_; have NB0_318 := n11_; have NB318_0 := n12_; clear n0_ n1_ n2_ n3_ n4_ n5_ n6_ n7_ n8_ n9_ n10_ n11_ n12_; clear hb hbox hg; have hnb40 := NB318_307.out; have hnc40 := NB307_318.out; have hnb41 := NB318_0.out; have hnc41 := NB0_318.out; have hcz42_0 : w39.cell? ⟨gb318, 0, none⟩ = some (.int .i64 0) := (blk_cell BK318.out 0).trans rfl; have hcz42_1 : w39.cell? ⟨gb318, 1, none⟩ = some (.slice none 0 0) := (blk_cell BK318.out 1).trans rfl; have hfz42_0 := blk_frozen BK318.out 0; have hfz42_1 := blk_frozen BK318.out 1; obtain ⟨Ao43, co43, eo43⟩ := rS HO316.out; subst eo43) | ((with_reducible refine gc (f := 62) rfl ?_); refine goesL_ (some 12) rfl rfl Try.func62 (by kernel_rfl) rfl #[.pointer (some ⟨g, 0, none⟩), .int .i64 14] rfl (by (try simp only [List.map_toArray, List.map_cons, List.map_nil]); first | done | rfl | (simp only [List.length_drop, List.length_take]; rfl)) ?_; (with_reducible refine (spec_l01Cur_pick.calls g s0_0 t311 t312 14 t319 t320 t321 w0 _ ?side1 ?side2 A4.out).mono ?_); (case side1 => repeat (first | (with_reducible first | exact HI0.out | apply IsS73.alloc | apply IsS73.drewN | apply IsS73.drew | apply IsS73.set_1 | apply IsS73.set_2 | refine IsS73.far ?_ NB0_307.out _ | refine IsS73.far ?_ NB0_318.out _) | exact HI0.out)); (case side2 => repeat (first | (with_reducible first | exact HB.out | apply ba | apply bw | apply b1 | refine bs ?_ (IsS73.ge HI0.out) | refine bs ?_ GE307.out | refine bs ?_ GE318.out) | exact HB.out)); rintro e w44 ⟨rfl, hi, hb, hk⟩; refine ⟨_, rfl, ?_⟩; have n0_ := As.mk (KeepBut.blk hk (g' := gb307) (o := .cells #[.int .i64 0, .slice none 0 0] 25 (0, 0)) (by (with_reducible repeat first | apply bN | apply bD | apply bA); refine blk_far ?_ NB307_318.out _; (with_reducible repeat first | apply bN | apply bD | apply bA); refine blk_far ?_ NB307_318.out _; (with_reducible repeat first | apply bN | apply bD | apply bA); exact BK307.out) NB307_0.out (by simp)); have n1_ := As.mk (Kd.R_mono (Kd.R_keep (IsS73.apart (show IsS73 w0 _ g s0_0 t311 t312 from by repeat (first | (with_reducible first | exact HI0.out | apply IsS73.alloc | apply IsS73.drewN | apply IsS73.drew | apply IsS73.set_1 | apply IsS73.set_2 | refine IsS73.far ?_ NB0_307.out _ | refine IsS73.far ?_ NB0_318.out _) | exact HI0.out)) (by (with_reducible repeat first | apply rA | apply rN | apply rD); exact (Kd.R_mono (Kd.R_far (p := ⟨gb318, 1, none⟩) (Kd.R_far (p := ⟨gb318, 0, none⟩) (Kd.R_types HO310.out BK318.out (by decide)) (fun _ hk => hk.2) (.int .i64 t313)) (fun _ hk => hk.2) (.slice Ao43 t314.length co43)) (fun _ h_ => h_.1))) (by decide)) hk (fun _ h => h.2)) (fun _ h => h.1)); have n2_ := As.mk (Kd.R_mono (Kd.R_keep (IsS73.apart (show IsS73 w0 _ g s0_0 t311 t312 from by repeat (first | (with_reducible first | exact HI0.out | apply IsS73.alloc | apply IsS73.drewN | apply IsS73.drew | apply IsS73.set_1 | apply IsS73.set_2 | refine IsS73.far ?_ NB0_307.out _ | refine IsS73.far ?_ NB0_318.out _) | exact HI0.out)) (by (with_reducible repeat first | apply rA | apply rN | apply rD); exact (Kd.R_mono (Kd.R_far (p := ⟨gb318, 1, none⟩) (Kd.R_far (p := ⟨gb318, 0, none⟩) (Kd.R_types HO316.out BK318.out (by decide)) (fun _ hk => hk.2) (.int .i64 t313)) (fun _ hk => hk.2) (.slice Ao43 t314.length co43)) (fun _ h_ => h_.1))) (by decide)) hk (fun _ h => h.2)) (fun _ h => h.1)); have n3_ := As.mk (KeepBut.blk hk (g' := gb318) (o := .cells #[.int .i64 t313, .slice Ao43 t314.length co43] 25 (0, 0)) (by (with_reducible repeat first | apply bN | apply bD | apply bA); refine blk_put (cs := #[.int .i64 t313, .slice none 0 0]) ?_ 1 _ rfl; (with_reducible repeat first | apply bN | apply bD | apply bA); refine blk_put (cs := #[.int .i64 0, .slice none 0 0]) ?_ 0 _ rfl; (with_reducible repeat first | apply bN | apply bD | apply bA); exact BK318.out) NB318_0.out (by simp)); have n4_ := As.mk (KeepBut.trans (by repeat (first | (with_reducible first | exact HK.out | apply KeepBut.set_ | apply keep_drewN | apply keep_drew | apply keep_alloc | refine keep_far ?_ GW307.out _ | refine keep_far ?_ GW318.out _) | exact HK.out)) hk (.inl rfl)); have n5_ := As.mk (hb); have n6_ := As.mk (hi); clear BK307; clear HO310; clear HO316; clear BK318; clear HK; clear HB; clear HI0; have BK307 := n0_; have HO310 := n1_; have HO316 := n2_; have BK318 := n3_; have HK := n4_; have HB := n5_; have HI0 := n6_; clear n0_ n1_ n2_ n3_ n4_ n5_ n6_; (try clear hb); (try clear hb2); (try clear hk); (try clear hi)))
    have n0_ := As.mk (rD HO310.out)
    have n1_ := As.mk (rD HO316.out)
    have n2_ := As.mk (bD BK307.out)
    have n3_ := As.mk (bD BK318.out)
    have n4_ := As.mk (IsS73.drew HI0.out)
    have n5_ := As.mk (keep_drew HK.out)
    have n6_ := As.mk (b1 HB.out)
    clear HO310
    clear HO316
    clear BK307
    clear BK318
    clear HI0
    clear HK
    clear HB
    have HO310 := n0_
    have HO316 := n1_
    have BK307 := n2_
    have BK318 := n3_
    have HI0 := n4_
    have HK := n5_
    have HB := n6_
    clear n0_ n1_ n2_ n3_ n4_ n5_ n6_
    refine start_ (n := 9) (S := fun w' => w'.cell? ⟨gb318, 0, none⟩ = some (.int .i64 t313) ∧ w'.cell? ⟨gb318, 1, none⟩ = some (.slice Ao43 t314.length co43)) (ds := [8]) #[F_,F_,F_,F_,F_,F_,F_,F_,F_] (by kernel_rfl) rfl rfl ⟨(blk_cell BK318.out 0).trans rfl, (blk_cell BK318.out 1).trans rfl⟩ (fun hHeld => ?_); refine with_tabW spec_l01Cur_badBits.tab6 spec_l01Cur_badBits.bits6 (fun HT_ HW_ => ?_)
    generalize w44.drew = w45 at HO310 HO316 BK307 BK318 HI0 HK HB hHeld ⊢
    refine pure_ (i := 0) (N := some 31) (v := ?_) (a' := ?_) #[T_,F_,F_,F_,F_,F_,F_,F_,F_] rfl rfl (any_of HT_.out (by kernel_rfl)) (fun _ _ _ h => h) (Or.inl ⟨by rfl, ?_⟩) ?_ ?_
    rotate_left
    ·intro w'
     go_simp
     with_reducible rfl
    rotate_left
    ·simp only [Act.put, List.setIfInBounds_toArray, List.set_cons_zero, List.set_cons_succ, i64_w, i32_w]
     rfl
    refine pure_ (i := 2) (N := some 33) (v := ?_) (a' := ?_) #[T_,F_,T_,F_,F_,F_,F_,F_,F_] rfl rfl (any_of HT_.out (by kernel_rfl)) (fun _ _ _ h => h) (Or.inl ⟨by rfl, ?_⟩) ?_ ?_
    rotate_left
    ·intro w'
     go_simp
     with_reducible rfl
    rotate_left
    ·simp only [Act.put, List.setIfInBounds_toArray, List.set_cons_zero, List.set_cons_succ, i64_w, i32_w]
     rfl
    refine take_ (i := 1) (N := some 32) (v := ?_) (a' := ?_) #[T_,T_,T_,F_,F_,F_,F_,F_,F_] rfl rfl (take_ofW HT_.out HW_.out (by kernel_rfl)) (fun _ _ _ h => h) (Or.inl ⟨by rfl, ?_⟩) hHeld ?_ ?_
    rotate_left
    ·rintro w' ⟨s0, s1⟩
     go_simp
     with_reducible rfl
    rotate_left
    ·simp only [Act.put, List.setIfInBounds_toArray, List.set_cons_zero, List.set_cons_succ, i64_w, i32_w]
     rfl
    refine one_ (i := 3) (N := some 34) #[T_,T_,T_,T_,F_,F_,F_,F_,F_] rfl rfl (one_of HT_.out (by kernel_rfl)) (by decide) (fun K hK => ?_)
    refine goes_ Try.func62 (by kernel_rfl) rfl #[.pointer (some ⟨g, 0, none⟩), .int .i64 2] (by rfl) rfl rfl (by (try simp only [List.map_toArray, List.map_cons, List.map_nil]); first | done | rfl | (simp only [List.length_drop, List.length_take]; rfl)) ?_
    with_reducible refine (spec_l01Cur_pick.calls g s0_0 t320 t321 2 t332 t333 t334 w0 _ ?side1 ?side2 A33.out).mono ?_
    (case side1 => repeat (first | (with_reducible first | exact HI0.out | apply IsS73.alloc | apply IsS73.drewN | apply IsS73.drew | apply IsS73.set_1 | apply IsS73.set_2 | refine IsS73.far ?_ NB0_307.out _ | refine IsS73.far ?_ NB0_318.out _) | exact HI0.out))
    (case side2 => repeat (first | (with_reducible first | exact HB.out | apply ba | apply bw | apply b1 | refine bs ?_ (IsS73.ge HI0.out) | refine bs ?_ GE307.out | refine bs ?_ GE318.out) | exact HB.out))
    rintro e w46 ⟨rfl, hi, hb, hk⟩
    refine ⟨_, rfl, ?_⟩
    have n0_ := As.mk (KeepBut.blk hk (g' := gb307) (o := .cells #[.int .i64 0, .slice none 0 0] 25 (0, 0)) (by (with_reducible repeat first | apply bN | apply bD | apply bA); exact BK307.out) NB307_0.out (by simp))
    have n1_ := As.mk (Kd.R_mono (Kd.R_keep (IsS73.apart (show IsS73 w0 _ g s0_0 t320 t321 from by repeat (first | (with_reducible first | exact HI0.out | apply IsS73.alloc | apply IsS73.drewN | apply IsS73.drew | apply IsS73.set_1 | apply IsS73.set_2 | refine IsS73.far ?_ NB0_307.out _ | refine IsS73.far ?_ NB0_318.out _) | exact HI0.out)) (by (with_reducible repeat first | apply rA | apply rN | apply rD); exact HO310.out) (by decide)) hk (fun _ h => h.2)) (fun _ h => h.1))
    have n2_ := As.mk (Kd.R_mono (Kd.R_keep (IsS73.apart (show IsS73 w0 _ g s0_0 t320 t321 from by repeat (first | (with_reducible first | exact HI0.out | apply IsS73.alloc | apply IsS73.drewN | apply IsS73.drew | apply IsS73.set_1 | apply IsS73.set_2 | refine IsS73.far ?_ NB0_307.out _ | refine IsS73.far ?_ NB0_318.out _) | exact HI0.out)) (by (with_reducible repeat first | apply rA | apply rN | apply rD); exact HO316.out) (by decide)) hk (fun _ h => h.2)) (fun _ h => h.1))
    have n3_ := As.mk (KeepBut.blk hk (g' := gb318) (o := .cells #[.int .i64 t313, .slice Ao43 t314.length co43] 25 (0, 0)) (by (with_reducible repeat first | apply bN | apply bD | apply bA); exact BK318.out) NB318_0.out (by simp))
    have n4_ := As.mk (KeepBut.trans (by repeat (first | (with_reducible first | exact HK.out | apply KeepBut.set_ | apply keep_drewN | apply keep_drew | apply keep_alloc | refine keep_far ?_ GW307.out _ | refine keep_far ?_ GW318.out _) | exact HK.out)) hk (.inl rfl))
    have n5_ := As.mk (hb)
    have n6_ := As.mk (hi)
    clear BK307
    clear HO310
    clear HO316
    clear BK318
    clear HK
    clear HB
    clear HI0
    have BK307 := n0_
    have HO310 := n1_
    have HO316 := n2_
    have BK318 := n3_
    have HK := n4_
    have HB := n5_
    have HI0 := n6_
    clear n0_ n1_ n2_ n3_ n4_ n5_ n6_
    (try clear hb)
    (try clear hb2)
    (try clear hk)
    (try clear hi)
    refine hK.out _ _ ⟨(blk_cell BK318.out 0).trans rfl, (blk_cell BK318.out 1).trans rfl⟩ (fun hHeld => ?_)
    clear hK K
    refine norm_ (a' := ?_) ?_ ?_
    rotate_left
    ·show Act.put _ (some 34) _ = _
     simp only [Act.put, List.setIfInBounds_toArray, List.set_cons_zero, List.set_cons_succ, i64_w, i32_w]
     rfl
    refine pure_ (i := 4) (N := some 35) (v := ?_) (a' := ?_) #[T_,T_,T_,T_,T_,F_,F_,F_,F_] rfl rfl (any_of HT_.out (by kernel_rfl)) (fun _ _ _ h => h) (Or.inl ⟨by rfl, ?_⟩) ?_ ?_
    rotate_left
    ·intro w'
     go_simp
     with_reducible rfl
    rotate_left
    ·simp only [Act.put, List.setIfInBounds_toArray, List.set_cons_zero, List.set_cons_succ, i64_w, i32_w]
     rfl
    refine one_ (i := 5) (N := some 36) #[T_,T_,T_,T_,T_,T_,F_,F_,F_] rfl rfl (one_of HT_.out (by kernel_rfl)) (by decide) (fun K hK => ?_)
    refine value_ (w1 := ?_) (v := ?_) (by rfl) rfl ?_ ?_
    rotate_left 2
    ·go_simp
     constructor
     ·rfl
     ·rfl
    refine hK.out _ _ ⟨(blk_cell (bA BK318.out _) 0).trans rfl, (blk_cell (bA BK318.out _) 1).trans rfl⟩ (fun hHeld => ?_)
    clear hK K
    refine norm_ (a' := ?_) ?_ ?_
    rotate_left
    ·show Act.put _ (some 36) _ = _
     simp only [Act.put, List.setIfInBounds_toArray, List.set_cons_zero, List.set_cons_succ, i64_w, i32_w]
     rfl
    refine one_ (i := 6) (N := some 37) #[T_,T_,T_,T_,T_,T_,T_,F_,F_] rfl rfl (one_of HT_.out (by kernel_rfl)) (by decide) (fun K hK => ?_)
    refine Kd.R_append_step (Kd.int .u64) w.heap.size (by rfl) (.tmp 32) (.tmp 36) 23 53 (.int .u64 0) 8 rfl Try.underlying23 info53 rfl (by decide) (by omega) (.slice Ao43 t314.length co43) t314 (IntKind.u64.wrap (t332)) [.int .u64 (IntKind.u64.wrap (t332))] (fun _ => True) (fun _ => False) rfl rfl ?aP (fun _ hk => hk.elim) ?aF ?aO (Below.refl _ _) ?aS ?aL ?_
    (case aP => exact rfl)
    (case aF => exact (fun _ _ => trivial))
    (case aO => exact (by (with_reducible repeat first | apply rA | apply rN | apply rD); exact HO316.out))
    (case aS => exact (keep_size (w := w) (g := g) (row := none) (by repeat (first | (with_reducible first | exact HK.out | apply KeepBut.set_ | apply keep_drewN | apply keep_drew | apply keep_alloc | refine keep_far ?_ GW307.out _ | refine keep_far ?_ GW318.out _) | exact HK.out))))
    (case aL => have := LMc34.out; omega)
    intro v336 w47 ho hb hg hat
    rw [← Ny335.out] at ho
    have n0_ := As.mk (IsS73.grown (by repeat (first | (with_reducible first | exact HI0.out | apply IsS73.alloc | apply IsS73.drewN | apply IsS73.drew | apply IsS73.set_1 | apply IsS73.set_2 | refine IsS73.far ?_ NB0_307.out _ | refine IsS73.far ?_ NB0_318.out _) | exact HI0.out)) hg (IsS73.own_ne HI0.out HO316.out (by decide)))
    have n1_ := As.mk (blk_grown (g := gb307) (o := .cells #[.int .i64 0, .slice none 0 0] 25 (0, 0)) (by (with_reducible repeat first | apply bN | apply bD | apply bA); exact BK307.out) hg (Kd.R_ne HO316.out BK307.out (by decide)))
    have n2_ := As.mk (Kd.R_over' (by (with_reducible repeat first | apply rA | apply rN | apply rD); exact HO310.out) (Kd.R_typed (by (with_reducible repeat first | apply rA | apply rN | apply rD); exact HO316.out)) (by decide) hg)
    have n3_ := As.mk (blk_grown (g := gb318) (o := .cells #[.int .i64 t313, .slice Ao43 t314.length co43] 25 (0, 0)) (by (with_reducible repeat first | apply bN | apply bD | apply bA); exact BK318.out) hg (Kd.R_ne HO316.out BK318.out (by decide)))
    have n4_ := As.mk (below_weaken (by repeat (first | (with_reducible first | exact HB.out | apply ba | apply bw | apply b1 | refine bs ?_ (IsS73.ge HI0.out) | refine bs ?_ GE307.out | refine bs ?_ GE318.out) | exact HB.out)) HL.out hb)
    have n5_ := As.mk (KeepBut.trans (by repeat (first | (with_reducible first | exact HK.out | apply KeepBut.set_ | apply keep_drewN | apply keep_drew | apply keep_alloc | refine keep_far ?_ GW307.out _ | refine keep_far ?_ GW318.out _) | exact HK.out)) (KeepBut.of_grown hg g) (Kd.R_base2 HO316.out))
    have n6_ := As.mk (ho)
    clear HI0
    clear BK307
    clear HO310
    clear BK318
    clear HB
    clear HK
    clear HO316
    have HI0 := n0_
    have BK307 := n1_
    have HO310 := n2_
    have BK318 := n3_
    have HB := n4_
    have HK := n5_
    have HO337 := n6_
    clear n0_ n1_ n2_ n3_ n4_ n5_ n6_
    clear ho hb hg hat
    obtain ⟨Ao48, co48, eo48⟩ := rS HO337.out
    (first | subst eo48 | (injection eo48 with f1_ f2_ f3_; have f4_ := f1_.symm; have f5_ := f3_.symm; clear f1_ f2_ f3_; subst f4_; subst f5_))
    refine hK.out _ _ ⟨(blk_cell BK318.out 0).trans rfl, (blk_cell BK318.out 1).trans rfl⟩ (fun hHeld => ?_)
    clear hK K
    refine norm_ (a' := ?_) ?_ ?_
    rotate_left
    ·show Act.put _ (some 37) _ = _
     simp only [Act.put, List.setIfInBounds_toArray, List.set_cons_zero, List.set_cons_succ, i64_w, i32_w]
     rfl
    refine pure_ (i := 7) (N := some 38) (v := ?_) (a' := ?_) #[T_,T_,T_,T_,T_,T_,T_,T_,F_] rfl rfl (any_of HT_.out (by kernel_rfl)) (fun _ _ _ h => h) (Or.inl ⟨by rfl, ?_⟩) ?_ ?_
    rotate_left
    ·intro w'
     go_simp
     with_reducible rfl
    rotate_left
    ·simp only [Act.put, List.setIfInBounds_toArray, List.set_cons_zero, List.set_cons_succ, i64_w, i32_w]
     rfl
    refine last_ (i := 8) (N := none) #[T_,T_,T_,T_,T_,T_,T_,T_,T_] rfl rfl (one_of HT_.out (by kernel_rfl)) (by decide) (fun K hK => ?_)
    have hs49 : w47.cell? ⟨gb318, 1, none⟩ = some (.slice Ao43 t314.length co43) := (blk_cell BK318.out 1).trans rfl
    have hfs49 := blk_frozen BK318.out 1
    have hns49_0 := NB307_318.out
    have hms49_0 := NB318_307.out
    refine skip_ (w1 := ?_) (by rfl) rfl ?_ ?_
    rotate_left
    ·go_simp
     rfl
    refine hK.out _ _ ?_
    clear hK K
    refine done_ (done_of HT_.out (by kernel_rfl)) ?_
    have hcz50_0 : w47.cell? ⟨gb318, 0, none⟩ = some (.int .i64 t313) := (blk_cell BK318.out 0).trans rfl
    have hcz50_1 : w47.cell? ⟨gb318, 1, none⟩ = some (.slice Ao43 t314.length co43) := (blk_cell BK318.out 1).trans rfl
    have hfz50_0 := blk_frozen BK318.out 0
    have hfz50_1 := blk_frozen BK318.out 1
    have hnb51 := NB307_0.out
    have hnc51 := NB0_307.out
    have hcz52_0 : w47.cell? ⟨gb307, 0, none⟩ = some (.int .i64 0) := (blk_cell BK307.out 0).trans rfl
    have hcz52_1 : w47.cell? ⟨gb307, 1, none⟩ = some (.slice none 0 0) := (blk_cell BK307.out 1).trans rfl
    have hfz52_0 := blk_frozen BK307.out 0
    have hfz52_1 := blk_frozen BK307.out 1
    try go_wp2
    refine bodyPost_ret (results_cell_row rfl _ _ gb307 25 #[.int .i64 t313, .slice Ao48 y335.length co48] (0, 0) _ rfl (by (with_reducible repeat first | apply bN | apply bD | apply bA); refine blk_put (cs := #[.int .i64 t313, .slice none 0 0]) ?_ 1 _ rfl; (with_reducible repeat first | apply bN | apply bD | apply bA); refine blk_put (cs := #[.int .i64 0, .slice none 0 0]) ?_ 0 _ rfl; (with_reducible repeat first | apply bN | apply bD | apply bA); refine blk_far ?_ NB307_318.out _; (with_reducible repeat first | apply bN | apply bD | apply bA); exact BK307.out) Try.underlying25 rfl (by kernel_rfl)) rfl ?_
    exact ⟨_, by first | rfl | (simp [errW_none, errW_some] <;> rfl) | (simp [*, errW_none, errW_some] <;> rfl), by (with_reducible repeat first | apply rA | apply rN | apply rD); exact Kd.R_mono (Kd.R_far (p := ⟨gb307, 1, none⟩) (Kd.R_far (p := ⟨gb307, 0, none⟩) (Kd.R_far (p := ⟨gb318, 1, none⟩) (Kd.R_types (Kd.R_types HO337.out BK318.out (by decide)) BK307.out (by decide)) (fun _ hk => hk.1.2) (.slice Ao48 y335.length co48)) (fun _ hk => hk.2) (.int .i64 t313)) (fun _ hk => hk.2) (.slice Ao48 y335.length co48)) (fun _ hk => trivial), by repeat (first | (with_reducible first | exact HI0.out | apply IsS73.alloc | apply IsS73.drewN | apply IsS73.drew | apply IsS73.set_1 | apply IsS73.set_2 | refine IsS73.far ?_ NB0_307.out _ | refine IsS73.far ?_ NB0_318.out _) | exact HI0.out), by repeat (first | (with_reducible first | exact HB.out | apply ba | apply bw | apply b1 | refine bs ?_ (IsS73.ge HI0.out) | refine bs ?_ GE307.out | refine bs ?_ GE318.out) | exact HB.out), by repeat (first | (with_reducible first | exact HK.out | apply KeepBut.set_ | apply keep_drewN | apply keep_drew | apply keep_alloc | refine keep_far ?_ GW307.out _ | refine keep_far ?_ GW318.out _) | exact HK.out)⟩
   ·rw [if_neg c34] at H
    exact absurd H (by simp)
  ·rw [if_neg c32] at H
   have c32b0 : (t319 == 1) = false := beq_eq_false_iff_ne.mpr c32
   have c32b1 : (t319 != 1) = true := bne_iff_ne.mpr c32
   by_cases c53 : t319 = 2
   ·rw [if_pos c53] at H
    have c53b0 : (t319 == 2) = true := beq_iff_eq.mpr c53
    have c53b1 : (t319 != 2) = false := bne_eq_false_iff_eq.mpr c53
    clear c53
    by_cases c54 : (t314.length : Int) > 0
    ·rw [if_pos c54] at H
     have c54b0 : decide (0 < (t314.length : Int)) = true := decide_eq_true c54
     have c54b1 : decide (0 < t314.length) = true := decide_eq_true (by omega)
     clear c54
     replace H := Option.bind_eq_some_iff.mp H
     obtain ⟨⟨t338, t339, t340⟩, A550, H⟩ := H
     replace H : (if 0 ≤ t338 then (if t338 < (t314.length : Int) then (some (t313, (t314.set (t338 : Int).toNat 18446744073709551615), t339, t340)) else (none)) else (none)) = some (r1, r2, r3, r4) := H
     have A55 := As.mk A550
     clear A550
     by_cases c56 : 0 ≤ t338
     ·rw [if_pos c56] at H
      have c56b0 : decide (0 ≤ t338) = true := decide_eq_true c56
      clear c56
      by_cases c57 : t338 < (t314.length : Int)
      ·rw [if_pos c57] at H
       have c57b0 : decide (t338 < (t314.length : Int)) = true := decide_eq_true c57
       clear c57
       obtain ⟨y341, hy341⟩ : ∃ y_ : List Int, y_ = (t314.set (t338 : Int).toNat 18446744073709551615) := ⟨_, rfl⟩
       replace H : (some (t313, y341, t339, t340)) = some (r1, r2, r3, r4) := by first | (rw [hy341]; with_reducible exact H) | (have H2_ := (Option.bind_some _ _).symm.trans H; rw [hy341]; with_reducible exact H2_) | (have H2_ := (Option.bind_some _ _).symm.trans H; with_reducible exact H2_) | with_reducible exact H | (rw [hy341]; exact H) | exact H
       have Ny341 := As.mk hy341
       clear hy341
       simp only [Option.some.injEq, Prod.mk.injEq] at H
       obtain ⟨rfl, rfl, rfl, rfl⟩ := H
       go_enter Try.func61, Try.ntmps61
       try go_wp2_with (first | ((with_reducible refine gd (N := 2) rfl ?_); refine box_event ?hg (N := 2) ?hd (cs := #[.int .i64 0, .slice none 0 0]) (t := 25) ?hr ?_; (case hd => rfl); (case hg => rfl); (case hr => first | (go_simp; done) | (go_simp; rfl)); intro gb307 hg w59 hbox hb; have n0_ := As.mk (IsS73.below (by repeat (first | (with_reducible first | exact HI0.out | apply IsS73.alloc | apply IsS73.drewN | apply IsS73.drew | apply IsS73.set_1 | apply IsS73.set_2) | exact HI0.out)) hb); have n1_ := As.mk (KeepBut.trans (by repeat (first | (with_reducible first | exact HK.out | apply KeepBut.set_ | apply keep_drewN | apply keep_drew | apply keep_alloc) | exact HK.out)) (KeepBut.of_below hb g none) (.inl rfl)); have n2_ := As.mk (bt (by repeat (first | (with_reducible first | exact HB.out | apply ba | apply bw | apply b1 | refine bs ?_ (IsS73.ge HI0.out)) | exact HB.out)) hb); have n3_ := As.mk (hbox); have n4_ := As.mk ((by rw [hg]; exact (keep_size (w := w) (g := g) (row := none) (by repeat (first | (with_reducible first | exact HK.out | apply KeepBut.set_ | apply keep_drewN | apply keep_drew | apply keep_alloc) | exact HK.out))) : w.heap.size ≤ gb307)); have n5_ := As.mk ((Nat.le_trans HW0.out (by rw [hg]; exact (keep_size (w := w) (g := g) (row := none) (by repeat (first | (with_reducible first | exact HK.out | apply KeepBut.set_ | apply keep_drewN | apply keep_drew | apply keep_alloc) | exact HK.out))) : w.heap.size ≤ gb307) : w0.heap.size ≤ gb307)); have n6_ := As.mk ((by rw [hg]; exact Nat.ne_of_lt (IsS73.lt (show IsS73 w0 _ g s0_0 s0_1 s0_2 from by repeat (first | (with_reducible first | exact HI0.out | apply IsS73.alloc | apply IsS73.drewN | apply IsS73.drew | apply IsS73.set_1 | apply IsS73.set_2) | exact HI0.out))) : g ≠ gb307)); have n7_ := As.mk ((by rw [hg]; exact Nat.ne_of_gt (IsS73.lt (show IsS73 w0 _ g s0_0 s0_1 s0_2 from by repeat (first | (with_reducible first | exact HI0.out | apply IsS73.alloc | apply IsS73.drewN | apply IsS73.drew | apply IsS73.set_1 | apply IsS73.set_2) | exact HI0.out))) : gb307 ≠ g)); clear HI0; clear HK; clear HB; have HI0 := n0_; have HK := n1_; have HB := n2_; have BK307 := n3_; have GW307 := n4_; have GE307 := n5_; have NB0_307 := n6_; have NB307_0 := n7_; clear n0_ n1_ n2_ n3_ n4_ n5_ n6_ n7_; clear hb hbox hg) | ((with_reducible refine gc (f := 69) rfl ?_); refine goesL_ (some 7) rfl rfl Try.func69 (by kernel_rfl) rfl #[.pointer (some ⟨g, 0, none⟩)] rfl (by (try simp only [List.map_toArray, List.map_cons, List.map_nil]); first | done | rfl | (simp only [List.length_drop, List.length_take]; rfl)) ?_; (with_reducible refine (spec_l01Cur_row.calls k g s0_0 s0_1 s0_2 t308 t311 t312 w0 _ ?side1 ?side2 A2.out).mono ?_); (case side1 => repeat (first | (with_reducible first | exact HI0.out | apply IsS73.alloc | apply IsS73.drewN | apply IsS73.drew | apply IsS73.set_1 | apply IsS73.set_2 | refine IsS73.far ?_ NB0_307.out _) | exact HI0.out)); (case side2 => repeat (first | (with_reducible first | exact HB.out | apply ba | apply bw | apply b1 | refine bs ?_ (IsS73.ge HI0.out) | refine bs ?_ GE307.out) | exact HB.out)); rintro e w60 ⟨v309, rfl, ho0, hi, hb, hk⟩; refine ⟨_, rfl, ?_⟩; have n0_ := As.mk (KeepBut.blk hk (g' := gb307) (o := .cells #[.int .i64 0, .slice none 0 0] 25 (0, 0)) (by (with_reducible repeat first | apply bN | apply bD | apply bA); exact BK307.out) NB307_0.out (by simp)); have n1_ := As.mk (rL ho0 (keep_size (w := w) (g := g) (row := none) (by repeat (first | (with_reducible first | exact HK.out | apply KeepBut.set_ | apply keep_drewN | apply keep_drew | apply keep_alloc | refine keep_far ?_ GW307.out _) | exact HK.out)))); have n2_ := As.mk (KeepBut.trans (by repeat (first | (with_reducible first | exact HK.out | apply KeepBut.set_ | apply keep_drewN | apply keep_drew | apply keep_alloc | refine keep_far ?_ GW307.out _) | exact HK.out)) hk (.inl rfl)); have n3_ := As.mk (hb); have n4_ := As.mk (hi); clear BK307; clear HK; clear HB; clear HI0; have BK307 := n0_; have HO310 := n1_; have HK := n2_; have HB := n3_; have HI0 := n4_; clear n0_ n1_ n2_ n3_ n4_; (try clear hb); (try clear hb2); (try clear hk); (try clear hi); (try clear ho0); obtain ⟨Ao61, co61, eo61⟩ := rS HO310.out; subst eo61) | ((with_reducible refine gc (f := 13) rfl ?_); refine goesL_ (some 8) rfl rfl Try.func13 (by kernel_rfl) rfl #[.slice Ao61 t308.length co61] rfl (by (try simp only [List.map_toArray, List.map_cons, List.map_nil]); first | done | rfl | (simp only [List.length_drop, List.length_take]; rfl)) ?_; (with_reducible refine (spec_BitsOf.calls k _ _ t308 t313 t314 t317 _ ?side1 ?side2 A3.out).mono ?_); (case side1 => repeat (first | exact (rR HO310.out).2.2 | (with_reducible refine cA ?_ _) | (with_reducible refine cN ?_ _) | (with_reducible refine cD ?_))); (case side2 => exact (rR HO310.out).2.1); rintro e w62 ⟨v315, rfl, ho0, hb⟩; refine ⟨_, rfl, ?_⟩; have n0_ := As.mk (rB (by (with_reducible repeat first | apply rA | apply rN | apply rD); exact HO310.out) hb); have n1_ := As.mk (rL ho0 (keep_size (w := w) (g := g) (row := none) (by repeat (first | (with_reducible first | exact HK.out | apply KeepBut.set_ | apply keep_drewN | apply keep_drew | apply keep_alloc | refine keep_far ?_ GW307.out _) | exact HK.out)))); have n2_ := As.mk (IsS73.below (by repeat (first | (with_reducible first | exact HI0.out | apply IsS73.alloc | apply IsS73.drewN | apply IsS73.drew | apply IsS73.set_1 | apply IsS73.set_2 | refine IsS73.far ?_ NB0_307.out _) | exact HI0.out)) hb); have n3_ := As.mk (bb (g := gb307) (o := .cells #[.int .i64 0, .slice none 0 0] 25 (0, 0)) (by (with_reducible repeat first | apply bN | apply bD | apply bA); exact BK307.out) hb); have n4_ := As.mk (KeepBut.trans (by repeat (first | (with_reducible first | exact HK.out | apply KeepBut.set_ | apply keep_drewN | apply keep_drew | apply keep_alloc | refine keep_far ?_ GW307.out _) | exact HK.out)) (KeepBut.of_below hb g none) (.inl rfl)); have n5_ := As.mk (bt (by repeat (first | (with_reducible first | exact HB.out | apply ba | apply bw | apply b1 | refine bs ?_ (IsS73.ge HI0.out) | refine bs ?_ GE307.out) | exact HB.out)) hb); clear HO310; clear HI0; clear BK307; clear HK; clear HB; have HO310 := n0_; have HO316 := n1_; have HI0 := n2_; have BK307 := n3_; have HK := n4_; have HB := n5_; clear n0_ n1_ n2_ n3_ n4_ n5_; (try clear hb); (try clear hb2); (try clear hk); (try clear hi); (try clear ho0)) | ((with_reducible refine gd (N := 3) rfl ?_); refine box_event ?hg (N := 3) ?hd (cs := #[.int .i64 0, .slice none 0 0]) (t := 25) ?hr ?_; (case hd => rfl); (case hg => rfl); (case hr => first | (go_simp; done) | (go_simp; rfl)); intro gb318 hg w63 hbox hb; have n0_ := As.mk (rB (by (with_reducible repeat first | apply rA | apply rN | apply rD); exact HO310.out) hb); have n1_ := As.mk (rB (by (with_reducible repeat first | apply rA | apply rN | apply rD); exact HO316.out) hb); have n2_ := As.mk (IsS73.below (by repeat (first | (with_reducible first | exact HI0.out | apply IsS73.alloc | apply IsS73.drewN | apply IsS73.drew | apply IsS73.set_1 | apply IsS73.set_2 | refine IsS73.far ?_ NB0_307.out _) | exact HI0.out)) hb); have n3_ := As.mk (bb (g := gb307) (o := .cells #[.int .i64 0, .slice none 0 0] 25 (0, 0)) (by (with_reducible repeat first | apply bN | apply bD | apply bA); exact BK307.out) hb); have n4_ := As.mk (KeepBut.trans (by repeat (first | (with_reducible first | exact HK.out | apply KeepBut.set_ | apply keep_drewN | apply keep_drew | apply keep_alloc | refine keep_far ?_ GW307.out _) | exact HK.out)) (KeepBut.of_below hb g none) (.inl rfl)); have n5_ := As.mk (bt (by repeat (first | (with_reducible first | exact HB.out | apply ba | apply bw | apply b1 | refine bs ?_ (IsS73.ge HI0.out) | refine bs ?_ GE307.out) | exact HB.out)) hb); have n6_ := As.mk (hbox); have n7_ := As.mk ((by rw [hg]; exact (keep_size (w := w) (g := g) (row := none) (by repeat (first | (with_reducible first | exact HK.out | apply KeepBut.set_ | apply keep_drewN | apply keep_drew | apply keep_alloc | refine keep_far ?_ GW307.out _) | exact HK.out))) : w.heap.size ≤ gb318)); have n8_ := As.mk ((Nat.le_trans HW0.out (by rw [hg]; exact (keep_size (w := w) (g := g) (row := none) (by repeat (first | (with_reducible first | exact HK.out | apply KeepBut.set_ | apply keep_drewN | apply keep_drew | apply keep_alloc | refine keep_far ?_ GW307.out _) | exact HK.out))) : w.heap.size ≤ gb318) : w0.heap.size ≤ gb318)); have n9_ := As.mk ((by rw [hg]; exact Nat.ne_of_lt (blk_lt (g := gb307) (o := .cells #[.int .i64 0, .slice none 0 0] 25 (0, 0)) (by (with_reducible repeat first | apply bN | apply bD | apply bA); exact BK307.out)) : gb307 ≠ gb318)); have n10_ := As.mk ((by rw [hg]; exact Nat.ne_of_gt (blk_lt (g := gb307) (o := .cells #[.int .i64 0, .slice none 0 0] 25 (0, 0)) (by (with_reducible repeat first | apply bN | apply bD | apply bA); exact BK307.out)) : gb318 ≠ gb307)); have n11_ := As.mk ((by rw [hg]; exact Nat.ne_of_lt (IsS73.lt (show IsS73 w0 _ g s0_0 t311 t312 from by repeat (first | (with_reducible first | exact HI0.out | apply IsS73.alloc | apply IsS73.drewN | apply IsS73.drew | apply IsS73.set_1 | apply IsS73.set_2 | refine IsS73.far ?_ NB0_307.out _) | exact HI0.out))) : g ≠ gb318)); have n12_ := As.mk ((by rw [hg]; exact Nat.ne_of_gt (IsS73.lt (show IsS73 w0 _ g s0_0 t311 t312 from by repeat (first | (with_reducible first | exact HI0.out | apply IsS73.alloc | apply IsS73.drewN | apply IsS73.drew | apply IsS73.set_1 | apply IsS73.set_2 | refine IsS73.far ?_ NB0_307.out _) | exact HI0.out))) : gb318 ≠ g)); clear HO310; clear HO316; clear HI0; clear BK307; clear HK; clear HB; have HO310 := n0_; have HO316 := n1_; have HI0 := n2_; have BK307 := n3_; have HK := n4_; have HB := n5_; have BK318 := n6_; have GW318 := n7_; have GE318 := n8_; have NB307_318 := n9_; have NB318_307 := n10_; have NB0_318 := n11_; have NB318_0 := n12_; clear n0_ n1_ n2_ n3_ n4_ n5_ n6_ n7_ n8_ n9_ n10_ n11_ n12_; clear hb hbox hg; have hnb64 := NB318_307.out; have hnc64 := NB307_318.out; have hnb65 := NB318_0.out; have hnc65 := NB0_318.out; have hcz66_0 : w63.cell? ⟨gb318, 0, none⟩ = some (.int .i64 0) := (blk_cell BK318.out 0).trans rfl; have hcz66_1 : w63.cell? ⟨gb318, 1, none⟩ = some (.slice none 0 0) := (blk_cell BK318.out 1).trans rfl; have hfz66_0 := blk_frozen BK318.out 0; have hfz66_1 := blk_frozen BK318.out 1; obtain ⟨Ao67, co67, eo67⟩ := rS HO316.out; subst eo67) | ((with_reducible refine gc (f := 62) rfl ?_); refine goesL_ (some 12) rfl rfl Try.func62 (by kernel_rfl) rfl #[.pointer (some ⟨g, 0, none⟩), .int .i64 14] rfl (by (try simp only [List.map_toArray, List.map_cons, List.map_nil]); first | done | rfl | (simp only [List.length_drop, List.length_take]; rfl)) ?_; (with_reducible refine (spec_l01Cur_pick.calls g s0_0 t311 t312 14 t319 t320 t321 w0 _ ?side1 ?side2 A4.out).mono ?_); (case side1 => repeat (first | (with_reducible first | exact HI0.out | apply IsS73.alloc | apply IsS73.drewN | apply IsS73.drew | apply IsS73.set_1 | apply IsS73.set_2 | refine IsS73.far ?_ NB0_307.out _ | refine IsS73.far ?_ NB0_318.out _) | exact HI0.out)); (case side2 => repeat (first | (with_reducible first | exact HB.out | apply ba | apply bw | apply b1 | refine bs ?_ (IsS73.ge HI0.out) | refine bs ?_ GE307.out | refine bs ?_ GE318.out) | exact HB.out)); rintro e w68 ⟨rfl, hi, hb, hk⟩; refine ⟨_, rfl, ?_⟩; have n0_ := As.mk (KeepBut.blk hk (g' := gb307) (o := .cells #[.int .i64 0, .slice none 0 0] 25 (0, 0)) (by (with_reducible repeat first | apply bN | apply bD | apply bA); refine blk_far ?_ NB307_318.out _; (with_reducible repeat first | apply bN | apply bD | apply bA); refine blk_far ?_ NB307_318.out _; (with_reducible repeat first | apply bN | apply bD | apply bA); exact BK307.out) NB307_0.out (by simp)); have n1_ := As.mk (Kd.R_mono (Kd.R_keep (IsS73.apart (show IsS73 w0 _ g s0_0 t311 t312 from by repeat (first | (with_reducible first | exact HI0.out | apply IsS73.alloc | apply IsS73.drewN | apply IsS73.drew | apply IsS73.set_1 | apply IsS73.set_2 | refine IsS73.far ?_ NB0_307.out _ | refine IsS73.far ?_ NB0_318.out _) | exact HI0.out)) (by (with_reducible repeat first | apply rA | apply rN | apply rD); exact (Kd.R_mono (Kd.R_far (p := ⟨gb318, 1, none⟩) (Kd.R_far (p := ⟨gb318, 0, none⟩) (Kd.R_types HO310.out BK318.out (by decide)) (fun _ hk => hk.2) (.int .i64 t313)) (fun _ hk => hk.2) (.slice Ao67 t314.length co67)) (fun _ h_ => h_.1))) (by decide)) hk (fun _ h => h.2)) (fun _ h => h.1)); have n2_ := As.mk (Kd.R_mono (Kd.R_keep (IsS73.apart (show IsS73 w0 _ g s0_0 t311 t312 from by repeat (first | (with_reducible first | exact HI0.out | apply IsS73.alloc | apply IsS73.drewN | apply IsS73.drew | apply IsS73.set_1 | apply IsS73.set_2 | refine IsS73.far ?_ NB0_307.out _ | refine IsS73.far ?_ NB0_318.out _) | exact HI0.out)) (by (with_reducible repeat first | apply rA | apply rN | apply rD); exact (Kd.R_mono (Kd.R_far (p := ⟨gb318, 1, none⟩) (Kd.R_far (p := ⟨gb318, 0, none⟩) (Kd.R_types HO316.out BK318.out (by decide)) (fun _ hk => hk.2) (.int .i64 t313)) (fun _ hk => hk.2) (.slice Ao67 t314.length co67)) (fun _ h_ => h_.1))) (by decide)) hk (fun _ h => h.2)) (fun _ h => h.1)); have n3_ := As.mk (KeepBut.blk hk (g' := gb318) (o := .cells #[.int .i64 t313, .slice Ao67 t314.length co67] 25 (0, 0)) (by (with_reducible repeat first | apply bN | apply bD | apply bA); refine blk_put (cs := #[.int .i64 t313, .slice none 0 0]) ?_ 1 _ rfl; (with_reducible repeat first | apply bN | apply bD | apply bA); refine blk_put (cs := #[.int .i64 0, .slice none 0 0]) ?_ 0 _ rfl; (with_reducible repeat first | apply bN | apply bD | apply bA); exact BK318.out) NB318_0.out (by simp)); have n4_ := As.mk (KeepBut.trans (by repeat (first | (with_reducible first | exact HK.out | apply KeepBut.set_ | apply keep_drewN | apply keep_drew | apply keep_alloc | refine keep_far ?_ GW307.out _ | refine keep_far ?_ GW318.out _) | exact HK.out)) hk (.inl rfl)); have n5_ := As.mk (hb); have n6_ := As.mk (hi); clear BK307; clear HO310; clear HO316; clear BK318; clear HK; clear HB; clear HI0; have BK307 := n0_; have HO310 := n1_; have HO316 := n2_; have BK318 := n3_; have HK := n4_; have HB := n5_; have HI0 := n6_; clear n0_ n1_ n2_ n3_ n4_ n5_ n6_; (try clear hb); (try clear hb2); (try clear hk); (try clear hi); have hcz69_0 : w68.cell? ⟨gb318, 0, none⟩ = some (.int .i64 t313) := (blk_cell BK318.out 0).trans rfl; have hcz69_1 : w68.cell? ⟨gb318, 1, none⟩ = some (.slice Ao67 t314.length co67) := (blk_cell BK318.out 1).trans rfl; have hfz69_0 := blk_frozen BK318.out 0; have hfz69_1 := blk_frozen BK318.out 1))
       have n0_ := As.mk (rD HO310.out)
       have n1_ := As.mk (rD HO316.out)
       have n2_ := As.mk (bD BK307.out)
       have n3_ := As.mk (bD BK318.out)
       have n4_ := As.mk (IsS73.drew HI0.out)
       have n5_ := As.mk (keep_drew HK.out)
       have n6_ := As.mk (b1 HB.out)
       clear HO310
       clear HO316
       clear BK307
       clear BK318
       clear HI0
       clear HK
       clear HB
       have HO310 := n0_
       have HO316 := n1_
       have BK307 := n2_
       have BK318 := n3_
       have HI0 := n4_
       have HK := n5_
       have HB := n6_
       clear n0_ n1_ n2_ n3_ n4_ n5_ n6_
       refine start_ (n := 9) (S := fun w' => w'.cell? ⟨gb318, 0, none⟩ = some (.int .i64 t313) ∧ w'.cell? ⟨gb318, 1, none⟩ = some (.slice Ao67 t314.length co67)) (ds := [8]) #[F_,F_,F_,F_,F_,F_,F_,F_,F_] (by kernel_rfl) rfl rfl ⟨(blk_cell BK318.out 0).trans rfl, (blk_cell BK318.out 1).trans rfl⟩ (fun hHeld => ?_); refine with_tabW spec_l01Cur_badBits.tab9 spec_l01Cur_badBits.bits9 (fun HT_ HW_ => ?_)
       generalize w68.drew = w70 at HO310 HO316 BK307 BK318 HI0 HK HB hHeld ⊢
       refine pure_ (i := 0) (N := some 45) (v := ?_) (a' := ?_) #[T_,F_,F_,F_,F_,F_,F_,F_,F_] rfl rfl (any_of HT_.out (by kernel_rfl)) (fun _ _ _ h => h) (Or.inl ⟨by rfl, ?_⟩) ?_ ?_
       rotate_left
       ·intro w'
        go_simp
        with_reducible rfl
       rotate_left
       ·simp only [Act.put, List.setIfInBounds_toArray, List.set_cons_zero, List.set_cons_succ, i64_w, i32_w]
        rfl
       refine pure_ (i := 2) (N := some 47) (v := ?_) (a' := ?_) #[T_,F_,T_,F_,F_,F_,F_,F_,F_] rfl rfl (any_of HT_.out (by kernel_rfl)) (fun _ _ _ h => h) (Or.inl ⟨by rfl, ?_⟩) ?_ ?_
       rotate_left
       ·intro w'
        go_simp
        with_reducible rfl
       rotate_left
       ·simp only [Act.put, List.setIfInBounds_toArray, List.set_cons_zero, List.set_cons_succ, i64_w, i32_w]
        rfl
       refine pure_ (i := 3) (N := some 48) (v := ?_) (a' := ?_) #[T_,F_,T_,T_,F_,F_,F_,F_,F_] rfl rfl (any_of HT_.out (by kernel_rfl)) (fun _ _ _ h => h) (Or.inl ⟨by rfl, ?_⟩) ?_ ?_
       rotate_left
       ·intro w'
        go_simp
        with_reducible rfl
       rotate_left
       ·simp only [Act.put, List.setIfInBounds_toArray, List.set_cons_zero, List.set_cons_succ, i64_w, i32_w]
        rfl
       refine take_ (i := 1) (N := some 46) (v := ?_) (a' := ?_) #[T_,T_,T_,T_,F_,F_,F_,F_,F_] rfl rfl (take_ofW HT_.out HW_.out (by kernel_rfl)) (fun _ _ _ h => h) (Or.inl ⟨by rfl, ?_⟩) hHeld ?_ ?_
       rotate_left
       ·rintro w' ⟨s0, s1⟩
        go_simp
        with_reducible rfl
       rotate_left
       ·simp only [Act.put, List.setIfInBounds_toArray, List.set_cons_zero, List.set_cons_succ, i64_w, i32_w]
        rfl
       refine take_ (i := 4) (N := some 49) (v := ?_) (a' := ?_) #[T_,T_,T_,T_,T_,F_,F_,F_,F_] rfl rfl (take_ofW HT_.out HW_.out (by kernel_rfl)) (fun _ _ _ h => h) (Or.inl ⟨by rfl, ?_⟩) hHeld ?_ ?_
       rotate_left
       ·rintro w' ⟨s0, s1⟩
        go_simp
        with_reducible rfl
       rotate_left
       ·simp only [Act.put, List.setIfInBounds_toArray, List.set_cons_zero, List.set_cons_succ, i64_w, i32_w]
        rfl
       refine pure_ (i := 5) (N := some 50) (v := ?_) (a' := ?_) #[T_,T_,T_,T_,T_,T_,F_,F_,F_] rfl rfl (any_of HT_.out (by kernel_rfl)) (fun _ _ _ h => h) (Or.inl ⟨by rfl, ?_⟩) ?_ ?_
       rotate_left
       ·intro w'
        go_simp
        with_reducible rfl
       rotate_left
       ·simp only [Act.put, List.setIfInBounds_toArray, List.set_cons_zero, List.set_cons_succ, i64_w, i32_w]
        rfl
       refine one_ (i := 6) (N := some 51) #[T_,T_,T_,T_,T_,T_,T_,F_,F_] rfl rfl (one_of HT_.out (by kernel_rfl)) (by decide) (fun K hK => ?_)
       refine goes_ Try.func62 (by kernel_rfl) rfl #[.pointer (some ⟨g, 0, none⟩), .int .i64 (t314.length : Int)] (by rfl) rfl rfl (by (try simp only [List.map_toArray, List.map_cons, List.map_nil]); first | done | rfl | (simp only [List.length_drop, List.length_take]; rfl)) ?_
       with_reducible refine (spec_l01Cur_pick.calls g s0_0 t320 t321 (t314.length : Int) t338 t339 t340 w0 _ ?side1 ?side2 A55.out).mono ?_
       (case side1 => repeat (first | (with_reducible first | exact HI0.out | apply IsS73.alloc | apply IsS73.drewN | apply IsS73.drew | apply IsS73.set_1 | apply IsS73.set_2 | refine IsS73.far ?_ NB0_307.out _ | refine IsS73.far ?_ NB0_318.out _) | exact HI0.out))
       (case side2 => repeat (first | (with_reducible first | exact HB.out | apply ba | apply bw | apply b1 | refine bs ?_ (IsS73.ge HI0.out) | refine bs ?_ GE307.out | refine bs ?_ GE318.out) | exact HB.out))
       rintro e w71 ⟨rfl, hi, hb, hk⟩
       refine ⟨_, rfl, ?_⟩
       have n0_ := As.mk (KeepBut.blk hk (g' := gb307) (o := .cells #[.int .i64 0, .slice none 0 0] 25 (0, 0)) (by (with_reducible repeat first | apply bN | apply bD | apply bA); exact BK307.out) NB307_0.out (by simp))
       have n1_ := As.mk (Kd.R_mono (Kd.R_keep (IsS73.apart (show IsS73 w0 _ g s0_0 t320 t321 from by repeat (first | (with_reducible first | exact HI0.out | apply IsS73.alloc | apply IsS73.drewN | apply IsS73.drew | apply IsS73.set_1 | apply IsS73.set_2 | refine IsS73.far ?_ NB0_307.out _ | refine IsS73.far ?_ NB0_318.out _) | exact HI0.out)) (by (with_reducible repeat first | apply rA | apply rN | apply rD); exact HO310.out) (by decide)) hk (fun _ h => h.2)) (fun _ h => h.1))
       have n2_ := As.mk (Kd.R_mono (Kd.R_keep (IsS73.apart (show IsS73 w0 _ g s0_0 t320 t321 from by repeat (first | (with_reducible first | exact HI0.out | apply IsS73.alloc | apply IsS73.drewN | apply IsS73.drew | apply IsS73.set_1 | apply IsS73.set_2 | refine IsS73.far ?_ NB0_307.out _ | refine IsS73.far ?_ NB0_318.out _) | exact HI0.out)) (by (with_reducible repeat first | apply rA | apply rN | apply rD); exact HO316.out) (by decide)) hk (fun _ h => h.2)) (fun _ h => h.1))
       have n3_ := As.mk (KeepBut.blk hk (g' := gb318) (o := .cells #[.int .i64 t313, .slice Ao67 t314.length co67] 25 (0, 0)) (by (with_reducible repeat first | apply bN | apply bD | apply bA); exact BK318.out) NB318_0.out (by simp))
       have n4_ := As.mk (KeepBut.trans (by repeat (first | (with_reducible first | exact HK.out | apply KeepBut.set_ | apply keep_drewN | apply keep_drew | apply keep_alloc | refine keep_far ?_ GW307.out _ | refine keep_far ?_ GW318.out _) | exact HK.out)) hk (.inl rfl))
       have n5_ := As.mk (hb)
       have n6_ := As.mk (hi)
       clear BK307
       clear HO310
       clear HO316
       clear BK318
       clear HK
       clear HB
       clear HI0
       have BK307 := n0_
       have HO310 := n1_
       have HO316 := n2_
       have BK318 := n3_
       have HK := n4_
       have HB := n5_
       have HI0 := n6_
       clear n0_ n1_ n2_ n3_ n4_ n5_ n6_
       (try clear hb)
       (try clear hb2)
       (try clear hk)
       (try clear hi)
       have p58 : 0 ≤ (t338 : Int) := of_decide_eq_true (by first | (with_reducible assumption) | assumption)
       have q58 : (t338 : Int) < ((t314.length : Int) : Int) := of_decide_eq_true (by first | (with_reducible assumption) | assumption)
       obtain ⟨go58, co58, eo58, gb58, gl58, cl58, HG58⟩ := Kd.R_form HO316.out (by omega)
       (first | cases eo58 | (injection eo58 with ea_ en_ ec_; (first | subst ea_ | (injection ea_ with ea_; subst ea_)); subst ec_; clear en_))
       have GB58 := As.mk gb58
       have GG58 := As.mk HG58
       clear gb58 gl58 HG58
       obtain ⟨hx58_0, hf58_0⟩ := Kd.R_celln 0 HO316.out (t338 : Int) p58 q58
       replace p58 := eq_true p58
       replace q58 := eq_true q58
       have HN0_go58 := As.mk (show g ≠ go58 from by have h_ := IsS73.own_ne HI0.out HO316.out (by decide); intro e_; exact h_ (by rw [e_]; rfl))
       have HP72 := Kd.R_putn HO316.out (t338 : Int) 18446744073709551615
       rw [← Ny341.out] at HP72
       have HQ72 := As.mk HP72
       clear HP72
       refine hK.out _ _ ⟨(blk_cell BK318.out 0).trans rfl, (blk_cell BK318.out 1).trans rfl⟩ (fun hHeld => ?_)
       clear hK K
       refine norm_ (a' := ?_) ?_ ?_
       rotate_left
       ·show Act.put _ (some 51) _ = _
        simp only [Act.put, List.setIfInBounds_toArray, List.set_cons_zero, List.set_cons_succ, i64_w, i32_w]
        rfl
       refine pure_ (i := 7) (N := some 52) (v := ?_) (a' := ?_) #[T_,T_,T_,T_,T_,T_,T_,T_,F_] rfl rfl (any_of HT_.out (by kernel_rfl)) (fun _ _ _ h => h) (Or.inl ⟨by rfl, ?_⟩) ?_ ?_
       rotate_left
       ·intro w'
        go_simp
        with_reducible rfl
       rotate_left
       ·simp only [Act.put, List.setIfInBounds_toArray, List.set_cons_zero, List.set_cons_succ, i64_w, i32_w]
        rfl
       refine last_ (i := 8) (N := none) #[T_,T_,T_,T_,T_,T_,T_,T_,T_] rfl rfl (one_of HT_.out (by kernel_rfl)) (by decide) (fun K hK => ?_)
       refine skip_ (w1 := ?_) (by rfl) rfl ?_ ?_
       rotate_left
       ·go_simp
        rfl
       refine hK.out _ _ ?_
       clear hK K
       refine done_ (done_of HT_.out (by kernel_rfl)) ?_
       have n0_ : As (Kd.R (Kd.int .i64) 3 (w71.setCell ⟨go58, (t338 : Int).toNat, none⟩ (.int .u64 18446744073709551615)) w.heap.size (fun _ => True) (.slice Ao61 t308.length co61) t308) := ⟨by (with_reducible repeat first | apply rA | apply rN | apply rD); exact Kd.R_mono (Kd.R_far (p := ⟨go58, (t338 : Int).toNat, none⟩) (Kd.R_types HO310.out GG58.out (by decide)) (fun _ hk => hk.2) (.int .u64 18446744073709551615)) (fun _ hk => trivial)⟩
       have n1_ : As (Kd.R (Kd.int .u64) 53 (w71.setCell ⟨go58, (t338 : Int).toNat, none⟩ (.int .u64 18446744073709551615)) w.heap.size (fun _ => True) (.slice (some ⟨go58, 0, none⟩) t314.length co67) y341) := ⟨by (with_reducible repeat first | apply rA | apply rN | apply rD); exact HQ72.out⟩
       have n2_ : As ((w71.setCell ⟨go58, (t338 : Int).toNat, none⟩ (.int .u64 18446744073709551615)).heap[gb307]? = some (.cells #[.int .i64 0, .slice none 0 0] 25 (0, 0))) := ⟨by (with_reducible repeat first | apply bN | apply bD | apply bA); refine blk_far ?_ (by have h_ := Kd.R_ne HO316.out BK307.out (by decide); intro e_; exact h_ (by rw [e_]; rfl)) _; (with_reducible repeat first | apply bN | apply bD | apply bA); exact BK307.out⟩
       have n3_ : As ((w71.setCell ⟨go58, (t338 : Int).toNat, none⟩ (.int .u64 18446744073709551615)).heap[gb318]? = some (.cells #[.int .i64 t313, .slice (some ⟨go58, 0, none⟩) t314.length co67] 25 (0, 0))) := ⟨by (with_reducible repeat first | apply bN | apply bD | apply bA); refine blk_far ?_ (by have h_ := Kd.R_ne HO316.out BK318.out (by decide); intro e_; exact h_ (by rw [e_]; rfl)) _; (with_reducible repeat first | apply bN | apply bD | apply bA); exact BK318.out⟩
       have n4_ : As (IsS73 w0 (w71.setCell ⟨go58, (t338 : Int).toNat, none⟩ (.int .u64 18446744073709551615)) g s0_0 t339 t340) := ⟨by repeat (first | (with_reducible first | exact HI0.out | apply IsS73.alloc | apply IsS73.drewN | apply IsS73.drew | apply IsS73.set_1 | apply IsS73.set_2 | refine IsS73.far ?_ HN0_go58.out _ | refine IsS73.far ?_ NB0_307.out _ | refine IsS73.far ?_ NB0_318.out _) | exact HI0.out)⟩
       have n5_ : As (KeepBut w (w71.setCell ⟨go58, (t338 : Int).toNat, none⟩ (.int .u64 18446744073709551615)) g none) := ⟨by repeat (first | (with_reducible first | exact HK.out | apply KeepBut.set_ | apply keep_drewN | apply keep_drew | apply keep_alloc | refine keep_far ?_ GB58.out _ | refine keep_far ?_ GW307.out _ | refine keep_far ?_ GW318.out _) | exact HK.out)⟩
       have n6_ : As (Below w0.heap.size w0 (w71.setCell ⟨go58, (t338 : Int).toNat, none⟩ (.int .u64 18446744073709551615))) := ⟨by repeat (first | (with_reducible first | exact HB.out | apply ba | apply bw | apply b1 | refine bs ?_ (Nat.le_trans HL.out GB58.out) | refine bs ?_ (IsS73.ge HI0.out) | refine bs ?_ GE307.out | refine bs ?_ GE318.out) | exact HB.out)⟩
       (try clear HO310)
       (try clear HO316)
       (try clear BK307)
       (try clear BK318)
       (try clear HI0)
       (try clear HK)
       (try clear HB)
       generalize (w71.setCell ⟨go58, (t338 : Int).toNat, none⟩ (.int .u64 18446744073709551615)) = w73 at n0_ n1_ n2_ n3_ n4_ n5_ n6_ ⊢
       have HO310 := n0_
       have HO316 := n1_
       have BK307 := n2_
       have BK318 := n3_
       have HI0 := n4_
       have HK := n5_
       have HB := n6_
       clear n0_ n1_ n2_ n3_ n4_ n5_ n6_
       have hcz74_0 : w73.cell? ⟨gb318, 0, none⟩ = some (.int .i64 t313) := (blk_cell BK318.out 0).trans rfl
       have hcz74_1 : w73.cell? ⟨gb318, 1, none⟩ = some (.slice (some ⟨go58, 0, none⟩) t314.length co67) := (blk_cell BK318.out 1).trans rfl
       have hfz74_0 := blk_frozen BK318.out 0
       have hfz74_1 := blk_frozen BK318.out 1
       have hnb75 := NB307_0.out
       have hnc75 := NB0_307.out
       have hcz76_0 : w73.cell? ⟨gb307, 0, none⟩ = some (.int .i64 0) := (blk_cell BK307.out 0).trans rfl
       have hcz76_1 : w73.cell? ⟨gb307, 1, none⟩ = some (.slice none 0 0) := (blk_cell BK307.out 1).trans rfl
       have hfz76_0 := blk_frozen BK307.out 0
       have hfz76_1 := blk_frozen BK307.out 1
       try go_wp2
       refine bodyPost_ret (results_cell_row rfl _ _ gb307 25 #[.int .i64 t313, .slice (some ⟨go58, 0, none⟩) t314.length co67] (0, 0) _ rfl (by (with_reducible repeat first | apply bN | apply bD | apply bA); refine blk_put (cs := #[.int .i64 t313, .slice none 0 0]) ?_ 1 _ rfl; (with_reducible repeat first | apply bN | apply bD | apply bA); refine blk_put (cs := #[.int .i64 0, .slice none 0 0]) ?_ 0 _ rfl; (with_reducible repeat first | apply bN | apply bD | apply bA); exact BK307.out) Try.underlying25 rfl (by kernel_rfl)) rfl ?_
       exact ⟨_, by first | rfl | (simp [errW_none, errW_some] <;> rfl) | (simp [*, errW_none, errW_some] <;> rfl), by (with_reducible repeat first | apply rA | apply rN | apply rD); exact Kd.R_mono (Kd.R_far (p := ⟨gb307, 1, none⟩) (Kd.R_far (p := ⟨gb307, 0, none⟩) (Kd.R_types HO316.out BK307.out (by decide)) (fun _ hk => hk.2) (.int .i64 t313)) (fun _ hk => hk.2) (.slice (some ⟨go58, 0, none⟩) t314.length co67)) (fun _ hk => trivial), by repeat (first | (with_reducible first | exact HI0.out | apply IsS73.alloc | apply IsS73.drewN | apply IsS73.drew | apply IsS73.set_1 | apply IsS73.set_2 | refine IsS73.far ?_ NB0_307.out _ | refine IsS73.far ?_ NB0_318.out _) | exact HI0.out), by repeat (first | (with_reducible first | exact HB.out | apply ba | apply bw | apply b1 | refine bs ?_ (IsS73.ge HI0.out) | refine bs ?_ GE307.out | refine bs ?_ GE318.out) | exact HB.out), by repeat (first | (with_reducible first | exact HK.out | apply KeepBut.set_ | apply keep_drewN | apply keep_drew | apply keep_alloc | refine keep_far ?_ GW307.out _ | refine keep_far ?_ GW318.out _) | exact HK.out)⟩
      ·rw [if_neg c57] at H
       exact absurd H (by simp)
     ·rw [if_neg c56] at H
      exact absurd H (by simp)
    ·rw [if_neg c54] at H
     have c54b0 : decide (0 < (t314.length : Int)) = false := decide_eq_false c54
     have c54b1 : decide (0 < t314.length) = false := decide_eq_false (by omega)
     clear c54
     simp only [Option.some.injEq, Prod.mk.injEq] at H
     obtain ⟨rfl, rfl, rfl, rfl⟩ := H
     go_enter Try.func61, Try.ntmps61
     go_wp2_with (first | ((with_reducible refine gd (N := 2) rfl ?_); refine box_event ?hg (N := 2) ?hd (cs := #[.int .i64 0, .slice none 0 0]) (t := 25) ?hr ?_; (case hd => rfl); (case hg => rfl); (case hr => first | (go_simp; done) | (go_simp; rfl)); intro gb307 hg w77 hbox hb; have n0_ := As.mk (IsS73.below (by repeat (first | (with_reducible first | exact HI0.out | apply IsS73.alloc | apply IsS73.drewN | apply IsS73.drew | apply IsS73.set_1 | apply IsS73.set_2) | exact HI0.out)) hb); have n1_ := As.mk (KeepBut.trans (by repeat (first | (with_reducible first | exact HK.out | apply KeepBut.set_ | apply keep_drewN | apply keep_drew | apply keep_alloc) | exact HK.out)) (KeepBut.of_below hb g none) (.inl rfl)); have n2_ := As.mk (bt (by repeat (first | (with_reducible first | exact HB.out | apply ba | apply bw | apply b1 | refine bs ?_ (IsS73.ge HI0.out)) | exact HB.out)) hb); have n3_ := As.mk (hbox); have n4_ := As.mk ((by rw [hg]; exact (keep_size (w := w) (g := g) (row := none) (by repeat (first | (with_reducible first | exact HK.out | apply KeepBut.set_ | apply keep_drewN | apply keep_drew | apply keep_alloc) | exact HK.out))) : w.heap.size ≤ gb307)); have n5_ := As.mk ((Nat.le_trans HW0.out (by rw [hg]; exact (keep_size (w := w) (g := g) (row := none) (by repeat (first | (with_reducible first | exact HK.out | apply KeepBut.set_ | apply keep_drewN | apply keep_drew | apply keep_alloc) | exact HK.out))) : w.heap.size ≤ gb307) : w0.heap.size ≤ gb307)); have n6_ := As.mk ((by rw [hg]; exact Nat.ne_of_lt (IsS73.lt (show IsS73 w0 _ g s0_0 s0_1 s0_2 from by repeat (first | (with_reducible first | exact HI0.out | apply IsS73.alloc | apply IsS73.drewN | apply IsS73.drew | apply IsS73.set_1 | apply IsS73.set_2) | exact HI0.out))) : g ≠ gb307)); have n7_ := As.mk ((by rw [hg]; exact Nat.ne_of_gt (IsS73.lt (show IsS73 w0 _ g s0_0 s0_1 s0_2 from by repeat (first | (with_reducible first | exact HI0.out | apply IsS73.alloc | apply IsS73.drewN | apply IsS73.drew | apply IsS73.set_1 | apply IsS73.set_2) | exact HI0.out))) : gb307 ≠ g)); clear HI0; clear HK; clear HB; have HI0 := n0_; have HK := n1_; have HB := n2_; have BK307 := n3_; have GW307 := n4_; have GE307 := n5_; have NB0_307 := n6_; have NB307_0 := n7_; clear n0_ n1_ n2_ n3_ n4_ n5_ n6_ n7_; clear hb hbox hg) | ((with_reducible refine gc (f := 69) rfl ?_); refine goesL_ (some 7) rfl rfl Try.func69 (by kernel_rfl) rfl #[.pointer (some ⟨g, 0, none⟩)] rfl (by (try simp only [List.map_toArray, List.map_cons, List.map_nil]); first | done | rfl | (simp only [List.length_drop, List.length_take]; rfl)) ?_; (with_reducible refine (spec_l01Cur_row.calls k g s0_0 s0_1 s0_2 t308 t311 t312 w0 _ ?side1 ?side2 A2.out).mono ?_); (case side1 => repeat (first | (with_reducible first | exact HI0.out | apply IsS73.alloc | apply IsS73.drewN | apply IsS73.drew | apply IsS73.set_1 | apply IsS73.set_2 | refine IsS73.far ?_ NB0_307.out _) | exact HI0.out)); (case side2 => repeat (first | (with_reducible first | exact HB.out | apply ba | apply bw | apply b1 | refine bs ?_ (IsS73.ge HI0.out) | refine bs ?_ GE307.out) | exact HB.out)); rintro e w78 ⟨v309, rfl, ho0, hi, hb, hk⟩; refine ⟨_, rfl, ?_⟩; have n0_ := As.mk (KeepBut.blk hk (g' := gb307) (o := .cells #[.int .i64 0, .slice none 0 0] 25 (0, 0)) (by (with_reducible repeat first | apply bN | apply bD | apply bA); exact BK307.out) NB307_0.out (by simp)); have n1_ := As.mk (rL ho0 (keep_size (w := w) (g := g) (row := none) (by repeat (first | (with_reducible first | exact HK.out | apply KeepBut.set_ | apply keep_drewN | apply keep_drew | apply keep_alloc | refine keep_far ?_ GW307.out _) | exact HK.out)))); have n2_ := As.mk (KeepBut.trans (by repeat (first | (with_reducible first | exact HK.out | apply KeepBut.set_ | apply keep_drewN | apply keep_drew | apply keep_alloc | refine keep_far ?_ GW307.out _) | exact HK.out)) hk (.inl rfl)); have n3_ := As.mk (hb); have n4_ := As.mk (hi); clear BK307; clear HK; clear HB; clear HI0; have BK307 := n0_; have HO310 := n1_; have HK := n2_; have HB := n3_; have HI0 := n4_; clear n0_ n1_ n2_ n3_ n4_; (try clear hb); (try clear hb2); (try clear hk); (try clear hi); (try clear ho0); obtain ⟨Ao79, co79, eo79⟩ := rS HO310.out; subst eo79) | ((with_reducible refine gc (f := 13) rfl ?_); refine goesL_ (some 8) rfl rfl Try.func13 (by kernel_rfl) rfl #[.slice Ao79 t308.length co79] rfl (by (try simp only [List.map_toArray, List.map_cons, List.map_nil]); first | done | rfl | (simp only [List.length_drop, List.length_take]; rfl)) ?_; (with_reducible refine (spec_BitsOf.calls k _ _ t308 t313 t314 t317 _ ?side1 ?side2 A3.out).mono ?_); (case side1 => repeat (first | exact (rR HO310.out).2.2 | (with_reducible refine cA ?_ _) | (with_reducible refine cN ?_ _) | (with_reducible refine cD ?_))); (case side2 => exact (rR HO310.out).2.1); rintro e w80 ⟨v315, rfl, ho0, hb⟩; refine ⟨_, rfl, ?_⟩; have n0_ := As.mk (rB (by (with_reducible repeat first | apply rA | apply rN | apply rD); exact HO310.out) hb); have n1_ := As.mk (rL ho0 (keep_size (w := w) (g := g) (row := none) (by repeat (first | (with_reducible first | exact HK.out | apply KeepBut.set_ | apply keep_drewN | apply keep_drew | apply keep_alloc | refine keep_far ?_ GW307.out _) | exact HK.out)))); have n2_ := As.mk (IsS73.below (by repeat (first | (with_reducible first | exact HI0.out | apply IsS73.alloc | apply IsS73.drewN | apply IsS73.drew | apply IsS73.set_1 | apply IsS73.set_2 | refine IsS73.far ?_ NB0_307.out _) | exact HI0.out)) hb); have n3_ := As.mk (bb (g := gb307) (o := .cells #[.int .i64 0, .slice none 0 0] 25 (0, 0)) (by (with_reducible repeat first | apply bN | apply bD | apply bA); exact BK307.out) hb); have n4_ := As.mk (KeepBut.trans (by repeat (first | (with_reducible first | exact HK.out | apply KeepBut.set_ | apply keep_drewN | apply keep_drew | apply keep_alloc | refine keep_far ?_ GW307.out _) | exact HK.out)) (KeepBut.of_below hb g none) (.inl rfl)); have n5_ := As.mk (bt (by repeat (first | (with_reducible first | exact HB.out | apply ba | apply bw | apply b1 | refine bs ?_ (IsS73.ge HI0.out) | refine bs ?_ GE307.out) | exact HB.out)) hb); clear HO310; clear HI0; clear BK307; clear HK; clear HB; have HO310 := n0_; have HO316 := n1_; have HI0 := n2_; have BK307 := n3_; have HK := n4_; have HB := n5_; clear n0_ n1_ n2_ n3_ n4_ n5_; (try clear hb); (try clear hb2); (try clear hk); (try clear hi); (try clear ho0)) | ((with_reducible refine gd (N := 3) rfl ?_); refine box_event ?hg (N := 3) ?hd (cs := #[.int .i64 0, .slice none 0 0]) (t := 25) ?hr ?_; (case hd => rfl); (case hg => rfl); (case hr => first | (go_simp; done) | (go_simp; rfl)); intro gb318 hg w81 hbox hb; have n0_ := As.mk (rB (by (with_reducible repeat first | apply rA | apply rN | apply rD); exact HO310.out) hb); have n1_ := As.mk (rB (by (with_reducible repeat first | apply rA | apply rN | apply rD); exact HO316.out) hb); have n2_ := As.mk (IsS73.below (by repeat (first | (with_reducible first | exact HI0.out | apply IsS73.alloc | apply IsS73.drewN | apply IsS73.drew | apply IsS73.set_1 | apply IsS73.set_2 | refine IsS73.far ?_ NB0_307.out _) | exact HI0.out)) hb); have n3_ := As.mk (bb (g := gb307) (o := .cells #[.int .i64 0, .slice none 0 0] 25 (0, 0)) (by (with_reducible repeat first | apply bN | apply bD | apply bA); exact BK307.out) hb); have n4_ := As.mk (KeepBut.trans (by repeat (first | (with_reducible first | exact HK.out | apply KeepBut.set_ | apply keep_drewN | apply keep_drew | apply keep_alloc | refine keep_far ?_ GW307.out _) | exact HK.out)) (KeepBut.of_below hb g none) (.inl rfl)); have n5_ := As.mk (bt (by repeat (first | (with_reducible first | exact HB.out | apply ba | apply bw | apply b1 | refine bs ?_ (IsS73.ge HI0.out) | refine bs ?_ GE307.out) | exact HB.out)) hb); have n6_ := As.mk (hbox); have n7_ := As.mk ((by rw [hg]; exact (keep_size (w := w) (g := g) (row := none) (by repeat (first | (with_reducible first | exact HK.out | apply KeepBut.set_ | apply keep_drewN | apply keep_drew | apply keep_alloc | refine keep_far ?_ GW307.out _) | exact HK.out))) : w.heap.size ≤ gb318)); have n8_ := As.mk ((Nat.le_trans HW0.out (by rw [hg]; exact (keep_size (w := w) (g := g) (row := none) (by repeat (first | (with_reducible first | exact HK.out | apply KeepBut.set_ | apply keep_drewN | apply keep_drew | apply keep_alloc | refine keep_far ?_ GW307.out _) | exact HK.out))) : w.heap.size ≤ gb318) : w0.heap.size ≤ gb318)); have n9_ := As.mk ((by rw [hg]; exact Nat.ne_of_lt (blk_lt (g := gb307) (o := .cells #[.int .i64 0, .slice none 0 0] 25 (0, 0)) (by (with_reducible repeat first | apply bN | apply bD | apply bA); exact BK307.out)) : gb307 ≠ gb318)); have n10_ := As.mk ((by rw [hg]; exact Nat.ne_of_gt (blk_lt (g := gb307) (o := .cells #[.int .i64 0, .slice none 0 0] 25 (0, 0)) (by (with_reducible repeat first | apply bN | apply bD | apply bA); exact BK307.out)) : gb318 ≠ gb307)); have n11_ := As.mk ((by rw [hg]; exact Nat.ne_of_lt (IsS73.lt (show IsS73 w0 _ g s0_0 t311 t312 from by repeat (first | (with_reducible first | exact HI0.out | apply IsS73.alloc | apply IsS73.drewN | apply IsS73.drew | apply IsS73.set_1 | apply IsS73.set_2 | refine IsS73.far ?_ NB0_307.out _) | exact HI0.out))) : g ≠ gb318)); have n12_ := As.mk ((by rw [hg]; exact Nat.ne_of_gt (IsS73.lt (show IsS73 w0 _ g s0_0 t311 t312 from by repeat (first | (with_reducible first | exact HI0.out | apply IsS73.alloc | apply IsS73.drewN | apply IsS73.drew | apply IsS73.set_1 | apply IsS73.set_2 | refine IsS73.far ?_ NB0_307.out _) | exact HI0.out))) : gb318 ≠ g)); clear HO310; clear HO316; clear HI0; clear BK307; clear HK; clear HB; have HO310 := n0_; have HO316 := n1_; have HI0 := n2_; have BK307 := n3_; have HK := n4_; have HB := n5_; have BK318 := n6_; have GW318 := n7_; have GE318 := n8_; have NB307_318 := n9_; have NB318_307 := n10_; have NB0_318 := n11_; have NB318_0 := n12_; clear n0_ n1_ n2_ n3_ n4_ n5_ n6_ n7_ n8_ n9_ n10_ n11_ n12_; clear hb hbox hg; have hnb82 := NB318_307.out; have hnc82 := NB307_318.out; have hnb83 := NB318_0.out; have hnc83 := NB0_318.out; have hcz84_0 : w81.cell? ⟨gb318, 0, none⟩ = some (.int .i64 0) := (blk_cell BK318.out 0).trans rfl; have hcz84_1 : w81.cell? ⟨gb318, 1, none⟩ = some (.slice none 0 0) := (blk_cell BK318.out 1).trans rfl; have hfz84_0 := blk_frozen BK318.out 0; have hfz84_1 := blk_frozen BK318.out 1; obtain ⟨Ao85, co85, eo85⟩ := rS HO316.out; subst eo85) | ((with_reducible refine gc (f := 62) rfl ?_); refine goesL_ (some 12) rfl rfl Try.func62 (by kernel_rfl) rfl #[.pointer (some ⟨g, 0, none⟩), .int .i64 14] rfl (by (try simp only [List.map_toArray, List.map_cons, List.map_nil]); first | done | rfl | (simp only [List.length_drop, List.length_take]; rfl)) ?_; (with_reducible refine (spec_l01Cur_pick.calls g s0_0 t311 t312 14 t319 t320 t321 w0 _ ?side1 ?side2 A4.out).mono ?_); (case side1 => repeat (first | (with_reducible first | exact HI0.out | apply IsS73.alloc | apply IsS73.drewN | apply IsS73.drew | apply IsS73.set_1 | apply IsS73.set_2 | refine IsS73.far ?_ NB0_307.out _ | refine IsS73.far ?_ NB0_318.out _) | exact HI0.out)); (case side2 => repeat (first | (with_reducible first | exact HB.out | apply ba | apply bw | apply b1 | refine bs ?_ (IsS73.ge HI0.out) | refine bs ?_ GE307.out | refine bs ?_ GE318.out) | exact HB.out)); rintro e w86 ⟨rfl, hi, hb, hk⟩; refine ⟨_, rfl, ?_⟩; have n0_ := As.mk (KeepBut.blk hk (g' := gb307) (o := .cells #[.int .i64 0, .slice none 0 0] 25 (0, 0)) (by (with_reducible repeat first | apply bN | apply bD | apply bA); refine blk_far ?_ NB307_318.out _; (with_reducible repeat first | apply bN | apply bD | apply bA); refine blk_far ?_ NB307_318.out _; (with_reducible repeat first | apply bN | apply bD | apply bA); exact BK307.out) NB307_0.out (by simp)); have n1_ := As.mk (Kd.R_mono (Kd.R_keep (IsS73.apart (show IsS73 w0 _ g s0_0 t311 t312 from by repeat (first | (with_reducible first | exact HI0.out | apply IsS73.alloc | apply IsS73.drewN | apply IsS73.drew | apply IsS73.set_1 | apply IsS73.set_2 | refine IsS73.far ?_ NB0_307.out _ | refine IsS73.far ?_ NB0_318.out _) | exact HI0.out)) (by (with_reducible repeat first | apply rA | apply rN | apply rD); exact (Kd.R_mono (Kd.R_far (p := ⟨gb318, 1, none⟩) (Kd.R_far (p := ⟨gb318, 0, none⟩) (Kd.R_types HO310.out BK318.out (by decide)) (fun _ hk => hk.2) (.int .i64 t313)) (fun _ hk => hk.2) (.slice Ao85 t314.length co85)) (fun _ h_ => h_.1))) (by decide)) hk (fun _ h => h.2)) (fun _ h => h.1)); have n2_ := As.mk (Kd.R_mono (Kd.R_keep (IsS73.apart (show IsS73 w0 _ g s0_0 t311 t312 from by repeat (first | (with_reducible first | exact HI0.out | apply IsS73.alloc | apply IsS73.drewN | apply IsS73.drew | apply IsS73.set_1 | apply IsS73.set_2 | refine IsS73.far ?_ NB0_307.out _ | refine IsS73.far ?_ NB0_318.out _) | exact HI0.out)) (by (with_reducible repeat first | apply rA | apply rN | apply rD); exact (Kd.R_mono (Kd.R_far (p := ⟨gb318, 1, none⟩) (Kd.R_far (p := ⟨gb318, 0, none⟩) (Kd.R_types HO316.out BK318.out (by decide)) (fun _ hk => hk.2) (.int .i64 t313)) (fun _ hk => hk.2) (.slice Ao85 t314.length co85)) (fun _ h_ => h_.1))) (by decide)) hk (fun _ h => h.2)) (fun _ h => h.1)); have n3_ := As.mk (KeepBut.blk hk (g' := gb318) (o := .cells #[.int .i64 t313, .slice Ao85 t314.length co85] 25 (0, 0)) (by (with_reducible repeat first | apply bN | apply bD | apply bA); refine blk_put (cs := #[.int .i64 t313, .slice none 0 0]) ?_ 1 _ rfl; (with_reducible repeat first | apply bN | apply bD | apply bA); refine blk_put (cs := #[.int .i64 0, .slice none 0 0]) ?_ 0 _ rfl; (with_reducible repeat first | apply bN | apply bD | apply bA); exact BK318.out) NB318_0.out (by simp)); have n4_ := As.mk (KeepBut.trans (by repeat (first | (with_reducible first | exact HK.out | apply KeepBut.set_ | apply keep_drewN | apply keep_drew | apply keep_alloc | refine keep_far ?_ GW307.out _ | refine keep_far ?_ GW318.out _) | exact HK.out)) hk (.inl rfl)); have n5_ := As.mk (hb); have n6_ := As.mk (hi); clear BK307; clear HO310; clear HO316; clear BK318; clear HK; clear HB; clear HI0; have BK307 := n0_; have HO310 := n1_; have HO316 := n2_; have BK318 := n3_; have HK := n4_; have HB := n5_; have HI0 := n6_; clear n0_ n1_ n2_ n3_ n4_ n5_ n6_; (try clear hb); (try clear hb2); (try clear hk); (try clear hi); have hcz87_0 : w86.cell? ⟨gb318, 0, none⟩ = some (.int .i64 t313) := (blk_cell BK318.out 0).trans rfl; have hcz87_1 : w86.cell? ⟨gb318, 1, none⟩ = some (.slice Ao85 t314.length co85) := (blk_cell BK318.out 1).trans rfl; have hfz87_0 := blk_frozen BK318.out 0; have hfz87_1 := blk_frozen BK318.out 1; have hnb88 := NB307_0.out; have hnc88 := NB0_307.out; have hcz89_0 : w86.cell? ⟨gb307, 0, none⟩ = some (.int .i64 0) := (blk_cell BK307.out 0).trans rfl; have hcz89_1 : w86.cell? ⟨gb307, 1, none⟩ = some (.slice none 0 0) := (blk_cell BK307.out 1).trans rfl; have hfz89_0 := blk_frozen BK307.out 0; have hfz89_1 := blk_frozen BK307.out 1))
     refine bodyPost_ret (results_cell_row rfl _ _ gb307 25 #[.int .i64 t313, .slice Ao85 t314.length co85] (0, 0) _ rfl (by (with_reducible repeat first | apply bN | apply bD | apply bA); refine blk_put (cs := #[.int .i64 t313, .slice none 0 0]) ?_ 1 _ rfl; (with_reducible repeat first | apply bN | apply bD | apply bA); refine blk_put (cs := #[.int .i64 0, .slice none 0 0]) ?_ 0 _ rfl; (with_reducible repeat first | apply bN | apply bD | apply bA); exact BK307.out) Try.underlying25 rfl (by kernel_rfl)) rfl ?_
     exact ⟨_, by first | rfl | (simp [errW_none, errW_some] <;> rfl) | (simp [*, errW_none, errW_some] <;> rfl), by (with_reducible repeat first | apply rA | apply rN | apply rD); exact Kd.R_mono (Kd.R_far (p := ⟨gb307, 1, none⟩) (Kd.R_far (p := ⟨gb307, 0, none⟩) (Kd.R_types HO316.out BK307.out (by decide)) (fun _ hk => hk.2) (.int .i64 t313)) (fun _ hk => hk.2) (.slice Ao85 t314.length co85)) (fun _ hk => trivial), by repeat (first | (with_reducible first | exact HI0.out | apply IsS73.alloc | apply IsS73.drewN | apply IsS73.drew | apply IsS73.set_1 | apply IsS73.set_2 | refine IsS73.far ?_ NB0_307.out _ | refine IsS73.far ?_ NB0_318.out _) | exact HI0.out), by repeat (first | (with_reducible first | exact HB.out | apply ba | apply bw | apply b1 | refine bs ?_ (IsS73.ge HI0.out) | refine bs ?_ GE307.out | refine bs ?_ GE318.out) | exact HB.out), by repeat (first | (with_reducible first | exact HK.out | apply KeepBut.set_ | apply keep_drewN | apply keep_drew | apply keep_alloc | refine keep_far ?_ GW307.out _ | refine keep_far ?_ GW318.out _) | exact HK.out)⟩
   ·rw [if_neg c53] at H
    have c53b0 : (t319 == 2) = false := beq_eq_false_iff_ne.mpr c53
    have c53b1 : (t319 != 2) = true := bne_iff_ne.mpr c53
    simp only [Option.some.injEq, Prod.mk.injEq] at H
    obtain ⟨rfl, rfl, rfl, rfl⟩ := H
    go_enter Try.func61, Try.ntmps61
    go_wp2_with (first | ((with_reducible refine gd (N := 2) rfl ?_); refine box_event ?hg (N := 2) ?hd (cs := #[.int .i64 0, .slice none 0 0]) (t := 25) ?hr ?_; (case hd => rfl); (case hg => rfl); (case hr => first | (go_simp; done) | (go_simp; rfl)); intro gb307 hg w90 hbox hb; have n0_ := As.mk (IsS73.below (by repeat (first | (with_reducible first | exact HI0.out | apply IsS73.alloc | apply IsS73.drewN | apply IsS73.drew | apply IsS73.set_1 | apply IsS73.set_2) | exact HI0.out)) hb); have n1_ := As.mk (KeepBut.trans (by repeat (first | (with_reducible first | exact HK.out | apply KeepBut.set_ | apply keep_drewN | apply keep_drew | apply keep_alloc) | exact HK.out)) (KeepBut.of_below hb g none) (.inl rfl)); have n2_ := As.mk (bt (by repeat (first | (with_reducible first | exact HB.out | apply ba | apply bw | apply b1 | refine bs ?_ (IsS73.ge HI0.out)) | exact HB.out)) hb); have n3_ := As.mk (hbox); have n4_ := As.mk ((by rw [hg]; exact (keep_size (w := w) (g := g) (row := none) (by repeat (first | (with_reducible first | exact HK.out | apply KeepBut.set_ | apply keep_drewN | apply keep_drew | apply keep_alloc) | exact HK.out))) : w.heap.size ≤ gb307)); have n5_ := As.mk ((Nat.le_trans HW0.out (by rw [hg]; exact (keep_size (w := w) (g := g) (row := none) (by repeat (first | (with_reducible first | exact HK.out | apply KeepBut.set_ | apply keep_drewN | apply keep_drew | apply keep_alloc) | exact HK.out))) : w.heap.size ≤ gb307) : w0.heap.size ≤ gb307)); have n6_ := As.mk ((by rw [hg]; exact Nat.ne_of_lt (IsS73.lt (show IsS73 w0 _ g s0_0 s0_1 s0_2 from by repeat (first | (with_reducible first | exact HI0.out | apply IsS73.alloc | apply IsS73.drewN | apply IsS73.drew | apply IsS73.set_1 | apply IsS73.set_2) | exact HI0.out))) : g ≠ gb307)); have n7_ := As.mk ((by rw [hg]; exact Nat.ne_of_gt (IsS73.lt (show IsS73 w0 _ g s0_0 s0_1 s0_2 from by repeat (first | (with_reducible first | exact HI0.out | apply IsS73.alloc | apply IsS73.drewN | apply IsS73.drew | apply IsS73.set_1 | apply IsS73.set_2) | exact HI0.out))) : gb307 ≠ g)); clear HI0; clear HK; clear HB; have HI0 := n0_; have HK := n1_; have HB := n2_; have BK307 := n3_; have GW307 := n4_; have GE307 := n5_; have NB0_307 := n6_; have NB307_0 := n7_; clear n0_ n1_ n2_ n3_ n4_ n5_ n6_ n7_; clear hb hbox hg) | ((with_reducible refine gc (f := 69) rfl ?_); refine goesL_ (some 7) rfl rfl Try.func69 (by kernel_rfl) rfl #[.pointer (some ⟨g, 0, none⟩)] rfl (by (try simp only [List.map_toArray, List.map_cons, List.map_nil]); first | done | rfl | (simp only [List.length_drop, List.length_take]; rfl)) ?_; (with_reducible refine (spec_l01Cur_row.calls k g s0_0 s0_1 s0_2 t308 t311 t312 w0 _ ?side1 ?side2 A2.out).mono ?_); (case side1 => repeat (first | (with_reducible first | exact HI0.out | apply IsS73.alloc | apply IsS73.drewN | apply IsS73.drew | apply IsS73.set_1 | apply IsS73.set_2 | refine IsS73.far ?_ NB0_307.out _) | exact HI0.out)); (case side2 => repeat (first | (with_reducible first | exact HB.out | apply ba | apply bw | apply b1 | refine bs ?_ (IsS73.ge HI0.out) | refine bs ?_ GE307.out) | exact HB.out)); rintro e w91 ⟨v309, rfl, ho0, hi, hb, hk⟩; refine ⟨_, rfl, ?_⟩; have n0_ := As.mk (KeepBut.blk hk (g' := gb307) (o := .cells #[.int .i64 0, .slice none 0 0] 25 (0, 0)) (by (with_reducible repeat first | apply bN | apply bD | apply bA); exact BK307.out) NB307_0.out (by simp)); have n1_ := As.mk (rL ho0 (keep_size (w := w) (g := g) (row := none) (by repeat (first | (with_reducible first | exact HK.out | apply KeepBut.set_ | apply keep_drewN | apply keep_drew | apply keep_alloc | refine keep_far ?_ GW307.out _) | exact HK.out)))); have n2_ := As.mk (KeepBut.trans (by repeat (first | (with_reducible first | exact HK.out | apply KeepBut.set_ | apply keep_drewN | apply keep_drew | apply keep_alloc | refine keep_far ?_ GW307.out _) | exact HK.out)) hk (.inl rfl)); have n3_ := As.mk (hb); have n4_ := As.mk (hi); clear BK307; clear HK; clear HB; clear HI0; have BK307 := n0_; have HO310 := n1_; have HK := n2_; have HB := n3_; have HI0 := n4_; clear n0_ n1_ n2_ n3_ n4_; (try clear hb); (try clear hb2); (try clear hk); (try clear hi); (try clear ho0); obtain ⟨Ao92, co92, eo92⟩ := rS HO310.out; subst eo92) | ((with_reducible refine gc (f := 13) rfl ?_); refine goesL_ (some 8) rfl rfl Try.func13 (by kernel_rfl) rfl #[.slice Ao92 t308.length co92] rfl (by (try simp only [List.map_toArray, List.map_cons, List.map_nil]); first | done | rfl | (simp only [List.length_drop, List.length_take]; rfl)) ?_; (with_reducible refine (spec_BitsOf.calls k _ _ t308 t313 t314 t317 _ ?side1 ?side2 A3.out).mono ?_); (case side1 => repeat (first | exact (rR HO310.out).2.2 | (with_reducible refine cA ?_ _) | (with_reducible refine cN ?_ _) | (with_reducible refine cD ?_))); (case side2 => exact (rR HO310.out).2.1); rintro e w93 ⟨v315, rfl, ho0, hb⟩; refine ⟨_, rfl, ?_⟩; have n0_ := As.mk (rB (by (with_reducible repeat first | apply rA | apply rN | apply rD); exact HO310.out) hb); have n1_ := As.mk (rL ho0 (keep_size (w := w) (g := g) (row := none) (by repeat (first | (with_reducible first | exact HK.out | apply KeepBut.set_ | apply keep_drewN | apply keep_drew | apply keep_alloc | refine keep_far ?_ GW307.out _) | exact HK.out)))); have n2_ := As.mk (IsS73.below (by repeat (first | (with_reducible first | exact HI0.out | apply IsS73.alloc | apply IsS73.drewN | apply IsS73.drew | apply IsS73.set_1 | apply IsS73.set_2 | refine IsS73.far ?_ NB0_307.out _) | exact HI0.out)) hb); have n3_ := As.mk (bb (g := gb307) (o := .cells #[.int .i64 0, .slice none 0 0] 25 (0, 0)) (by (with_reducible repeat first | apply bN | apply bD | apply bA); exact BK307.out) hb); have n4_ := As.mk (KeepBut.trans (by repeat (first | (with_reducible first | exact HK.out | apply KeepBut.set_ | apply keep_drewN | apply keep_drew | apply keep_alloc | refine keep_far ?_ GW307.out _) | exact HK.out)) (KeepBut.of_below hb g none) (.inl rfl)); have n5_ := As.mk (bt (by repeat (first | (with_reducible first | exact HB.out | apply ba | apply bw | apply b1 | refine bs ?_ (IsS73.ge HI0.out) | refine bs ?_ GE307.out) | exact HB.out)) hb); clear HO310; clear HI0; clear BK307; clear HK; clear HB; have HO310 := n0_; have HO316 := n1_; have HI0 := n2_; have BK307 := n3_; have HK := n4_; have HB := n5_; clear n0_ n1_ n2_ n3_ n4_ n5_; (try clear hb); (try clear hb2); (try clear hk); (try clear hi); (try clear ho0)) | ((with_reducible refine gd (N := 3) rfl ?_); refine box_event ?hg (N := 3) ?hd (cs := #[.int .i64 0, .slice none 0 0]) (t := 25) ?hr ?_; (case hd => rfl); (case hg => rfl); (case hr => first | (go_simp; done) | (go_simp; rfl)); intro gb318 hg w94 hbox hb; have n0_ := As.mk (rB (by (with_reducible repeat first | apply rA | apply rN | apply rD); exact HO310.out) hb); have n1_ := As.mk (rB (by (with_reducible repeat first | apply rA | apply rN | apply rD); exact HO316.out) hb); have n2_ := As.mk (IsS73.below (by repeat (first | (with_reducible first | exact HI0.out | apply IsS73.alloc | apply IsS73.drewN | apply IsS73.drew | apply IsS73.set_1 | apply IsS73.set_2 | refine IsS73.far ?_ NB0_307.out _) | exact HI0.out)) hb); have n3_ := As.mk (bb (g := gb307) (o := .cells #[.int .i64 0, .slice none 0 0] 25 (0, 0)) (by (with_reducible repeat first | apply bN | apply bD | apply bA); exact BK307.out) hb); have n4_ := As.mk (KeepBut.trans (by repeat (first | (with_reducible first | exact HK.out | apply KeepBut.set_ | apply keep_drewN | apply keep_drew | apply keep_alloc | refine keep_far ?_ GW307.out _) | exact HK.out)) (KeepBut.of_below hb g none) (.inl rfl)); have n5_ := As.mk (bt (by repeat (first | (with_reducible first | exact HB.out | apply ba | apply bw | apply b1 | refine bs ?_ (IsS73.ge HI0.out) | refine bs ?_ GE307.out) | exact HB.out)) hb); have n6_ := As.mk (hbox); have n7_ := As.mk ((by rw [hg]; exact (keep_size (w := w) (g := g) (row := none) (by repeat (first | (with_reducible first | exact HK.out | apply KeepBut.set_ | apply keep_drewN | apply keep_drew | apply keep_alloc | refine keep_far ?_ GW307.out _) | exact HK.out))) : w.heap.size ≤ gb318)); have n8_ := As.mk ((Nat.le_trans HW0.out (by rw [hg]; exact (keep_size (w := w) (g := g) (row := none) (by repeat (first | (with_reducible first | exact HK.out | apply KeepBut.set_ | apply keep_drewN | apply keep_drew | apply keep_alloc | refine keep_far ?_ GW307.out _) | exact HK.out))) : w.heap.size ≤ gb318) : w0.heap.size ≤ gb318)); have n9_ := As.mk ((by rw [hg]; exact Nat.ne_of_lt (blk_lt (g := gb307) (o := .cells #[.int .i64 0, .slice none 0 0] 25 (0, 0)) (by (with_reducible repeat first | apply bN | apply bD | apply bA); exact BK307.out)) : gb307 ≠ gb318)); have n10_ := As.mk ((by rw [hg]; exact Nat.ne_of_gt (blk_lt (g := gb307) (o := .cells #[.int .i64 0, .slice none 0 0] 25 (0, 0)) (by (with_reducible repeat first | apply bN | apply bD | apply bA); exact BK307.out)) : gb318 ≠ gb307)); have n11_ := As.mk ((by rw [hg]; exact Nat.ne_of_lt (IsS73.lt (show IsS73 w0 _ g s0_0 t311 t312 from by repeat (first | (with_reducible first | exact HI0.out | apply IsS73.alloc | apply IsS73.drewN | apply IsS73.drew | apply IsS73.set_1 | apply IsS73.set_2 | refine IsS73.far ?_ NB0_307.out _) | exact HI0.out))) : g ≠ gb318)); have n12_ := As.mk ((by rw [hg]; exact Nat.ne_of_gt (IsS73.lt (show IsS73 w0 _ g s0_0 t311 t312 from by repeat (first | (with_reducible first | exact HI0.out | apply IsS73.alloc | apply IsS73.drewN | apply IsS73.drew | apply IsS73.set_1 | apply IsS73.set_2 | refine IsS73.far ?_ NB0_307.out _) | exact HI0.out))) : gb318 ≠ g)); clear HO310; clear HO316; clear HI0; clear BK307; clear HK; clear HB; have HO310 := n0_; have HO316 := n1_; have HI0 := n2_; have BK307 := n3_; have HK := n4_; have HB := n5_; have BK318 := n6_; have GW318 := n7_; have GE318 := n8_; have NB307_318 := n9_; have NB318_307 := n10_; have NB0_318 := n11_; have NB318_0 := n12_; clear n0_ n1_ n2_ n3_ n4_ n5_ n6_ n7_ n8_ n9_ n10_ n11_ n12_; clear hb hbox hg; have hnb95 := NB318_307.out; have hnc95 := NB307_318.out; have hnb96 := NB318_0.out; have hnc96 := NB0_318.out; have hcz97_0 : w94.cell? ⟨gb318, 0, none⟩ = some (.int .i64 0) := (blk_cell BK318.out 0).trans rfl; have hcz97_1 : w94.cell? ⟨gb318, 1, none⟩ = some (.slice none 0 0) := (blk_cell BK318.out 1).trans rfl; have hfz97_0 := blk_frozen BK318.out 0; have hfz97_1 := blk_frozen BK318.out 1; obtain ⟨Ao98, co98, eo98⟩ := rS HO316.out; subst eo98) | ((with_reducible refine gc (f := 62) rfl ?_); refine goesL_ (some 12) rfl rfl Try.func62 (by kernel_rfl) rfl #[.pointer (some ⟨g, 0, none⟩), .int .i64 14] rfl (by (try simp only [List.map_toArray, List.map_cons, List.map_nil]); first | done | rfl | (simp only [List.length_drop, List.length_take]; rfl)) ?_; (with_reducible refine (spec_l01Cur_pick.calls g s0_0 t311 t312 14 t319 t320 t321 w0 _ ?side1 ?side2 A4.out).mono ?_); (case side1 => repeat (first | (with_reducible first | exact HI0.out | apply IsS73.alloc | apply IsS73.drewN | apply IsS73.drew | apply IsS73.set_1 | apply IsS73.set_2 | refine IsS73.far ?_ NB0_307.out _ | refine IsS73.far ?_ NB0_318.out _) | exact HI0.out)); (case side2 => repeat (first | (with_reducible first | exact HB.out | apply ba | apply bw | apply b1 | refine bs ?_ (IsS73.ge HI0.out) | refine bs ?_ GE307.out | refine bs ?_ GE318.out) | exact HB.out)); rintro e w99 ⟨rfl, hi, hb, hk⟩; refine ⟨_, rfl, ?_⟩; have n0_ := As.mk (KeepBut.blk hk (g' := gb307) (o := .cells #[.int .i64 0, .slice none 0 0] 25 (0, 0)) (by (with_reducible repeat first | apply bN | apply bD | apply bA); refine blk_far ?_ NB307_318.out _; (with_reducible repeat first | apply bN | apply bD | apply bA); refine blk_far ?_ NB307_318.out _; (with_reducible repeat first | apply bN | apply bD | apply bA); exact BK307.out) NB307_0.out (by simp)); have n1_ := As.mk (Kd.R_mono (Kd.R_keep (IsS73.apart (show IsS73 w0 _ g s0_0 t311 t312 from by repeat (first | (with_reducible first | exact HI0.out | apply IsS73.alloc | apply IsS73.drewN | apply IsS73.drew | apply IsS73.set_1 | apply IsS73.set_2 | refine IsS73.far ?_ NB0_307.out _ | refine IsS73.far ?_ NB0_318.out _) | exact HI0.out)) (by (with_reducible repeat first | apply rA | apply rN | apply rD); exact (Kd.R_mono (Kd.R_far (p := ⟨gb318, 1, none⟩) (Kd.R_far (p := ⟨gb318, 0, none⟩) (Kd.R_types HO310.out BK318.out (by decide)) (fun _ hk => hk.2) (.int .i64 t313)) (fun _ hk => hk.2) (.slice Ao98 t314.length co98)) (fun _ h_ => h_.1))) (by decide)) hk (fun _ h => h.2)) (fun _ h => h.1)); have n2_ := As.mk (Kd.R_mono (Kd.R_keep (IsS73.apart (show IsS73 w0 _ g s0_0 t311 t312 from by repeat (first | (with_reducible first | exact HI0.out | apply IsS73.alloc | apply IsS73.drewN | apply IsS73.drew | apply IsS73.set_1 | apply IsS73.set_2 | refine IsS73.far ?_ NB0_307.out _ | refine IsS73.far ?_ NB0_318.out _) | exact HI0.out)) (by (with_reducible repeat first | apply rA | apply rN | apply rD); exact (Kd.R_mono (Kd.R_far (p := ⟨gb318, 1, none⟩) (Kd.R_far (p := ⟨gb318, 0, none⟩) (Kd.R_types HO316.out BK318.out (by decide)) (fun _ hk => hk.2) (.int .i64 t313)) (fun _ hk => hk.2) (.slice Ao98 t314.length co98)) (fun _ h_ => h_.1))) (by decide)) hk (fun _ h => h.2)) (fun _ h => h.1)); have n3_ := As.mk (KeepBut.blk hk (g' := gb318) (o := .cells #[.int .i64 t313, .slice Ao98 t314.length co98] 25 (0, 0)) (by (with_reducible repeat first | apply bN | apply bD | apply bA); refine blk_put (cs := #[.int .i64 t313, .slice none 0 0]) ?_ 1 _ rfl; (with_reducible repeat first | apply bN | apply bD | apply bA); refine blk_put (cs := #[.int .i64 0, .slice none 0 0]) ?_ 0 _ rfl; (with_reducible repeat first | apply bN | apply bD | apply bA); exact BK318.out) NB318_0.out (by simp)); have n4_ := As.mk (KeepBut.trans (by repeat (first | (with_reducible first | exact HK.out | apply KeepBut.set_ | apply keep_drewN | apply keep_drew | apply keep_alloc | refine keep_far ?_ GW307.out _ | refine keep_far ?_ GW318.out _) | exact HK.out)) hk (.inl rfl)); have n5_ := As.mk (hb); have n6_ := As.mk (hi); clear BK307; clear HO310; clear HO316; clear BK318; clear HK; clear HB; clear HI0; have BK307 := n0_; have HO310 := n1_; have HO316 := n2_; have BK318 := n3_; have HK := n4_; have HB := n5_; have HI0 := n6_; clear n0_ n1_ n2_ n3_ n4_ n5_ n6_; (try clear hb); (try clear hb2); (try clear hk); (try clear hi); have hcz100_0 : w99.cell? ⟨gb318, 0, none⟩ = some (.int .i64 t313) := (blk_cell BK318.out 0).trans rfl; have hcz100_1 : w99.cell? ⟨gb318, 1, none⟩ = some (.slice Ao98 t314.length co98) := (blk_cell BK318.out 1).trans rfl; have hfz100_0 := blk_frozen BK318.out 0; have hfz100_1 := blk_frozen BK318.out 1; have hnb101 := NB307_0.out; have hnc101 := NB0_307.out; have hcz102_0 : w99.cell? ⟨gb307, 0, none⟩ = some (.int .i64 0) := (blk_cell BK307.out 0).trans rfl; have hcz102_1 : w99.cell? ⟨gb307, 1, none⟩ = some (.slice none 0 0) := (blk_cell BK307.out 1).trans rfl; have hfz102_0 := blk_frozen BK307.out 0; have hfz102_1 := blk_frozen BK307.out 1))
    refine bodyPost_ret (results_cell_row rfl _ _ gb307 25 #[.int .i64 t313, .slice Ao98 t314.length co98] (0, 0) _ rfl (by (with_reducible repeat first | apply bN | apply bD | apply bA); refine blk_put (cs := #[.int .i64 t313, .slice none 0 0]) ?_ 1 _ rfl; (with_reducible repeat first | apply bN | apply bD | apply bA); refine blk_put (cs := #[.int .i64 0, .slice none 0 0]) ?_ 0 _ rfl; (with_reducible repeat first | apply bN | apply bD | apply bA); exact BK307.out) Try.underlying25 rfl (by kernel_rfl)) rfl ?_
    exact ⟨_, by first | rfl | (simp [errW_none, errW_some] <;> rfl) | (simp [*, errW_none, errW_some] <;> rfl), by (with_reducible repeat first | apply rA | apply rN | apply rD); exact Kd.R_mono (Kd.R_far (p := ⟨gb307, 1, none⟩) (Kd.R_far (p := ⟨gb307, 0, none⟩) (Kd.R_types HO316.out BK307.out (by decide)) (fun _ hk => hk.2) (.int .i64 t313)) (fun _ hk => hk.2) (.slice Ao98 t314.length co98)) (fun _ hk => trivial), by repeat (first | (with_reducible first | exact HI0.out | apply IsS73.alloc | apply IsS73.drewN | apply IsS73.drew | apply IsS73.set_1 | apply IsS73.set_2 | refine IsS73.far ?_ NB0_307.out _ | refine IsS73.far ?_ NB0_318.out _) | exact HI0.out), by repeat (first | (with_reducible first | exact HB.out | apply ba | apply bw | apply b1 | refine bs ?_ (IsS73.ge HI0.out) | refine bs ?_ GE307.out | refine bs ?_ GE318.out) | exact HB.out), by repeat (first | (with_reducible first | exact HK.out | apply KeepBut.set_ | apply keep_drewN | apply keep_drew | apply keep_alloc | refine keep_far ?_ GW307.out _ | refine keep_far ?_ GW318.out _) | exact HK.out)⟩

end Go.Proofs.Ytcbhepghmmbdmaa.QFnBitsJoin
