-- WRITTEN BY A PROGRAM OF THIS SESSION (wip/tools/print2.py) out of Lean's own print of the loaded program; Lean checks every row.
import Derived.Test.YtcbhepghmmbdmaaQFnBitsJoinx0
import Derived.Test.YtcbhepghmmbdmaaQFnBitsJoinx1
import Derived.Test.YtcbhepghmmbdmaaQFnBitsJoinx3
import Derived.Test.YtcbhepghmmbdmaaQFnBitsJoinx4
import Derived.Test.YtcbhepghmmbdmaaQFnBitsJoinx6
import Derived.Test.YtcbhepghmmbdmaaQFnBitsJoinx9
namespace Go.Proofs.Ytcbhepghmmbdmaa.QFnBitsJoin
open Go.RowKit Go.Proofs.YtcbhepghmmbdmaaW.PrintWords Go.Proofs.YtcbhepghmmbdmaaW.PrintLast Go.Proofs.YtcbhepghmmbdmaaW.PrintMore
open Go.Proofs.YtcbhepghmmbdmaaW.PrintWords renaming below_alloc → ba, pw_below_drewN → bw, below_drew1 → b1, below_set → bs, blk_drewN → bN, blk_drew → bD, blk_alloc → bA, below_step → bt, below_size → bz, blk_below → bb, gate_callee → gc, gate_dst → gd, Aside0 → As
open Go.Proofs.YtcbhepghmmbdmaaW.PrintWords.Kd renaming R_alloc → rA, R_drewN → rN, R_drew → rD, R_slice → rS, R_below → rB, R_elder' → rE, R_lower → rL, R_new' → rW, R_reads' → rR, C_alloc → cA, C_drewN → cN, C_drew → cD, C_below → cB
open Bool renaming true → T_, false → F_
attribute [local go_sem] max2_int min2_int max_two min_two max_three min_three max_four min_four   -- for this text's walks alone
set_option linter.unusedVariables false
set_option linter.unusedSimpArgs false

/-! ### laws_FnBitsJoin: function 12 -/
def laws_FnBitsJoin.j0 : Nat → List Int → Bool → Bool → Bool → Int → List Int → Int → List Int → Int → List Int → Option (Bool)
 | 0, _, _, _, _, _, _, _, _, _, _ => none
 | k + 1, x0, x6, x8, x36, x375000, x375001, x376000, x376001, x388000, x388001 => if x36 = true then (some (x8 == x6)) else ((laws_pick.f k x0 3 (wrap64 (x376000 + 1))).bind fun t388 => ((impl_BitsFlip.f k x388000 x388001).bind fun bt389 => (if x388000 = (wrap64 (x375000 + x376000)) then ((impl_Rank.f k x388000 x388001 1 (wrap64 (x375000 + t388))).bind fun t394 => ((spec_Rank.f k x375000 x375001 1 x375000).bind fun t395 => ((spec_Rank.f k x376000 x376001 1 t388).bind fun t396 => (if t394 = (wrap64 (t395 + t396)) then ((impl_Rank.f k bt389.1 bt389.2 0 (wrap64 (x375000 + t388))).bind fun t397 => ((impl_Rank.f k x388000 x388001 1 (wrap64 (x375000 + t388))).bind fun t398 => (if t397 = t398 then ((impl_BitsFlip.f k bt389.1 bt389.2).bind fun bt399 => ((laws_sameBits.f k bt399.1 bt399.2 x388000 x388001).bind fun t403 => (some t403))) else (some false)))) else (some false))))) else (some false))))
def laws_FnBitsJoin.f (k : Nat) (l0 : List Int) : Option (Bool) := (laws_big.f l0).bind fun t365 => (if t365 = true then (some true) else ((spec_DrawBitsJoin.f k l0).bind fun bt366 => ((spec_BitsJoin.f k bt366.1 bt366.2.1 bt366.2.2.1 bt366.2.2.2).bind fun bt376 => ((impl_BitsJoin.f k bt366.1 bt366.2.1 bt366.2.2.1 bt366.2.2.2).bind fun bt382 => (if (bt382.2.2 != bt376.2.2) = true then (laws_FnBitsJoin.j0 k l0 bt376.2.2 bt382.2.2 true bt366.1 bt366.2.1 bt366.2.2.1 bt366.2.2.2 bt382.1 bt382.2.1) else (laws_FnBitsJoin.j0 k l0 bt376.2.2 bt382.2.2 (!bt382.2.2) bt366.1 bt366.2.1 bt366.2.2.1 bt366.2.2.2 bt382.1 bt382.2.1))))))
theorem laws_FnBitsJoin.mono_l : ∀ k, (∀ y0 y1 y2 y3 y4 y5 y6 y7 y8 y9, LeO (laws_FnBitsJoin.j0 k y0 y1 y2 y3 y4 y5 y6 y7 y8 y9) (laws_FnBitsJoin.j0 (k + 1) y0 y1 y2 y3 y4 y5 y6 y7 y8 y9))
 | 0 => fun _ _ _ _ _ _ _ _ _ _ r h => by simp [laws_FnBitsJoin.j0] at h
 | k + 1 => by
  have ih0 := laws_FnBitsJoin.mono_l k
  ·intro y0 y1 y2 y3 y4 y5 y6 y7 y8 y9
   unfold laws_FnBitsJoin.j0
   repeat' first
   | (with_reducible exact ih0 _ _ _ _ _ _ _ _ _ _)
   | (with_reducible exact impl_BitsFlip.mono _ _ _)
   | (with_reducible exact impl_BitsJoin.mono _ _ _ _ _)
   | (with_reducible exact impl_Rank.mono _ _ _ _ _)
   | (with_reducible exact laws_pick.mono _ _ _ _)
   | (with_reducible exact laws_sameBits.mono _ _ _ _ _)
   | (with_reducible exact spec_BitsJoin.mono _ _ _ _ _)
   | (with_reducible exact spec_DrawBitsJoin.mono _ _)
   | (with_reducible exact spec_Rank.mono _ _ _ _ _)
   | (with_reducible exact LeO.refl _)
   | (with_reducible exact LeO.none _)
   | (with_reducible refine LeO.ite ?_ ?_)
   | (with_reducible refine LeO.bind ?_ (fun _ => ?_))
   | exact ih0 _ _ _ _ _ _ _ _ _ _
   | exact impl_BitsFlip.mono _ _ _
   | exact impl_BitsJoin.mono _ _ _ _ _
   | exact impl_Rank.mono _ _ _ _ _
   | exact laws_pick.mono _ _ _ _
   | exact laws_sameBits.mono _ _ _ _ _
   | exact spec_BitsJoin.mono _ _ _ _ _
   | exact spec_DrawBitsJoin.mono _ _
   | exact spec_Rank.mono _ _ _ _ _
   | exact LeO.none _
   | refine LeO.ite ?_ ?_
   | refine LeO.bind ?_ (fun _ => ?_)
theorem laws_FnBitsJoin.mono : ∀ a0 k, LeO (laws_FnBitsJoin.f k a0) (laws_FnBitsJoin.f (k + 1) a0) := by
 intro a0 k
 have ih0 := laws_FnBitsJoin.mono_l k
 unfold laws_FnBitsJoin.f
 repeat' first
   | (with_reducible exact ih0 _ _ _ _ _ _ _ _ _ _)
   | (with_reducible exact impl_BitsFlip.mono _ _ _)
   | (with_reducible exact impl_BitsJoin.mono _ _ _ _ _)
   | (with_reducible exact impl_Rank.mono _ _ _ _ _)
   | (with_reducible exact laws_pick.mono _ _ _ _)
   | (with_reducible exact laws_sameBits.mono _ _ _ _ _)
   | (with_reducible exact spec_BitsJoin.mono _ _ _ _ _)
   | (with_reducible exact spec_DrawBitsJoin.mono _ _)
   | (with_reducible exact spec_Rank.mono _ _ _ _ _)
   | (with_reducible exact LeO.refl _)
   | (with_reducible exact LeO.none _)
   | (with_reducible refine LeO.ite ?_ ?_)
   | (with_reducible refine LeO.bind ?_ (fun _ => ?_))
   | exact ih0 _ _ _ _ _ _ _ _ _ _
   | exact impl_BitsFlip.mono _ _ _
   | exact impl_BitsJoin.mono _ _ _ _ _
   | exact impl_Rank.mono _ _ _ _ _
   | exact laws_pick.mono _ _ _ _
   | exact laws_sameBits.mono _ _ _ _ _
   | exact spec_BitsJoin.mono _ _ _ _ _
   | exact spec_DrawBitsJoin.mono _ _
   | exact spec_Rank.mono _ _ _ _ _
   | exact LeO.none _
   | refine LeO.ite ?_ ?_
   | refine LeO.bind ?_ (fun _ => ?_)
def laws_FnBitsJoin.T10 : Bool × List (List Nat × List Nat) := (true, [([], []), ([0], [0]), ([], []), ([2], [2]), ([], []), ([4], [4]), ([3, 5], [3, 5]), ([1, 6], [1, 6]), ([7], [7]), ([8], [8]), ([8], [8]), ([10, 8], [8, 10]), ([8], [8]), ([11, 12, 8], [8, 11, 12]), ([9, 13, 8, 8], [8, 9, 13]), ([8], [8]), ([8], [8]), ([16, 8], [8, 16]), ([15, 17, 14, 8], [8, 15, 17]), ([8], [8]), ([8], [8]), ([19, 20, 18, 8], [8, 19, 20]), ([18, 21, 8], [8, 18, 21]), ([14, 22, 8], [8, 14, 22]), ([8, 23], [8, 23]), ([24, 21], [24]), ([25], [25]), ([25], [25]), ([27, 25], [25, 27]), ([25], [25]), ([28, 29, 25], [25, 28, 29]), ([26, 30, 25, 25], [25, 26, 30]), ([25], [25]), ([25], [25]), ([33, 25], [25, 33]), ([25], [25]), ([34, 35, 25], [25, 34, 35]), ([32, 36, 31, 25], [25, 32, 36]), ([31, 37, 25], [25, 31, 37]), ([25, 38], [25, 38]), ([39, 37], [39]), ([40], [40]), ([41, 40, 40], [40, 41]), ([40], [40]), ([42, 43, 42, 40], [40, 42, 43]), ([40, 44], [40, 44]), ([45, 44, 0, 1, 2, 3, 4, 5, 6, 7, 8, 9, 10, 11, 12, 13, 14, 15, 16, 17, 18, 19, 20, 21, 22, 23, 24, 25, 26, 27, 28, 29, 30, 31, 32, 33, 34, 35, 36, 37, 38, 39, 40, 41, 42, 43, 44, 45], [45])])
def laws_FnBitsJoin.B10 : List Nat := [0, 1, 0, 4, 0, 16, 60, 127, 255, 511, 511, 1535, 511, 7679, 16383, 511, 511, 66047, 262143, 511, 511, 2097151, 4194303, 8388607, 16777215, 33554431, 67108863, 67108863, 201326591, 67108863, 1006632959, 2147483647, 67108863, 67108863, 8657043455, 67108863, 60196651007, 137438953471, 274877906943, 549755813887, 1099511627775, 2199023255551, 4398046511103, 2199023255551, 17592186044415, 35184372088831, 70368744177663]
theorem laws_FnBitsJoin.tab10 : rtab .any (opsOf Try.f12 10) = laws_FnBitsJoin.T10 := by kernel_rfl
theorem laws_FnBitsJoin.bits10 : waitsOk laws_FnBitsJoin.T10.2 laws_FnBitsJoin.B10 = true := by kernel_rfl
set_option maxHeartbeats 8000000 in
set_option maxRecDepth 100000 in
theorem laws_FnBitsJoin.calls (k : Nat) (A0 : Option Addr) (c0 : Nat) (l0 : List Int) (r : Bool) (w : World) (hr0 : Kd.C (Kd.int .u8) w A0 l0.length l0) (hc0 : l0.length ≤ c0) (hr_ : r = true) (h : laws_FnBitsJoin.f k l0 = some r) :
  Calls Try.prog 12 #[.slice A0 l0.length c0] w fun e w' => e = .returned (.bool r) ∧ Below w.heap.size w w' := by
 have HRT_ := As.mk hr_
 clear hr_
 have hu25 := Try.underlying25
 have HR0 := As.mk hr0
 have HC0 := As.mk hc0
 clear hr0 hc0
 have HB := As.mk (Below.refl w.heap.size w)
 have H : ((laws_big.f l0).bind fun t365 => (if t365 = true then (some true) else ((spec_DrawBitsJoin.f k l0).bind fun bt366 => ((spec_BitsJoin.f k bt366.1 bt366.2.1 bt366.2.2.1 bt366.2.2.2).bind fun bt376 => ((impl_BitsJoin.f k bt366.1 bt366.2.1 bt366.2.2.1 bt366.2.2.2).bind fun bt382 => (if (bt382.2.2 != bt376.2.2) = true then (laws_FnBitsJoin.j0 k l0 bt376.2.2 bt382.2.2 true bt366.1 bt366.2.1 bt366.2.2.1 bt366.2.2.2 bt382.1 bt382.2.1) else (laws_FnBitsJoin.j0 k l0 bt376.2.2 bt382.2.2 (!bt382.2.2) bt366.1 bt366.2.1 bt366.2.2.1 bt366.2.2.2 bt382.1 bt382.2.1))))))) = some r := h
 clear h
 replace H := Option.bind_eq_some_iff.mp H
 obtain ⟨t365, A20, H⟩ := H
 replace H : (if t365 = true then (some true) else ((spec_DrawBitsJoin.f k l0).bind fun bt366 => ((spec_BitsJoin.f k bt366.1 bt366.2.1 bt366.2.2.1 bt366.2.2.2).bind fun bt376 => ((impl_BitsJoin.f k bt366.1 bt366.2.1 bt366.2.2.1 bt366.2.2.2).bind fun bt382 => (if (bt382.2.2 != bt376.2.2) = true then (laws_FnBitsJoin.j0 k l0 bt376.2.2 bt382.2.2 true bt366.1 bt366.2.1 bt366.2.2.1 bt366.2.2.2 bt382.1 bt382.2.1) else (laws_FnBitsJoin.j0 k l0 bt376.2.2 bt382.2.2 (!bt382.2.2) bt366.1 bt366.2.1 bt366.2.2.1 bt366.2.2.2 bt382.1 bt382.2.1)))))) = some r := H
 have A2 := As.mk A20
 clear A20
 by_cases c3 : t365 = true
 ·subst c3
  have H1 : (some true) = some r := by rw [if_pos rfl] at H; exact H
  clear H
  have H := H1
  clear H1
  obtain rfl := Option.some.inj H
  go_enter Try.func12, Try.ntmps12
  go_wp2_with (first | ((with_reducible refine gc (f := 38) rfl ?_); refine goesL_ (some 12) rfl rfl Try.func38 (by kernel_rfl) rfl #[.slice A0 l0.length c0] rfl (by (try simp only [List.map_toArray, List.map_cons, List.map_nil]); first | done | rfl | (simp only [List.length_drop, List.length_take]; rfl)) ?_; (with_reducible refine (laws_big.calls _ _ l0 true _ ?side1 ?side2 A2.out).mono ?_); (case side1 => repeat (first | exact HR0.out | (with_reducible refine cA ?_ _) | (with_reducible refine cN ?_ _) | (with_reducible refine cD ?_))); (case side2 => exact HC0.out); rintro e w' ⟨rfl, ⟨nd, rfl⟩⟩; refine ⟨_, rfl, ?_⟩))
  go_ret
  exact ⟨by first | rfl | (simp [errW_none, errW_some] <;> rfl) | (simp [*, errW_none, errW_some] <;> rfl), by repeat (first | (with_reducible first | exact HB.out | apply ba | apply bw | apply b1) | exact HB.out)⟩
 ·replace c3 := Bool.eq_false_iff.mpr c3
  subst c3
  have H1 : ((spec_DrawBitsJoin.f k l0).bind fun bt366 => ((spec_BitsJoin.f k bt366.1 bt366.2.1 bt366.2.2.1 bt366.2.2.2).bind fun bt376 => ((impl_BitsJoin.f k bt366.1 bt366.2.1 bt366.2.2.1 bt366.2.2.2).bind fun bt382 => (if (bt382.2.2 != bt376.2.2) = true then (laws_FnBitsJoin.j0 k l0 bt376.2.2 bt382.2.2 true bt366.1 bt366.2.1 bt366.2.2.1 bt366.2.2.2 bt382.1 bt382.2.1) else (laws_FnBitsJoin.j0 k l0 bt376.2.2 bt382.2.2 (!bt382.2.2) bt366.1 bt366.2.1 bt366.2.2.1 bt366.2.2.2 bt382.1 bt382.2.1))))) = some r := by rw [if_neg (show ¬ (false = true) by decide)] at H; exact H
  clear H
  have H := H1
  clear H1
  replace H := Option.bind_eq_some_iff.mp H
  obtain ⟨⟨t366, t367, t370, t371⟩, A40, H⟩ := H
  replace H : ((spec_BitsJoin.f k t366 t367 t370 t371).bind fun bt376 => ((impl_BitsJoin.f k t366 t367 t370 t371).bind fun bt382 => (if (bt382.2.2 != bt376.2.2) = true then (laws_FnBitsJoin.j0 k l0 bt376.2.2 bt382.2.2 true t366 t367 t370 t371 bt382.1 bt382.2.1) else (laws_FnBitsJoin.j0 k l0 bt376.2.2 bt382.2.2 (!bt382.2.2) t366 t367 t370 t371 bt382.1 bt382.2.1)))) = some r := H
  have A4 := As.mk A40
  clear A40
  replace H := Option.bind_eq_some_iff.mp H
  obtain ⟨⟨t376, t377, t380⟩, A50, H⟩ := H
  replace H : ((impl_BitsJoin.f k t366 t367 t370 t371).bind fun bt382 => (if (bt382.2.2 != t380) = true then (laws_FnBitsJoin.j0 k l0 t380 bt382.2.2 true t366 t367 t370 t371 bt382.1 bt382.2.1) else (laws_FnBitsJoin.j0 k l0 t380 bt382.2.2 (!bt382.2.2) t366 t367 t370 t371 bt382.1 bt382.2.1))) = some r := H
  have A5 := As.mk A50
  clear A50
  replace H := Option.bind_eq_some_iff.mp H
  obtain ⟨⟨t382, t383, t386⟩, A60, H⟩ := H
  replace H : (if (t386 != t380) = true then (laws_FnBitsJoin.j0 k l0 t380 t386 true t366 t367 t370 t371 t382 t383) else (laws_FnBitsJoin.j0 k l0 t380 t386 (!t386) t366 t367 t370 t371 t382 t383)) = some r := H
  have A6 := As.mk A60
  clear A60
  have HC7 := As.mk H
  clear H
  go_enter Try.func12, Try.ntmps12
  go_upto_region 6 with (first | ((with_reducible refine gc (f := 38) rfl ?_); refine goesL_ (some 12) rfl rfl Try.func38 (by kernel_rfl) rfl #[.slice A0 l0.length c0] rfl (by (try simp only [List.map_toArray, List.map_cons, List.map_nil]); first | done | rfl | (simp only [List.length_drop, List.length_take]; rfl)) ?_; (with_reducible refine (laws_big.calls _ _ l0 false _ ?side1 ?side2 A2.out).mono ?_); (case side1 => repeat (first | exact HR0.out | (with_reducible refine cA ?_ _) | (with_reducible refine cN ?_ _) | (with_reducible refine cD ?_))); (case side2 => exact HC0.out); rintro e w' ⟨rfl, ⟨nd, rfl⟩⟩; refine ⟨_, rfl, ?_⟩) | ((with_reducible refine gc (f := 40) rfl ?_); refine goesL_ (some 15) rfl rfl Try.func40 (by kernel_rfl) rfl #[.slice A0 l0.length c0] rfl (by (try simp only [List.map_toArray, List.map_cons, List.map_nil]); first | done | rfl | (simp only [List.length_drop, List.length_take]; rfl)) ?_; (with_reducible refine (spec_DrawBitsJoin.calls k _ _ l0 t366 t367 t370 t371 _ ?side1 ?side2 A4.out).mono ?_); (case side1 => repeat (first | exact HR0.out | (with_reducible refine cA ?_ _) | (with_reducible refine cN ?_ _) | (with_reducible refine cD ?_))); (case side2 => exact HC0.out); rintro e w8 ⟨v368, v372, rfl, ho0, ho1, hb⟩; refine ⟨_, rfl, ?_⟩; have n0_ := As.mk (rL ho0 (bz (by repeat (first | (with_reducible first | exact HB.out | apply ba | apply bw | apply b1) | exact HB.out)))); have n1_ := As.mk (rL ho1 (bz (by repeat (first | (with_reducible first | exact HB.out | apply ba | apply bw | apply b1) | exact HB.out)))); have n2_ := As.mk (bt (by repeat (first | (with_reducible first | exact HB.out | apply ba | apply bw | apply b1) | exact HB.out)) hb); clear HB; have HO369 := n0_; have HO373 := n1_; have HB := n2_; clear n0_ n1_ n2_; (try clear hb); (try clear hb2); (try clear hk); (try clear hi); (try clear ho0); (try clear ho1)) | ((with_reducible refine gd (N := 3) rfl ?_); refine box_event ?hg (N := 3) ?hd (cs := #[.int .i64 0, .slice none 0 0]) (t := 25) ?hr ?_; (case hd => rfl); (case hg => rfl); (case hr => first | (go_simp; done) | (go_simp; rfl)); intro gb374 hg w9 hbox hb; have n0_ := As.mk (rB (by (with_reducible repeat first | apply rA | apply rN | apply rD); exact HO369.out) hb); have n1_ := As.mk (rB (by (with_reducible repeat first | apply rA | apply rN | apply rD); exact HO373.out) hb); have n2_ := As.mk (bt (by repeat (first | (with_reducible first | exact HB.out | apply ba | apply bw | apply b1) | exact HB.out)) hb); have n3_ := As.mk (hbox); have n4_ := As.mk ((by rw [hg]; exact (bz (by repeat (first | (with_reducible first | exact HB.out | apply ba | apply bw | apply b1) | exact HB.out))) : w.heap.size ≤ gb374)); have n5_ := As.mk ((by rw [hg]; exact (bz (by repeat (first | (with_reducible first | exact HB.out | apply ba | apply bw | apply b1) | exact HB.out))) : w.heap.size ≤ gb374)); clear HO369; clear HO373; clear HB; have HO369 := n0_; have HO373 := n1_; have HB := n2_; have BK374 := n3_; have GW374 := n4_; have GE374 := n5_; clear n0_ n1_ n2_ n3_ n4_ n5_; clear hb hbox hg) | ((with_reducible refine gd (N := 4) rfl ?_); refine box_event ?hg (N := 4) ?hd (cs := #[.int .i64 0, .slice none 0 0]) (t := 25) ?hr ?_; (case hd => rfl); (case hg => rfl); (case hr => first | (go_simp; done) | (go_simp; rfl)); intro gb375 hg w10 hbox hb; have n0_ := As.mk (rB (by (with_reducible repeat first | apply rA | apply rN | apply rD); exact HO369.out) hb); have n1_ := As.mk (rB (by (with_reducible repeat first | apply rA | apply rN | apply rD); exact HO373.out) hb); have n2_ := As.mk (bb (g := gb374) (o := .cells #[.int .i64 0, .slice none 0 0] 25 (0, 0)) (by (with_reducible repeat first | apply bN | apply bD | apply bA); exact BK374.out) hb); have n3_ := As.mk (bt (by repeat (first | (with_reducible first | exact HB.out | apply ba | apply bw | apply b1 | refine bs ?_ GE374.out) | exact HB.out)) hb); have n4_ := As.mk (hbox); have n5_ := As.mk ((by rw [hg]; exact (bz (by repeat (first | (with_reducible first | exact HB.out | apply ba | apply bw | apply b1 | refine bs ?_ GE374.out) | exact HB.out))) : w.heap.size ≤ gb375)); have n6_ := As.mk ((by rw [hg]; exact (bz (by repeat (first | (with_reducible first | exact HB.out | apply ba | apply bw | apply b1 | refine bs ?_ GE374.out) | exact HB.out))) : w.heap.size ≤ gb375)); have n7_ := As.mk ((by rw [hg]; exact Nat.ne_of_lt (blk_lt (g := gb374) (o := .cells #[.int .i64 0, .slice none 0 0] 25 (0, 0)) (by (with_reducible repeat first | apply bN | apply bD | apply bA); exact BK374.out)) : gb374 ≠ gb375)); have n8_ := As.mk ((by rw [hg]; exact Nat.ne_of_gt (blk_lt (g := gb374) (o := .cells #[.int .i64 0, .slice none 0 0] 25 (0, 0)) (by (with_reducible repeat first | apply bN | apply bD | apply bA); exact BK374.out)) : gb375 ≠ gb374)); clear HO369; clear HO373; clear BK374; clear HB; have HO369 := n0_; have HO373 := n1_; have BK374 := n2_; have HB := n3_; have BK375 := n4_; have GW375 := n5_; have GE375 := n6_; have NB374_375 := n7_; have NB375_374 := n8_; clear n0_ n1_ n2_ n3_ n4_ n5_ n6_ n7_ n8_; clear hb hbox hg; have hnb11 := NB374_375.out; have hnc11 := NB375_374.out; have hcz12_0 : w10.cell? ⟨gb374, 0, none⟩ = some (.int .i64 0) := (blk_cell BK374.out 0).trans rfl; have hcz12_1 : w10.cell? ⟨gb374, 1, none⟩ = some (.slice none 0 0) := (blk_cell BK374.out 1).trans rfl; have hfz12_0 := blk_frozen BK374.out 0; have hfz12_1 := blk_frozen BK374.out 1; obtain ⟨Ao13, co13, eo13⟩ := rS HO369.out; subst eo13; have hcz14_0 : w10.cell? ⟨gb375, 0, none⟩ = some (.int .i64 0) := (blk_cell BK375.out 0).trans rfl; have hcz14_1 : w10.cell? ⟨gb375, 1, none⟩ = some (.slice none 0 0) := (blk_cell BK375.out 1).trans rfl; have hfz14_0 := blk_frozen BK375.out 0; have hfz14_1 := blk_frozen BK375.out 1; obtain ⟨Ao15, co15, eo15⟩ := rS HO373.out; subst eo15) | ((with_reducible refine gc (f := 36) rfl ?_); refine goesL_ (some 21) rfl rfl Try.func36 (by kernel_rfl) rfl #[.agg #[.int .i64 t366, .slice Ao13 t367.length co13], .agg #[.int .i64 t370, .slice Ao15 t371.length co15]] rfl (by (try simp only [List.map_toArray, List.map_cons, List.map_nil]); first | done | rfl | (simp only [List.length_drop, List.length_take]; rfl)) ?_; (with_reducible refine (spec_BitsJoin.calls k t366 _ _ t367 t370 _ _ t371 t376 t377 t380 _ ?side1 ?side2 ?side3 ?side4 A5.out).mono ?_); (case side1 => refine (rR (e := 53) (base := w.heap.size) (ok := fun k_ => some k_ ≠ (.slice Ao15 t371.length co15 : Value).ownBlock) (n := t367.length) (c := co13) ?_).2.2; exact (by (with_reducible repeat first | apply rA | apply rN | apply rD); exact (Kd.R_mono (Kd.R_mono (Kd.R_far (p := ⟨gb375, 1, none⟩) (Kd.R_far (p := ⟨gb375, 0, none⟩) (Kd.R_far (p := ⟨gb374, 1, none⟩) (Kd.R_far (p := ⟨gb374, 0, none⟩) (Kd.R_types (Kd.R_types HO369.out BK374.out (by decide)) BK375.out (by decide)) (fun _ hk => hk.1.2) (.int .i64 t366)) (fun _ hk => hk.1.2) (.slice Ao13 t367.length co13)) (fun _ hk => hk.2) (.int .i64 t370)) (fun _ hk => hk.2) (.slice Ao15 t371.length co15)) (fun _ h_ => h_.1)) (fun _ h_ => h_.1)))); (case side2 => exact (rR HO369.out).2.1); (case side3 => refine (rR (e := 53) (base := w.heap.size) (ok := fun k_ => some k_ ≠ (.slice Ao13 t367.length co13 : Value).ownBlock) (n := t371.length) (c := co15) ?_).2.2; exact (by (with_reducible repeat first | apply rA | apply rN | apply rD); exact (Kd.R_mono (Kd.R_mono (Kd.R_far (p := ⟨gb375, 1, none⟩) (Kd.R_far (p := ⟨gb375, 0, none⟩) (Kd.R_far (p := ⟨gb374, 1, none⟩) (Kd.R_far (p := ⟨gb374, 0, none⟩) (Kd.R_types (Kd.R_types HO373.out BK374.out (by decide)) BK375.out (by decide)) (fun _ hk => hk.1.2) (.int .i64 t366)) (fun _ hk => hk.1.2) (.slice Ao13 t367.length co13)) (fun _ hk => hk.2) (.int .i64 t370)) (fun _ hk => hk.2) (.slice Ao15 t371.length co15)) (fun _ h_ => h_.1)) (fun _ h_ => h_.1)))); (case side4 => exact (rR HO373.out).2.1); rintro e w16 ⟨v378, rfl, ho0, hb⟩; refine ⟨_, rfl, ?_⟩; have n0_ := As.mk (rE (by (with_reducible repeat first | apply rA | apply rN | apply rD); exact (Kd.R_mono (Kd.R_mono (Kd.R_far (p := ⟨gb375, 1, none⟩) (Kd.R_far (p := ⟨gb375, 0, none⟩) (Kd.R_far (p := ⟨gb374, 1, none⟩) (Kd.R_far (p := ⟨gb374, 0, none⟩) (Kd.R_types (Kd.R_types HO369.out BK374.out (by decide)) BK375.out (by decide)) (fun _ hk => hk.1.2) (.int .i64 t366)) (fun _ hk => hk.1.2) (.slice Ao13 t367.length co13)) (fun _ hk => hk.2) (.int .i64 t370)) (fun _ hk => hk.2) (.slice Ao15 t371.length co15)) (fun _ h_ => h_.1)) (fun _ h_ => h_.1))) (Kd.R_base ho0) hb); have n1_ := As.mk (rE (by (with_reducible repeat first | apply rA | apply rN | apply rD); exact (Kd.R_mono (Kd.R_mono (Kd.R_far (p := ⟨gb375, 1, none⟩) (Kd.R_far (p := ⟨gb375, 0, none⟩) (Kd.R_far (p := ⟨gb374, 1, none⟩) (Kd.R_far (p := ⟨gb374, 0, none⟩) (Kd.R_types (Kd.R_types HO373.out BK374.out (by decide)) BK375.out (by decide)) (fun _ hk => hk.1.2) (.int .i64 t366)) (fun _ hk => hk.1.2) (.slice Ao13 t367.length co13)) (fun _ hk => hk.2) (.int .i64 t370)) (fun _ hk => hk.2) (.slice Ao15 t371.length co15)) (fun _ h_ => h_.1)) (fun _ h_ => h_.1))) (Kd.R_base ho0) hb); have n2_ := As.mk (rL (rW (rW ho0 (Kd.R_lt (by (with_reducible repeat first | apply rA | apply rN | apply rD); exact (Kd.R_mono (Kd.R_mono (Kd.R_far (p := ⟨gb375, 1, none⟩) (Kd.R_far (p := ⟨gb375, 0, none⟩) (Kd.R_far (p := ⟨gb374, 1, none⟩) (Kd.R_far (p := ⟨gb374, 0, none⟩) (Kd.R_types (Kd.R_types HO369.out BK374.out (by decide)) BK375.out (by decide)) (fun _ hk => hk.1.2) (.int .i64 t366)) (fun _ hk => hk.1.2) (.slice Ao13 t367.length co13)) (fun _ hk => hk.2) (.int .i64 t370)) (fun _ hk => hk.2) (.slice Ao15 t371.length co15)) (fun _ h_ => h_.1)) (fun _ h_ => h_.1))))) (Kd.R_lt (by (with_reducible repeat first | apply rA | apply rN | apply rD); exact (Kd.R_mono (Kd.R_mono (Kd.R_far (p := ⟨gb375, 1, none⟩) (Kd.R_far (p := ⟨gb375, 0, none⟩) (Kd.R_far (p := ⟨gb374, 1, none⟩) (Kd.R_far (p := ⟨gb374, 0, none⟩) (Kd.R_types (Kd.R_types HO373.out BK374.out (by decide)) BK375.out (by decide)) (fun _ hk => hk.1.2) (.int .i64 t366)) (fun _ hk => hk.1.2) (.slice Ao13 t367.length co13)) (fun _ hk => hk.2) (.int .i64 t370)) (fun _ hk => hk.2) (.slice Ao15 t371.length co15)) (fun _ h_ => h_.1)) (fun _ h_ => h_.1))))) (bz (by repeat (first | (with_reducible first | exact HB.out | apply ba | apply bw | apply b1 | refine bs ?_ GE374.out | refine bs ?_ GE375.out) | exact HB.out)))); have n3_ := As.mk (bb (g := gb374) (o := .cells #[.int .i64 t366, .slice Ao13 t367.length co13] 25 (0, 0)) (by (with_reducible repeat first | apply bN | apply bD | apply bA); refine blk_far ?_ NB374_375.out _; (with_reducible repeat first | apply bN | apply bD | apply bA); refine blk_far ?_ NB374_375.out _; (with_reducible repeat first | apply bN | apply bD | apply bA); refine blk_put (cs := #[.int .i64 t366, .slice none 0 0]) ?_ 1 _ rfl; (with_reducible repeat first | apply bN | apply bD | apply bA); refine blk_put (cs := #[.int .i64 0, .slice none 0 0]) ?_ 0 _ rfl; (with_reducible repeat first | apply bN | apply bD | apply bA); exact BK374.out) hb); have n4_ := As.mk (bb (g := gb375) (o := .cells #[.int .i64 t370, .slice Ao15 t371.length co15] 25 (0, 0)) (by (with_reducible repeat first | apply bN | apply bD | apply bA); refine blk_put (cs := #[.int .i64 t370, .slice none 0 0]) ?_ 1 _ rfl; (with_reducible repeat first | apply bN | apply bD | apply bA); refine blk_put (cs := #[.int .i64 0, .slice none 0 0]) ?_ 0 _ rfl; (with_reducible repeat first | apply bN | apply bD | apply bA); refine blk_far ?_ NB375_374.out _; (with_reducible repeat first | apply bN | apply bD | apply bA); refine blk_far ?_ NB375_374.out _; (with_reducible repeat first | apply bN | apply bD | apply bA); exact BK375.out) hb); have n5_ := As.mk (bt (by repeat (first | (with_reducible first | exact HB.out | apply ba | apply bw | apply b1 | refine bs ?_ GE374.out | refine bs ?_ GE375.out) | exact HB.out)) hb); clear HO369; clear HO373; clear BK374; clear BK375; clear HB; have HO369 := n0_; have HO373 := n1_; have HO379 := n2_; have BK374 := n3_; have BK375 := n4_; have HB := n5_; clear n0_ n1_ n2_ n3_ n4_ n5_; (try clear hb); (try clear hb2); (try clear hk); (try clear hi); (try clear ho0)) | ((with_reducible refine gd (N := 5) rfl ?_); refine box_event ?hg (N := 5) ?hd (cs := #[.int .i64 0, .slice none 0 0]) (t := 25) ?hr ?_; (case hd => rfl); (case hg => rfl); (case hr => first | (go_simp; done) | (go_simp; rfl)); intro gb381 hg w17 hbox hb; have n0_ := As.mk (rB (by (with_reducible repeat first | apply rA | apply rN | apply rD); exact HO369.out) hb); have n1_ := As.mk (rB (by (with_reducible repeat first | apply rA | apply rN | apply rD); exact HO373.out) hb); have n2_ := As.mk (rB (by (with_reducible repeat first | apply rA | apply rN | apply rD); exact HO379.out) hb); have n3_ := As.mk (bb (g := gb374) (o := .cells #[.int .i64 t366, .slice Ao13 t367.length co13] 25 (0, 0)) (by (with_reducible repeat first | apply bN | apply bD | apply bA); exact BK374.out) hb); have n4_ := As.mk (bb (g := gb375) (o := .cells #[.int .i64 t370, .slice Ao15 t371.length co15] 25 (0, 0)) (by (with_reducible repeat first | apply bN | apply bD | apply bA); exact BK375.out) hb); have n5_ := As.mk (bt (by repeat (first | (with_reducible first | exact HB.out | apply ba | apply bw | apply b1 | refine bs ?_ GE374.out | refine bs ?_ GE375.out) | exact HB.out)) hb); have n6_ := As.mk (hbox); have n7_ := As.mk ((by rw [hg]; exact (bz (by repeat (first | (with_reducible first | exact HB.out | apply ba | apply bw | apply b1 | refine bs ?_ GE374.out | refine bs ?_ GE375.out) | exact HB.out))) : w.heap.size ≤ gb381)); have n8_ := As.mk ((by rw [hg]; exact (bz (by repeat (first | (with_reducible first | exact HB.out | apply ba | apply bw | apply b1 | refine bs ?_ GE374.out | refine bs ?_ GE375.out) | exact HB.out))) : w.heap.size ≤ gb381)); have n9_ := As.mk ((by rw [hg]; exact Nat.ne_of_lt (blk_lt (g := gb374) (o := .cells #[.int .i64 t366, .slice Ao13 t367.length co13] 25 (0, 0)) (by (with_reducible repeat first | apply bN | apply bD | apply bA); exact BK374.out)) : gb374 ≠ gb381)); have n10_ := As.mk ((by rw [hg]; exact Nat.ne_of_gt (blk_lt (g := gb374) (o := .cells #[.int .i64 t366, .slice Ao13 t367.length co13] 25 (0, 0)) (by (with_reducible repeat first | apply bN | apply bD | apply bA); exact BK374.out)) : gb381 ≠ gb374)); have n11_ := As.mk ((by rw [hg]; exact Nat.ne_of_lt (blk_lt (g := gb375) (o := .cells #[.int .i64 t370, .slice Ao15 t371.length co15] 25 (0, 0)) (by (with_reducible repeat first | apply bN | apply bD | apply bA); exact BK375.out)) : gb375 ≠ gb381)); have n12_ := As.mk ((by rw [hg]; exact Nat.ne_of_gt (blk_lt (g := gb375) (o := .cells #[.int .i64 t370, .slice Ao15 t371.length co15] 25 (0, 0)) (by (with_reducible repeat first | apply bN | apply bD | apply bA); exact BK375.out)) : gb381 ≠ gb375)); clear HO369; clear HO373; clear HO379; clear BK374; clear BK375; clear HB; have HO369 := n0_; have HO373 := n1_; have HO379 := n2_; have BK374 := n3_; have BK375 := n4_; have HB := n5_; have BK381 := n6_; have GW381 := n7_; have GE381 := n8_; have NB374_381 := n9_; have NB381_374 := n10_; have NB375_381 := n11_; have NB381_375 := n12_; clear n0_ n1_ n2_ n3_ n4_ n5_ n6_ n7_ n8_ n9_ n10_ n11_ n12_; clear hb hbox hg; have hnb18 := NB381_374.out; have hnc18 := NB374_381.out; have hnb19 := NB381_375.out; have hnc19 := NB375_381.out; have hcz20_0 : w17.cell? ⟨gb381, 0, none⟩ = some (.int .i64 0) := (blk_cell BK381.out 0).trans rfl; have hcz20_1 : w17.cell? ⟨gb381, 1, none⟩ = some (.slice none 0 0) := (blk_cell BK381.out 1).trans rfl; have hfz20_0 := blk_frozen BK381.out 0; have hfz20_1 := blk_frozen BK381.out 1; obtain ⟨Ao21, co21, eo21⟩ := rS HO379.out; subst eo21; have hcz22_0 : w17.cell? ⟨gb374, 0, none⟩ = some (.int .i64 t366) := (blk_cell BK374.out 0).trans rfl; have hcz22_1 : w17.cell? ⟨gb374, 1, none⟩ = some (.slice Ao13 t367.length co13) := (blk_cell BK374.out 1).trans rfl; have hfz22_0 := blk_frozen BK374.out 0; have hfz22_1 := blk_frozen BK374.out 1; have hcz23_0 : w17.cell? ⟨gb375, 0, none⟩ = some (.int .i64 t370) := (blk_cell BK375.out 0).trans rfl; have hcz23_1 : w17.cell? ⟨gb375, 1, none⟩ = some (.slice Ao15 t371.length co15) := (blk_cell BK375.out 1).trans rfl; have hfz23_0 := blk_frozen BK375.out 0; have hfz23_1 := blk_frozen BK375.out 1) | ((with_reducible refine gc (f := 37) rfl ?_); refine goesL_ (some 27) rfl rfl Try.func37 (by kernel_rfl) rfl #[.agg #[.int .i64 t366, .slice Ao13 t367.length co13], .agg #[.int .i64 t370, .slice Ao15 t371.length co15]] rfl (by (try simp only [List.map_toArray, List.map_cons, List.map_nil]); first | done | rfl | (simp only [List.length_drop, List.length_take]; rfl)) ?_; (with_reducible refine (impl_BitsJoin.calls k t366 _ _ t367 t370 _ _ t371 t382 t383 t386 _ ?side1 ?side2 ?side3 ?side4 A6.out).mono ?_); (case side1 => refine (rR (e := 53) (base := w.heap.size) (ok := fun k_ => (some k_ ≠ (.slice Ao15 t371.length co15 : Value).ownBlock ∧ some k_ ≠ (.slice Ao21 t377.length co21 : Value).ownBlock)) (n := t367.length) (c := co13) ?_).2.2; exact (by (with_reducible repeat first | apply rA | apply rN | apply rD); exact (Kd.R_mono (Kd.R_far (p := ⟨gb381, 1, none⟩) (Kd.R_far (p := ⟨gb381, 0, none⟩) (Kd.R_types HO369.out BK381.out (by decide)) (fun _ hk => hk.2) (.int .i64 t376)) (fun _ hk => hk.2) (.slice Ao21 t377.length co21)) (fun _ h_ => h_.1)))); (case side2 => exact (rR HO369.out).2.1); (case side3 => refine (rR (e := 53) (base := w.heap.size) (ok := fun k_ => (some k_ ≠ (.slice Ao13 t367.length co13 : Value).ownBlock ∧ some k_ ≠ (.slice Ao21 t377.length co21 : Value).ownBlock)) (n := t371.length) (c := co15) ?_).2.2; exact (by (with_reducible repeat first | apply rA | apply rN | apply rD); exact (Kd.R_mono (Kd.R_far (p := ⟨gb381, 1, none⟩) (Kd.R_far (p := ⟨gb381, 0, none⟩) (Kd.R_types HO373.out BK381.out (by decide)) (fun _ hk => hk.2) (.int .i64 t376)) (fun _ hk => hk.2) (.slice Ao21 t377.length co21)) (fun _ h_ => h_.1)))); (case side4 => exact (rR HO373.out).2.1); rintro e w24 ⟨v384, rfl, ho0, hb⟩; refine ⟨_, rfl, ?_⟩; have n0_ := As.mk (rE (by (with_reducible repeat first | apply rA | apply rN | apply rD); exact (Kd.R_mono (Kd.R_far (p := ⟨gb381, 1, none⟩) (Kd.R_far (p := ⟨gb381, 0, none⟩) (Kd.R_types HO369.out BK381.out (by decide)) (fun _ hk => hk.2) (.int .i64 t376)) (fun _ hk => hk.2) (.slice Ao21 t377.length co21)) (fun _ h_ => h_.1))) (Kd.R_base ho0) hb); have n1_ := As.mk (rE (by (with_reducible repeat first | apply rA | apply rN | apply rD); exact (Kd.R_mono (Kd.R_far (p := ⟨gb381, 1, none⟩) (Kd.R_far (p := ⟨gb381, 0, none⟩) (Kd.R_types HO373.out BK381.out (by decide)) (fun _ hk => hk.2) (.int .i64 t376)) (fun _ hk => hk.2) (.slice Ao21 t377.length co21)) (fun _ h_ => h_.1))) (Kd.R_base ho0) hb); have n2_ := As.mk (rE (by (with_reducible repeat first | apply rA | apply rN | apply rD); exact (Kd.R_mono (Kd.R_far (p := ⟨gb381, 1, none⟩) (Kd.R_far (p := ⟨gb381, 0, none⟩) (Kd.R_types HO379.out BK381.out (by decide)) (fun _ hk => hk.2) (.int .i64 t376)) (fun _ hk => hk.2) (.slice Ao21 t377.length co21)) (fun _ h_ => h_.1))) (Kd.R_base ho0) hb); have n3_ := As.mk (rL (rW (rW (rW ho0 (Kd.R_lt (by (with_reducible repeat first | apply rA | apply rN | apply rD); exact (Kd.R_mono (Kd.R_far (p := ⟨gb381, 1, none⟩) (Kd.R_far (p := ⟨gb381, 0, none⟩) (Kd.R_types HO369.out BK381.out (by decide)) (fun _ hk => hk.2) (.int .i64 t376)) (fun _ hk => hk.2) (.slice Ao21 t377.length co21)) (fun _ h_ => h_.1))))) (Kd.R_lt (by (with_reducible repeat first | apply rA | apply rN | apply rD); exact (Kd.R_mono (Kd.R_far (p := ⟨gb381, 1, none⟩) (Kd.R_far (p := ⟨gb381, 0, none⟩) (Kd.R_types HO373.out BK381.out (by decide)) (fun _ hk => hk.2) (.int .i64 t376)) (fun _ hk => hk.2) (.slice Ao21 t377.length co21)) (fun _ h_ => h_.1))))) (Kd.R_lt (by (with_reducible repeat first | apply rA | apply rN | apply rD); exact (Kd.R_mono (Kd.R_far (p := ⟨gb381, 1, none⟩) (Kd.R_far (p := ⟨gb381, 0, none⟩) (Kd.R_types HO379.out BK381.out (by decide)) (fun _ hk => hk.2) (.int .i64 t376)) (fun _ hk => hk.2) (.slice Ao21 t377.length co21)) (fun _ h_ => h_.1))))) (bz (by repeat (first | (with_reducible first | exact HB.out | apply ba | apply bw | apply b1 | refine bs ?_ GE374.out | refine bs ?_ GE375.out | refine bs ?_ GE381.out) | exact HB.out)))); have n4_ := As.mk (bb (g := gb374) (o := .cells #[.int .i64 t366, .slice Ao13 t367.length co13] 25 (0, 0)) (by (with_reducible repeat first | apply bN | apply bD | apply bA); refine blk_far ?_ NB374_381.out _; (with_reducible repeat first | apply bN | apply bD | apply bA); refine blk_far ?_ NB374_381.out _; (with_reducible repeat first | apply bN | apply bD | apply bA); exact BK374.out) hb); have n5_ := As.mk (bb (g := gb375) (o := .cells #[.int .i64 t370, .slice Ao15 t371.length co15] 25 (0, 0)) (by (with_reducible repeat first | apply bN | apply bD | apply bA); refine blk_far ?_ NB375_381.out _; (with_reducible repeat first | apply bN | apply bD | apply bA); refine blk_far ?_ NB375_381.out _; (with_reducible repeat first | apply bN | apply bD | apply bA); exact BK375.out) hb); have n6_ := As.mk (bb (g := gb381) (o := .cells #[.int .i64 t376, .slice Ao21 t377.length co21] 25 (0, 0)) (by (with_reducible repeat first | apply bN | apply bD | apply bA); refine blk_put (cs := #[.int .i64 t376, .slice none 0 0]) ?_ 1 _ rfl; (with_reducible repeat first | apply bN | apply bD | apply bA); refine blk_put (cs := #[.int .i64 0, .slice none 0 0]) ?_ 0 _ rfl; (with_reducible repeat first | apply bN | apply bD | apply bA); exact BK381.out) hb); have n7_ := As.mk (bt (by repeat (first | (with_reducible first | exact HB.out | apply ba | apply bw | apply b1 | refine bs ?_ GE374.out | refine bs ?_ GE375.out | refine bs ?_ GE381.out) | exact HB.out)) hb); clear HO369; clear HO373; clear HO379; clear BK374; clear BK375; clear BK381; clear HB; have HO369 := n0_; have HO373 := n1_; have HO379 := n2_; have HO385 := n3_; have BK374 := n4_; have BK375 := n5_; have BK381 := n6_; have HB := n7_; clear n0_ n1_ n2_ n3_ n4_ n5_ n6_ n7_; (try clear hb); (try clear hb2); (try clear hk); (try clear hi); (try clear ho0)) | ((with_reducible refine gd (N := 7) rfl ?_); refine box_event ?hg (N := 7) ?hd (cs := #[.int .i64 0, .slice none 0 0]) (t := 25) ?hr ?_; (case hd => rfl); (case hg => rfl); (case hr => first | (go_simp; done) | (go_simp; rfl)); intro gb387 hg w25 hbox hb; have n0_ := As.mk (rB (by (with_reducible repeat first | apply rA | apply rN | apply rD); exact HO369.out) hb); have n1_ := As.mk (rB (by (with_reducible repeat first | apply rA | apply rN | apply rD); exact HO373.out) hb); have n2_ := As.mk (rB (by (with_reducible repeat first | apply rA | apply rN | apply rD); exact HO379.out) hb); have n3_ := As.mk (rB (by (with_reducible repeat first | apply rA | apply rN | apply rD); exact HO385.out) hb); have n4_ := As.mk (bb (g := gb374) (o := .cells #[.int .i64 t366, .slice Ao13 t367.length co13] 25 (0, 0)) (by (with_reducible repeat first | apply bN | apply bD | apply bA); exact BK374.out) hb); have n5_ := As.mk (bb (g := gb375) (o := .cells #[.int .i64 t370, .slice Ao15 t371.length co15] 25 (0, 0)) (by (with_reducible repeat first | apply bN | apply bD | apply bA); exact BK375.out) hb); have n6_ := As.mk (bb (g := gb381) (o := .cells #[.int .i64 t376, .slice Ao21 t377.length co21] 25 (0, 0)) (by (with_reducible repeat first | apply bN | apply bD | apply bA); exact BK381.out) hb); have n7_ := As.mk (bt (by repeat (first | (with_reducible first | exact HB.out | apply ba | apply bw | apply b1 | refine bs ?_ GE374.out | refine bs ?_ GE375.out | refine bs ?_ GE381.out) | exact HB.out)) hb); have n8_ := As.mk (hbox); have n9_ := As.mk ((by rw [hg]; exact (bz (by repeat (first | (with_reducible first | exact HB.out | apply ba | apply bw | apply b1 | refine bs ?_ GE374.out | refine bs ?_ GE375.out | refine bs ?_ GE381.out) | exact HB.out))) : w.heap.size ≤ gb387)); have n10_ := As.mk ((by rw [hg]; exact (bz (by repeat (first | (with_reducible first | exact HB.out | apply ba | apply bw | apply b1 | refine bs ?_ GE374.out | refine bs ?_ GE375.out | refine bs ?_ GE381.out) | exact HB.out))) : w.heap.size ≤ gb387)); have n11_ := As.mk ((by rw [hg]; exact Nat.ne_of_lt (blk_lt (g := gb374) (o := .cells #[.int .i64 t366, .slice Ao13 t367.length co13] 25 (0, 0)) (by (with_reducible repeat first | apply bN | apply bD | apply bA); exact BK374.out)) : gb374 ≠ gb387)); have n12_ := As.mk ((by rw [hg]; exact Nat.ne_of_gt (blk_lt (g := gb374) (o := .cells #[.int .i64 t366, .slice Ao13 t367.length co13] 25 (0, 0)) (by (with_reducible repeat first | apply bN | apply bD | apply bA); exact BK374.out)) : gb387 ≠ gb374)); have n13_ := As.mk ((by rw [hg]; exact Nat.ne_of_lt (blk_lt (g := gb375) (o := .cells #[.int .i64 t370, .slice Ao15 t371.length co15] 25 (0, 0)) (by (with_reducible repeat first | apply bN | apply bD | apply bA); exact BK375.out)) : gb375 ≠ gb387)); have n14_ := As.mk ((by rw [hg]; exact Nat.ne_of_gt (blk_lt (g := gb375) (o := .cells #[.int .i64 t370, .slice Ao15 t371.length co15] 25 (0, 0)) (by (with_reducible repeat first | apply bN | apply bD | apply bA); exact BK375.out)) : gb387 ≠ gb375)); have n15_ := As.mk ((by rw [hg]; exact Nat.ne_of_lt (blk_lt (g := gb381) (o := .cells #[.int .i64 t376, .slice Ao21 t377.length co21] 25 (0, 0)) (by (with_reducible repeat first | apply bN | apply bD | apply bA); exact BK381.out)) : gb381 ≠ gb387)); have n16_ := As.mk ((by rw [hg]; exact Nat.ne_of_gt (blk_lt (g := gb381) (o := .cells #[.int .i64 t376, .slice Ao21 t377.length co21] 25 (0, 0)) (by (with_reducible repeat first | apply bN | apply bD | apply bA); exact BK381.out)) : gb387 ≠ gb381)); clear HO369; clear HO373; clear HO379; clear HO385; clear BK374; clear BK375; clear BK381; clear HB; have HO369 := n0_; have HO373 := n1_; have HO379 := n2_; have HO385 := n3_; have BK374 := n4_; have BK375 := n5_; have BK381 := n6_; have HB := n7_; have BK387 := n8_; have GW387 := n9_; have GE387 := n10_; have NB374_387 := n11_; have NB387_374 := n12_; have NB375_387 := n13_; have NB387_375 := n14_; have NB381_387 := n15_; have NB387_381 := n16_; clear n0_ n1_ n2_ n3_ n4_ n5_ n6_ n7_ n8_ n9_ n10_ n11_ n12_ n13_ n14_ n15_ n16_; clear hb hbox hg; have hnb26 := NB387_374.out; have hnc26 := NB374_387.out; have hnb27 := NB387_375.out; have hnc27 := NB375_387.out; have hnb28 := NB387_381.out; have hnc28 := NB381_387.out; have hcz29_0 : w25.cell? ⟨gb387, 0, none⟩ = some (.int .i64 0) := (blk_cell BK387.out 0).trans rfl; have hcz29_1 : w25.cell? ⟨gb387, 1, none⟩ = some (.slice none 0 0) := (blk_cell BK387.out 1).trans rfl; have hfz29_0 := blk_frozen BK387.out 0; have hfz29_1 := blk_frozen BK387.out 1; obtain ⟨Ao30, co30, eo30⟩ := rS HO385.out; subst eo30))
  (try simp only [Act.put, List.setIfInBounds_toArray, List.set_cons_zero, List.set_cons_succ])
  go_cut [36] (fun v36 wc => ∃ (kq : Nat) (x36_6 : Bool), v36 = .bool x36_6 ∧ As (laws_FnBitsJoin.j0 kq l0 t380 t386 x36_6 t366 t367 t370 t371 t382 t383 = some r) ∧ As (kq ≤ k) ∧ As (Kd.R (Kd.int .u64) 53 wc w.heap.size (fun k_ => some k_ ≠ ((.slice Ao15 t371.length co15) : Value).ownBlock ∧ some k_ ≠ ((.slice Ao21 t377.length co21) : Value).ownBlock ∧ some k_ ≠ ((.slice Ao30 t383.length co30) : Value).ownBlock) (.slice Ao13 t367.length co13) t367) ∧ As (Kd.R (Kd.int .u64) 53 wc w.heap.size (fun k_ => some k_ ≠ ((.slice Ao13 t367.length co13) : Value).ownBlock ∧ some k_ ≠ ((.slice Ao21 t377.length co21) : Value).ownBlock ∧ some k_ ≠ ((.slice Ao30 t383.length co30) : Value).ownBlock) (.slice Ao15 t371.length co15) t371) ∧ As (Kd.R (Kd.int .u64) 53 wc w.heap.size (fun k_ => some k_ ≠ ((.slice Ao13 t367.length co13) : Value).ownBlock ∧ some k_ ≠ ((.slice Ao15 t371.length co15) : Value).ownBlock ∧ some k_ ≠ ((.slice Ao30 t383.length co30) : Value).ownBlock) (.slice Ao21 t377.length co21) t377) ∧ As (Kd.R (Kd.int .u64) 53 wc w.heap.size (fun k_ => some k_ ≠ ((.slice Ao13 t367.length co13) : Value).ownBlock ∧ some k_ ≠ ((.slice Ao15 t371.length co15) : Value).ownBlock ∧ some k_ ≠ ((.slice Ao21 t377.length co21) : Value).ownBlock) (.slice Ao30 t383.length co30) t383) ∧ As (wc.heap[gb374]? = some (.cells #[.int .i64 t366, (.slice Ao13 t367.length co13)] 25 (0, 0))) ∧ As (wc.heap[gb375]? = some (.cells #[.int .i64 t370, (.slice Ao15 t371.length co15)] 25 (0, 0))) ∧ As (wc.heap[gb381]? = some (.cells #[.int .i64 t376, (.slice Ao21 t377.length co21)] 25 (0, 0))) ∧ As (wc.heap[gb387]? = some (.cells #[.int .i64 t382, (.slice Ao30 t383.length co30)] 25 (0, 0))) ∧ As (Below w.heap.size w wc))
  case first =>
   have H := HC7.out
   clear HC7
   by_cases c31 : (t386 != t380) = true
   ·rw [if_pos c31] at H
    have c31b0 : (t386 != t380) = true := c31
    (try (have c31b1 : decide (t386 = t380) = false := by simpa using c31))
    (try (have c31b2 : (t386 == t380) = false := by simpa using c31))
    (try (have c31b3 : ¬ (t386 = t380) := by simpa using c31))
    clear c31
    (first | rw [c31b0] | (simp only [i64_w, i32_w]; rw [c31b0]) | skip)
    have H' := As.mk H
    clear H
    go_wp2
    go_meet
    case rel => exact ⟨_, (true), (by first | rfl | (simp; done) | (simp [*]; done)), H', ⟨by first | omega | exact Nat.le_refl _⟩, ⟨by (with_reducible repeat first | apply rA | apply rN | apply rD); exact Kd.R_mono (Kd.R_far (p := ⟨gb387, 1, none⟩) (Kd.R_far (p := ⟨gb387, 0, none⟩) (Kd.R_types HO369.out BK387.out (by decide)) (fun _ hk => hk.2) (.int .i64 t382)) (fun _ hk => hk.2) (.slice Ao30 t383.length co30)) (fun _ hk => ⟨hk.1.1.1, ⟨hk.1.1.2, hk.1.2⟩⟩)⟩, ⟨by (with_reducible repeat first | apply rA | apply rN | apply rD); exact Kd.R_mono (Kd.R_far (p := ⟨gb387, 1, none⟩) (Kd.R_far (p := ⟨gb387, 0, none⟩) (Kd.R_types HO373.out BK387.out (by decide)) (fun _ hk => hk.2) (.int .i64 t382)) (fun _ hk => hk.2) (.slice Ao30 t383.length co30)) (fun _ hk => ⟨hk.1.1.1, ⟨hk.1.1.2, hk.1.2⟩⟩)⟩, ⟨by (with_reducible repeat first | apply rA | apply rN | apply rD); exact Kd.R_mono (Kd.R_far (p := ⟨gb387, 1, none⟩) (Kd.R_far (p := ⟨gb387, 0, none⟩) (Kd.R_types HO379.out BK387.out (by decide)) (fun _ hk => hk.2) (.int .i64 t382)) (fun _ hk => hk.2) (.slice Ao30 t383.length co30)) (fun _ hk => ⟨hk.1.1.1.2, ⟨hk.1.1.2, hk.1.2⟩⟩)⟩, ⟨by (with_reducible repeat first | apply rA | apply rN | apply rD); exact Kd.R_mono (Kd.R_far (p := ⟨gb387, 1, none⟩) (Kd.R_far (p := ⟨gb387, 0, none⟩) (Kd.R_types HO385.out BK387.out (by decide)) (fun _ hk => hk.2) (.int .i64 t382)) (fun _ hk => hk.2) (.slice Ao30 t383.length co30)) (fun _ hk => ⟨hk.1.1.1.2, ⟨hk.1.1.2, hk.1.2⟩⟩)⟩, ⟨by (with_reducible repeat first | apply bN | apply bD | apply bA); refine blk_far ?_ NB374_387.out _; (with_reducible repeat first | apply bN | apply bD | apply bA); refine blk_far ?_ NB374_387.out _; (with_reducible repeat first | apply bN | apply bD | apply bA); exact BK374.out⟩, ⟨by (with_reducible repeat first | apply bN | apply bD | apply bA); refine blk_far ?_ NB375_387.out _; (with_reducible repeat first | apply bN | apply bD | apply bA); refine blk_far ?_ NB375_387.out _; (with_reducible repeat first | apply bN | apply bD | apply bA); exact BK375.out⟩, ⟨by (with_reducible repeat first | apply bN | apply bD | apply bA); refine blk_far ?_ NB381_387.out _; (with_reducible repeat first | apply bN | apply bD | apply bA); refine blk_far ?_ NB381_387.out _; (with_reducible repeat first | apply bN | apply bD | apply bA); exact BK381.out⟩, ⟨by (with_reducible repeat first | apply bN | apply bD | apply bA); refine blk_put (cs := #[.int .i64 t382, .slice none 0 0]) ?_ 1 _ rfl; (with_reducible repeat first | apply bN | apply bD | apply bA); refine blk_put (cs := #[.int .i64 0, .slice none 0 0]) ?_ 0 _ rfl; (with_reducible repeat first | apply bN | apply bD | apply bA); exact BK387.out⟩, ⟨by repeat (first | (with_reducible first | exact HB.out | apply ba | apply bw | apply b1 | refine bs ?_ GE374.out | refine bs ?_ GE375.out | refine bs ?_ GE381.out | refine bs ?_ GE387.out) | exact HB.out)⟩⟩
   ·rw [if_neg c31] at H
    have c31b0 : (t386 != t380) = false := by simpa using c31
    (try (have c31b1 : decide (t386 = t380) = true := by simpa using c31))
    (try (have c31b2 : (t386 == t380) = true := by simpa using c31))
    clear c31
    (first | rw [c31b0] | (simp only [i64_w, i32_w]; rw [c31b0]) | skip)
    have H' := As.mk H
    clear H
    go_wp2
    go_meet
    case rel => exact ⟨_, (!t386), (by first | rfl | (simp; done) | (simp [*]; done)), H', ⟨by first | omega | exact Nat.le_refl _⟩, ⟨by (with_reducible repeat first | apply rA | apply rN | apply rD); exact Kd.R_mono (Kd.R_far (p := ⟨gb387, 1, none⟩) (Kd.R_far (p := ⟨gb387, 0, none⟩) (Kd.R_types HO369.out BK387.out (by decide)) (fun _ hk => hk.2) (.int .i64 t382)) (fun _ hk => hk.2) (.slice Ao30 t383.length co30)) (fun _ hk => ⟨hk.1.1.1, ⟨hk.1.1.2, hk.1.2⟩⟩)⟩, ⟨by (with_reducible repeat first | apply rA | apply rN | apply rD); exact Kd.R_mono (Kd.R_far (p := ⟨gb387, 1, none⟩) (Kd.R_far (p := ⟨gb387, 0, none⟩) (Kd.R_types HO373.out BK387.out (by decide)) (fun _ hk => hk.2) (.int .i64 t382)) (fun _ hk => hk.2) (.slice Ao30 t383.length co30)) (fun _ hk => ⟨hk.1.1.1, ⟨hk.1.1.2, hk.1.2⟩⟩)⟩, ⟨by (with_reducible repeat first | apply rA | apply rN | apply rD); exact Kd.R_mono (Kd.R_far (p := ⟨gb387, 1, none⟩) (Kd.R_far (p := ⟨gb387, 0, none⟩) (Kd.R_types HO379.out BK387.out (by decide)) (fun _ hk => hk.2) (.int .i64 t382)) (fun _ hk => hk.2) (.slice Ao30 t383.length co30)) (fun _ hk => ⟨hk.1.1.1.2, ⟨hk.1.1.2, hk.1.2⟩⟩)⟩, ⟨by (with_reducible repeat first | apply rA | apply rN | apply rD); exact Kd.R_mono (Kd.R_far (p := ⟨gb387, 1, none⟩) (Kd.R_far (p := ⟨gb387, 0, none⟩) (Kd.R_types HO385.out BK387.out (by decide)) (fun _ hk => hk.2) (.int .i64 t382)) (fun _ hk => hk.2) (.slice Ao30 t383.length co30)) (fun _ hk => ⟨hk.1.1.1.2, ⟨hk.1.1.2, hk.1.2⟩⟩)⟩, ⟨by (with_reducible repeat first | apply bN | apply bD | apply bA); refine blk_far ?_ NB374_387.out _; (with_reducible repeat first | apply bN | apply bD | apply bA); refine blk_far ?_ NB374_387.out _; (with_reducible repeat first | apply bN | apply bD | apply bA); exact BK374.out⟩, ⟨by (with_reducible repeat first | apply bN | apply bD | apply bA); refine blk_far ?_ NB375_387.out _; (with_reducible repeat first | apply bN | apply bD | apply bA); refine blk_far ?_ NB375_387.out _; (with_reducible repeat first | apply bN | apply bD | apply bA); exact BK375.out⟩, ⟨by (with_reducible repeat first | apply bN | apply bD | apply bA); refine blk_far ?_ NB381_387.out _; (with_reducible repeat first | apply bN | apply bD | apply bA); refine blk_far ?_ NB381_387.out _; (with_reducible repeat first | apply bN | apply bD | apply bA); exact BK381.out⟩, ⟨by (with_reducible repeat first | apply bN | apply bD | apply bA); refine blk_put (cs := #[.int .i64 t382, .slice none 0 0]) ?_ 1 _ rfl; (with_reducible repeat first | apply bN | apply bD | apply bA); refine blk_put (cs := #[.int .i64 0, .slice none 0 0]) ?_ 0 _ rfl; (with_reducible repeat first | apply bN | apply bD | apply bA); exact BK387.out⟩, ⟨by repeat (first | (with_reducible first | exact HB.out | apply ba | apply bw | apply b1 | refine bs ?_ GE374.out | refine bs ?_ GE375.out | refine bs ?_ GE381.out | refine bs ?_ GE387.out) | exact HB.out)⟩⟩
  case rest =>
   clear HC7
   try clear c1
   try clear c2
   try clear p2
   try clear c3
   try clear c4
   try clear c11
   try clear c12
   try clear c18
   try clear c19
   try clear c26
   try clear c27
   try clear c28
   try clear c31
   try clear c31b0
   try clear c31b1
   try clear c31b2
   try clear hcz12_0
   try clear hcz12_1
   try clear hcz14_0
   try clear hcz14_1
   try clear hcz20_0
   try clear hcz20_1
   try clear hcz22_0
   try clear hcz22_1
   try clear hcz23_0
   try clear hcz23_1
   try clear hcz29_0
   try clear hcz29_1
   try clear hfz12_0
   try clear hfz12_1
   try clear hfz14_0
   try clear hfz14_1
   try clear hfz20_0
   try clear hfz20_1
   try clear hfz22_0
   try clear hfz22_1
   try clear hfz23_0
   try clear hfz23_1
   try clear hfz29_0
   try clear hfz29_1
   obtain ⟨kq, x36_6, rfl, HA, HJ6, HO_375001, HO_376001, HO_382001, HO_388001, BK374, BK375, BK381, BK387, HB⟩ := hcut
   cases kq with
   | zero => exact absurd HA.out (by simp [laws_FnBitsJoin.j0])
   | succ kj6 =>
    have H := HA.out
    clear HA
    simp only [laws_FnBitsJoin.j0] at H
    by_cases c32 : x36_6 = true
    ·subst c32
     have H1 : (some (t386 == t380)) = some r := by rw [if_pos rfl] at H; exact H
     clear H
     have H := H1
     clear H1
     obtain rfl := Option.some.inj H
     go_wp2
     go_ret
     exact ⟨by first | rfl | (simp [errW_none, errW_some] <;> rfl) | (simp [*, errW_none, errW_some] <;> rfl), by repeat (first | (with_reducible first | exact HB.out | apply ba | apply bw | apply b1 | refine bs ?_ GE374.out | refine bs ?_ GE375.out | refine bs ?_ GE381.out | refine bs ?_ GE387.out) | exact HB.out)⟩
    ·replace c32 := Bool.eq_false_iff.mpr c32
     subst c32
     have H1 : ((laws_pick.f kj6 l0 3 (wrap64 (t370 + 1))).bind fun t388 => ((impl_BitsFlip.f kj6 t382 t383).bind fun bt389 => (if t382 = (wrap64 (t366 + t370)) then ((impl_Rank.f kj6 t382 t383 1 (wrap64 (t366 + t388))).bind fun t394 => ((spec_Rank.f kj6 t366 t367 1 t366).bind fun t395 => ((spec_Rank.f kj6 t370 t371 1 t388).bind fun t396 => (if t394 = (wrap64 (t395 + t396)) then ((impl_Rank.f kj6 bt389.1 bt389.2 0 (wrap64 (t366 + t388))).bind fun t397 => ((impl_Rank.f kj6 t382 t383 1 (wrap64 (t366 + t388))).bind fun t398 => (if t397 = t398 then ((impl_BitsFlip.f kj6 bt389.1 bt389.2).bind fun bt399 => ((laws_sameBits.f kj6 bt399.1 bt399.2 t382 t383).bind fun t403 => (some t403))) else (some false)))) else (some false))))) else (some false)))) = some r := by rw [if_neg (show ¬ (false = true) by decide)] at H; exact H
     clear H
     have H := H1
     clear H1
     replace H := Option.bind_eq_some_iff.mp H
     obtain ⟨t388, A330, H⟩ := H
     replace H : ((impl_BitsFlip.f kj6 t382 t383).bind fun bt389 => (if t382 = (wrap64 (t366 + t370)) then ((impl_Rank.f kj6 t382 t383 1 (wrap64 (t366 + t388))).bind fun t394 => ((spec_Rank.f kj6 t366 t367 1 t366).bind fun t395 => ((spec_Rank.f kj6 t370 t371 1 t388).bind fun t396 => (if t394 = (wrap64 (t395 + t396)) then ((impl_Rank.f kj6 bt389.1 bt389.2 0 (wrap64 (t366 + t388))).bind fun t397 => ((impl_Rank.f kj6 t382 t383 1 (wrap64 (t366 + t388))).bind fun t398 => (if t397 = t398 then ((impl_BitsFlip.f kj6 bt389.1 bt389.2).bind fun bt399 => ((laws_sameBits.f kj6 bt399.1 bt399.2 t382 t383).bind fun t403 => (some t403))) else (some false)))) else (some false))))) else (some false))) = some r := H
     have A33 := As.mk A330
     clear A330
     replace H := Option.bind_eq_some_iff.mp H
     obtain ⟨⟨t389, t390⟩, A340, H⟩ := H
     replace H : (if t382 = (wrap64 (t366 + t370)) then ((impl_Rank.f kj6 t382 t383 1 (wrap64 (t366 + t388))).bind fun t394 => ((spec_Rank.f kj6 t366 t367 1 t366).bind fun t395 => ((spec_Rank.f kj6 t370 t371 1 t388).bind fun t396 => (if t394 = (wrap64 (t395 + t396)) then ((impl_Rank.f kj6 t389 t390 0 (wrap64 (t366 + t388))).bind fun t397 => ((impl_Rank.f kj6 t382 t383 1 (wrap64 (t366 + t388))).bind fun t398 => (if t397 = t398 then ((impl_BitsFlip.f kj6 t389 t390).bind fun bt399 => ((laws_sameBits.f kj6 bt399.1 bt399.2 t382 t383).bind fun t403 => (some t403))) else (some false)))) else (some false))))) else (some false)) = some r := H
     have A34 := As.mk A340
     clear A340
     by_cases c35 : t382 = (wrap64 (t366 + t370))
     ·rw [if_pos c35] at H
      have c35b0 : (t382 == (wrap64 (t366 + t370))) = true := beq_iff_eq.mpr c35
      have c35b1 : (t382 != (wrap64 (t366 + t370))) = false := bne_eq_false_iff_eq.mpr c35
      clear c35
      replace H := Option.bind_eq_some_iff.mp H
      obtain ⟨t394, A360, H⟩ := H
      replace H : ((spec_Rank.f kj6 t366 t367 1 t366).bind fun t395 => ((spec_Rank.f kj6 t370 t371 1 t388).bind fun t396 => (if t394 = (wrap64 (t395 + t396)) then ((impl_Rank.f kj6 t389 t390 0 (wrap64 (t366 + t388))).bind fun t397 => ((impl_Rank.f kj6 t382 t383 1 (wrap64 (t366 + t388))).bind fun t398 => (if t397 = t398 then ((impl_BitsFlip.f kj6 t389 t390).bind fun bt399 => ((laws_sameBits.f kj6 bt399.1 bt399.2 t382 t383).bind fun t403 => (some t403))) else (some false)))) else (some false)))) = some r := H
      have A36 := As.mk A360
      clear A360
      replace H := Option.bind_eq_some_iff.mp H
      obtain ⟨t395, A370, H⟩ := H
      replace H : ((spec_Rank.f kj6 t370 t371 1 t388).bind fun t396 => (if t394 = (wrap64 (t395 + t396)) then ((impl_Rank.f kj6 t389 t390 0 (wrap64 (t366 + t388))).bind fun t397 => ((impl_Rank.f kj6 t382 t383 1 (wrap64 (t366 + t388))).bind fun t398 => (if t397 = t398 then ((impl_BitsFlip.f kj6 t389 t390).bind fun bt399 => ((laws_sameBits.f kj6 bt399.1 bt399.2 t382 t383).bind fun t403 => (some t403))) else (some false)))) else (some false))) = some r := H
      have A37 := As.mk A370
      clear A370
      replace H := Option.bind_eq_some_iff.mp H
      obtain ⟨t396, A380, H⟩ := H
      replace H : (if t394 = (wrap64 (t395 + t396)) then ((impl_Rank.f kj6 t389 t390 0 (wrap64 (t366 + t388))).bind fun t397 => ((impl_Rank.f kj6 t382 t383 1 (wrap64 (t366 + t388))).bind fun t398 => (if t397 = t398 then ((impl_BitsFlip.f kj6 t389 t390).bind fun bt399 => ((laws_sameBits.f kj6 bt399.1 bt399.2 t382 t383).bind fun t403 => (some t403))) else (some false)))) else (some false)) = some r := H
      have A38 := As.mk A380
      clear A380
      by_cases c39 : t394 = (wrap64 (t395 + t396))
      ·rw [if_pos c39] at H
       have c39b0 : (t394 == (wrap64 (t395 + t396))) = true := beq_iff_eq.mpr c39
       have c39b1 : (t394 != (wrap64 (t395 + t396))) = false := bne_eq_false_iff_eq.mpr c39
       clear c39
       replace H := Option.bind_eq_some_iff.mp H
       obtain ⟨t397, A400, H⟩ := H
       replace H : ((impl_Rank.f kj6 t382 t383 1 (wrap64 (t366 + t388))).bind fun t398 => (if t397 = t398 then ((impl_BitsFlip.f kj6 t389 t390).bind fun bt399 => ((laws_sameBits.f kj6 bt399.1 bt399.2 t382 t383).bind fun t403 => (some t403))) else (some false))) = some r := H
       have A40 := As.mk A400
       clear A400
       replace H := Option.bind_eq_some_iff.mp H
       obtain ⟨t398, A410, H⟩ := H
       replace H : (if t397 = t398 then ((impl_BitsFlip.f kj6 t389 t390).bind fun bt399 => ((laws_sameBits.f kj6 bt399.1 bt399.2 t382 t383).bind fun t403 => (some t403))) else (some false)) = some r := H
       have A41 := As.mk A410
       clear A410
       by_cases c42 : t397 = t398
       ·rw [if_pos c42] at H
        have c42b0 : (t397 == t398) = true := beq_iff_eq.mpr c42
        have c42b1 : (t397 != t398) = false := bne_eq_false_iff_eq.mpr c42
        clear c42
        replace H := Option.bind_eq_some_iff.mp H
        obtain ⟨⟨t399, t400⟩, A430, H⟩ := H
        replace H : ((laws_sameBits.f kj6 t399 t400 t382 t383).bind fun t403 => (some t403)) = some r := H
        have A43 := As.mk A430
        clear A430
        replace H := Option.bind_eq_some_iff.mp H
        obtain ⟨t403, A440, H⟩ := H
        replace H : (some t403) = some r := H
        have A44 := As.mk A440
        clear A440
        obtain rfl := Option.some.inj H
        have hnb45 := NB375_374.out
        have hnc45 := NB374_375.out
        have hnb46 := NB375_381.out
        have hnc46 := NB381_375.out
        have hnb47 := NB375_387.out
        have hnc47 := NB387_375.out
        have hcz48_0 : wc.cell? ⟨gb375, 0, none⟩ = some (.int .i64 t370) := (blk_cell BK375.out 0).trans rfl
        have hcz48_1 : wc.cell? ⟨gb375, 1, none⟩ = some (.slice Ao15 t371.length co15) := (blk_cell BK375.out 1).trans rfl
        have hfz48_0 := blk_frozen BK375.out 0
        have hfz48_1 := blk_frozen BK375.out 1
        try go_wp2_with (first | ((with_reducible refine gc (f := 41) rfl ?_); refine goesL_ (some 44) rfl rfl Try.func41 (by kernel_rfl) rfl #[.slice A0 l0.length c0, .int .i64 3, .int .i64 (wrap64 (t370 + 1))] rfl (by (try simp only [List.map_toArray, List.map_cons, List.map_nil]); first | done | rfl | (simp only [List.length_drop, List.length_take]; rfl)) ?_; (with_reducible refine (laws_pick.calls kj6 _ _ l0 3 (wrap64 (t370 + 1)) t388 _ ?side1 ?side2 A33.out).mono ?_); (case side1 => repeat (first | exact (cB HR0.out HB.out) | (with_reducible refine cA ?_ _) | (with_reducible refine cN ?_ _) | (with_reducible refine cD ?_))); (case side2 => exact HC0.out); rintro e w' ⟨rfl, ⟨nd, rfl⟩⟩; refine ⟨_, rfl, ?_⟩; (try (rw [drewN_self wc]; generalize hq_ : World.drewN wc _ = wc; have n0_ : As (Kd.R (Kd.int .u64) 53 wc w.heap.size (fun k_ => some k_ ≠ (.slice Ao15 t371.length co15 : Value).ownBlock ∧ some k_ ≠ (.slice Ao21 t377.length co21 : Value).ownBlock ∧ some k_ ≠ (.slice Ao30 t383.length co30 : Value).ownBlock) (.slice Ao13 t367.length co13) t367) := ⟨by rw [← hq_]; exact (by (with_reducible repeat first | apply rA | apply rN | apply rD); exact HO_375001.out)⟩; have n1_ : As (Kd.R (Kd.int .u64) 53 wc w.heap.size (fun k_ => some k_ ≠ (.slice Ao13 t367.length co13 : Value).ownBlock ∧ some k_ ≠ (.slice Ao21 t377.length co21 : Value).ownBlock ∧ some k_ ≠ (.slice Ao30 t383.length co30 : Value).ownBlock) (.slice Ao15 t371.length co15) t371) := ⟨by rw [← hq_]; exact (by (with_reducible repeat first | apply rA | apply rN | apply rD); exact HO_376001.out)⟩; have n2_ : As (Kd.R (Kd.int .u64) 53 wc w.heap.size (fun k_ => some k_ ≠ (.slice Ao13 t367.length co13 : Value).ownBlock ∧ some k_ ≠ (.slice Ao15 t371.length co15 : Value).ownBlock ∧ some k_ ≠ (.slice Ao30 t383.length co30 : Value).ownBlock) (.slice Ao21 t377.length co21) t377) := ⟨by rw [← hq_]; exact (by (with_reducible repeat first | apply rA | apply rN | apply rD); exact HO_382001.out)⟩; have n3_ : As (Kd.R (Kd.int .u64) 53 wc w.heap.size (fun k_ => some k_ ≠ (.slice Ao13 t367.length co13 : Value).ownBlock ∧ some k_ ≠ (.slice Ao15 t371.length co15 : Value).ownBlock ∧ some k_ ≠ (.slice Ao21 t377.length co21 : Value).ownBlock) (.slice Ao30 t383.length co30) t383) := ⟨by rw [← hq_]; exact (by (with_reducible repeat first | apply rA | apply rN | apply rD); exact HO_388001.out)⟩; have n4_ : As (wc.heap[gb374]? = some (.cells #[.int .i64 t366, .slice Ao13 t367.length co13] 25 (0, 0))) := ⟨by rw [← hq_]; exact (by (with_reducible repeat first | apply bN | apply bD | apply bA); exact BK374.out)⟩; have n5_ : As (wc.heap[gb375]? = some (.cells #[.int .i64 t370, .slice Ao15 t371.length co15] 25 (0, 0))) := ⟨by rw [← hq_]; exact (by (with_reducible repeat first | apply bN | apply bD | apply bA); exact BK375.out)⟩; have n6_ : As (wc.heap[gb381]? = some (.cells #[.int .i64 t376, .slice Ao21 t377.length co21] 25 (0, 0))) := ⟨by rw [← hq_]; exact (by (with_reducible repeat first | apply bN | apply bD | apply bA); exact BK381.out)⟩; have n7_ : As (wc.heap[gb387]? = some (.cells #[.int .i64 t382, .slice Ao30 t383.length co30] 25 (0, 0))) := ⟨by rw [← hq_]; exact (by (with_reducible repeat first | apply bN | apply bD | apply bA); exact BK387.out)⟩; have n8_ : As (Below w.heap.size w wc) := ⟨by rw [← hq_]; exact (by repeat (first | (with_reducible first | exact HB.out | apply ba | apply bw | apply b1 | refine bs ?_ GE374.out | refine bs ?_ GE375.out | refine bs ?_ GE381.out | refine bs ?_ GE387.out) | exact HB.out))⟩; clear HO_375001 HO_376001 HO_382001 HO_388001 BK374 BK375 BK381 BK387 HB hq_; have HO_375001 := n0_; have HO_376001 := n1_; have HO_382001 := n2_; have HO_388001 := n3_; have BK374 := n4_; have BK375 := n5_; have BK381 := n6_; have BK387 := n7_; have HB := n8_; clear n0_ n1_ n2_ n3_ n4_ n5_ n6_ n7_ n8_)); have hnb49 := NB387_374.out; have hnc49 := NB374_387.out; have hnb50 := NB387_381.out; have hnc50 := NB381_387.out; have hcz51_0 : wc.cell? ⟨gb387, 0, none⟩ = some (.int .i64 t382) := (blk_cell BK387.out 0).trans rfl; have hcz51_1 : wc.cell? ⟨gb387, 1, none⟩ = some (.slice Ao30 t383.length co30) := (blk_cell BK387.out 1).trans rfl; have hfz51_0 := blk_frozen BK387.out 0; have hfz51_1 := blk_frozen BK387.out 1) | ((with_reducible refine gc (f := 31) rfl ?_); refine goesL_ (some 46) rfl rfl Try.func31 (by kernel_rfl) rfl #[.agg #[.int .i64 t382, .slice Ao30 t383.length co30]] rfl (by (try simp only [List.map_toArray, List.map_cons, List.map_nil]); first | done | rfl | (simp only [List.length_drop, List.length_take]; rfl)) ?_; (with_reducible refine (impl_BitsFlip.calls kj6 t382 _ _ t383 t389 t390 _ ?side1 ?side2 A34.out).mono ?_); (case side1 => repeat (first | exact (rR HO_388001.out).2.2 | (with_reducible refine cA ?_ _) | (with_reducible refine cN ?_ _) | (with_reducible refine cD ?_))); (case side2 => exact (rR HO_388001.out).2.1); rintro e w52 ⟨v391, rfl, ho0, hb⟩; refine ⟨_, rfl, ?_⟩; have n0_ := As.mk (rE (by (with_reducible repeat first | apply rA | apply rN | apply rD); exact HO_375001.out) (Kd.R_base ho0) hb); have n1_ := As.mk (rE (by (with_reducible repeat first | apply rA | apply rN | apply rD); exact HO_376001.out) (Kd.R_base ho0) hb); have n2_ := As.mk (rE (by (with_reducible repeat first | apply rA | apply rN | apply rD); exact HO_382001.out) (Kd.R_base ho0) hb); have n3_ := As.mk (rE (by (with_reducible repeat first | apply rA | apply rN | apply rD); exact HO_388001.out) (Kd.R_base ho0) hb); have n4_ := As.mk (rL (rW (rW (rW (rW ho0 (Kd.R_lt (by (with_reducible repeat first | apply rA | apply rN | apply rD); exact HO_375001.out))) (Kd.R_lt (by (with_reducible repeat first | apply rA | apply rN | apply rD); exact HO_376001.out))) (Kd.R_lt (by (with_reducible repeat first | apply rA | apply rN | apply rD); exact HO_382001.out))) (Kd.R_lt (by (with_reducible repeat first | apply rA | apply rN | apply rD); exact HO_388001.out))) (bz (by repeat (first | (with_reducible first | exact HB.out | apply ba | apply bw | apply b1 | refine bs ?_ GE374.out | refine bs ?_ GE375.out | refine bs ?_ GE381.out | refine bs ?_ GE387.out) | exact HB.out)))); have n5_ := As.mk (bb (g := gb374) (o := .cells #[.int .i64 t366, .slice Ao13 t367.length co13] 25 (0, 0)) (by (with_reducible repeat first | apply bN | apply bD | apply bA); exact BK374.out) hb); have n6_ := As.mk (bb (g := gb375) (o := .cells #[.int .i64 t370, .slice Ao15 t371.length co15] 25 (0, 0)) (by (with_reducible repeat first | apply bN | apply bD | apply bA); exact BK375.out) hb); have n7_ := As.mk (bb (g := gb381) (o := .cells #[.int .i64 t376, .slice Ao21 t377.length co21] 25 (0, 0)) (by (with_reducible repeat first | apply bN | apply bD | apply bA); exact BK381.out) hb); have n8_ := As.mk (bb (g := gb387) (o := .cells #[.int .i64 t382, .slice Ao30 t383.length co30] 25 (0, 0)) (by (with_reducible repeat first | apply bN | apply bD | apply bA); exact BK387.out) hb); have n9_ := As.mk (bt (by repeat (first | (with_reducible first | exact HB.out | apply ba | apply bw | apply b1 | refine bs ?_ GE374.out | refine bs ?_ GE375.out | refine bs ?_ GE381.out | refine bs ?_ GE387.out) | exact HB.out)) hb); clear HO_375001; clear HO_376001; clear HO_382001; clear HO_388001; clear BK374; clear BK375; clear BK381; clear BK387; clear HB; have HO_375001 := n0_; have HO_376001 := n1_; have HO_382001 := n2_; have HO_388001 := n3_; have HO392 := n4_; have BK374 := n5_; have BK375 := n6_; have BK381 := n7_; have BK387 := n8_; have HB := n9_; clear n0_ n1_ n2_ n3_ n4_ n5_ n6_ n7_ n8_ n9_; (try clear hb); (try clear hb2); (try clear hk); (try clear hi); (try clear ho0)) | ((with_reducible refine gd (N := 10) rfl ?_); refine box_event ?hg (N := 10) ?hd (cs := #[.int .i64 0, .slice none 0 0]) (t := 25) ?hr ?_; (case hd => rfl); (case hg => rfl); (case hr => first | (go_simp; done) | (go_simp; rfl)); intro gb393 hg w53 hbox hb; have n0_ := As.mk (rB (by (with_reducible repeat first | apply rA | apply rN | apply rD); exact HO_375001.out) hb); have n1_ := As.mk (rB (by (with_reducible repeat first | apply rA | apply rN | apply rD); exact HO_376001.out) hb); have n2_ := As.mk (rB (by (with_reducible repeat first | apply rA | apply rN | apply rD); exact HO_382001.out) hb); have n3_ := As.mk (rB (by (with_reducible repeat first | apply rA | apply rN | apply rD); exact HO_388001.out) hb); have n4_ := As.mk (rB (by (with_reducible repeat first | apply rA | apply rN | apply rD); exact HO392.out) hb); have n5_ := As.mk (bb (g := gb374) (o := .cells #[.int .i64 t366, .slice Ao13 t367.length co13] 25 (0, 0)) (by (with_reducible repeat first | apply bN | apply bD | apply bA); exact BK374.out) hb); have n6_ := As.mk (bb (g := gb375) (o := .cells #[.int .i64 t370, .slice Ao15 t371.length co15] 25 (0, 0)) (by (with_reducible repeat first | apply bN | apply bD | apply bA); exact BK375.out) hb); have n7_ := As.mk (bb (g := gb381) (o := .cells #[.int .i64 t376, .slice Ao21 t377.length co21] 25 (0, 0)) (by (with_reducible repeat first | apply bN | apply bD | apply bA); exact BK381.out) hb); have n8_ := As.mk (bb (g := gb387) (o := .cells #[.int .i64 t382, .slice Ao30 t383.length co30] 25 (0, 0)) (by (with_reducible repeat first | apply bN | apply bD | apply bA); exact BK387.out) hb); have n9_ := As.mk (bt (by repeat (first | (with_reducible first | exact HB.out | apply ba | apply bw | apply b1 | refine bs ?_ GE374.out | refine bs ?_ GE375.out | refine bs ?_ GE381.out | refine bs ?_ GE387.out) | exact HB.out)) hb); have n10_ := As.mk (hbox); have n11_ := As.mk ((by rw [hg]; exact (bz (by repeat (first | (with_reducible first | exact HB.out | apply ba | apply bw | apply b1 | refine bs ?_ GE374.out | refine bs ?_ GE375.out | refine bs ?_ GE381.out | refine bs ?_ GE387.out) | exact HB.out))) : w.heap.size ≤ gb393)); have n12_ := As.mk ((by rw [hg]; exact (bz (by repeat (first | (with_reducible first | exact HB.out | apply ba | apply bw | apply b1 | refine bs ?_ GE374.out | refine bs ?_ GE375.out | refine bs ?_ GE381.out | refine bs ?_ GE387.out) | exact HB.out))) : w.heap.size ≤ gb393)); have n13_ := As.mk ((by rw [hg]; exact Nat.ne_of_lt (blk_lt (g := gb374) (o := .cells #[.int .i64 t366, .slice Ao13 t367.length co13] 25 (0, 0)) (by (with_reducible repeat first | apply bN | apply bD | apply bA); exact BK374.out)) : gb374 ≠ gb393)); have n14_ := As.mk ((by rw [hg]; exact Nat.ne_of_gt (blk_lt (g := gb374) (o := .cells #[.int .i64 t366, .slice Ao13 t367.length co13] 25 (0, 0)) (by (with_reducible repeat first | apply bN | apply bD | apply bA); exact BK374.out)) : gb393 ≠ gb374)); have n15_ := As.mk ((by rw [hg]; exact Nat.ne_of_lt (blk_lt (g := gb375) (o := .cells #[.int .i64 t370, .slice Ao15 t371.length co15] 25 (0, 0)) (by (with_reducible repeat first | apply bN | apply bD | apply bA); exact BK375.out)) : gb375 ≠ gb393)); have n16_ := As.mk ((by rw [hg]; exact Nat.ne_of_gt (blk_lt (g := gb375) (o := .cells #[.int .i64 t370, .slice Ao15 t371.length co15] 25 (0, 0)) (by (with_reducible repeat first | apply bN | apply bD | apply bA); exact BK375.out)) : gb393 ≠ gb375)); have n17_ := As.mk ((by rw [hg]; exact Nat.ne_of_lt (blk_lt (g := gb381) (o := .cells #[.int .i64 t376, .slice Ao21 t377.length co21] 25 (0, 0)) (by (with_reducible repeat first | apply bN | apply bD | apply bA); exact BK381.out)) : gb381 ≠ gb393)); have n18_ := As.mk ((by rw [hg]; exact Nat.ne_of_gt (blk_lt (g := gb381) (o := .cells #[.int .i64 t376, .slice Ao21 t377.length co21] 25 (0, 0)) (by (with_reducible repeat first | apply bN | apply bD | apply bA); exact BK381.out)) : gb393 ≠ gb381)); have n19_ := As.mk ((by rw [hg]; exact Nat.ne_of_lt (blk_lt (g := gb387) (o := .cells #[.int .i64 t382, .slice Ao30 t383.length co30] 25 (0, 0)) (by (with_reducible repeat first | apply bN | apply bD | apply bA); exact BK387.out)) : gb387 ≠ gb393)); have n20_ := As.mk ((by rw [hg]; exact Nat.ne_of_gt (blk_lt (g := gb387) (o := .cells #[.int .i64 t382, .slice Ao30 t383.length co30] 25 (0, 0)) (by (with_reducible repeat first | apply bN | apply bD | apply bA); exact BK387.out)) : gb393 ≠ gb387)); clear HO_375001; clear HO_376001; clear HO_382001; clear HO_388001; clear HO392; clear BK374; clear BK375; clear BK381; clear BK387; clear HB; have HO_375001 := n0_; have HO_376001 := n1_; have HO_382001 := n2_; have HO_388001 := n3_; have HO392 := n4_; have BK374 := n5_; have BK375 := n6_; have BK381 := n7_; have BK387 := n8_; have HB := n9_; have BK393 := n10_; have GW393 := n11_; have GE393 := n12_; have NB374_393 := n13_; have NB393_374 := n14_; have NB375_393 := n15_; have NB393_375 := n16_; have NB381_393 := n17_; have NB393_381 := n18_; have NB387_393 := n19_; have NB393_387 := n20_; clear n0_ n1_ n2_ n3_ n4_ n5_ n6_ n7_ n8_ n9_ n10_ n11_ n12_ n13_ n14_ n15_ n16_ n17_ n18_ n19_ n20_; clear hb hbox hg; have hnb54 := NB393_374.out; have hnc54 := NB374_393.out; have hnb55 := NB393_375.out; have hnc55 := NB375_393.out; have hnb56 := NB393_381.out; have hnc56 := NB381_393.out; have hnb57 := NB393_387.out; have hnc57 := NB387_393.out; have hcz58_0 : w53.cell? ⟨gb393, 0, none⟩ = some (.int .i64 0) := (blk_cell BK393.out 0).trans rfl; have hcz58_1 : w53.cell? ⟨gb393, 1, none⟩ = some (.slice none 0 0) := (blk_cell BK393.out 1).trans rfl; have hfz58_0 := blk_frozen BK393.out 0; have hfz58_1 := blk_frozen BK393.out 1; obtain ⟨Ao59, co59, eo59⟩ := rS HO392.out; subst eo59))
        have n0_ : As (Kd.R (Kd.int .u64) 53 ((w53.setCell ⟨gb393, 0, none⟩ (.int .i64 t389)).setCell ⟨gb393, 1, none⟩ (.slice Ao59 t390.length co59)) w.heap.size (fun k_ => some k_ ≠ (.slice Ao15 t371.length co15 : Value).ownBlock ∧ some k_ ≠ (.slice Ao21 t377.length co21 : Value).ownBlock ∧ some k_ ≠ (.slice Ao30 t383.length co30 : Value).ownBlock ∧ some k_ ≠ (.slice Ao59 t390.length co59 : Value).ownBlock) (.slice Ao13 t367.length co13) t367) := ⟨by (with_reducible repeat first | apply rA | apply rN | apply rD); exact Kd.R_mono (Kd.R_far (p := ⟨gb393, 1, none⟩) (Kd.R_far (p := ⟨gb393, 0, none⟩) (Kd.R_types HO_375001.out BK393.out (by decide)) (fun _ hk => hk.2) (.int .i64 t389)) (fun _ hk => hk.2) (.slice Ao59 t390.length co59)) (fun _ hk => ⟨hk.1.1.1, ⟨hk.1.1.2.1, ⟨hk.1.1.2.2, hk.1.2⟩⟩⟩)⟩
        have n1_ : As (Kd.R (Kd.int .u64) 53 ((w53.setCell ⟨gb393, 0, none⟩ (.int .i64 t389)).setCell ⟨gb393, 1, none⟩ (.slice Ao59 t390.length co59)) w.heap.size (fun k_ => some k_ ≠ (.slice Ao13 t367.length co13 : Value).ownBlock ∧ some k_ ≠ (.slice Ao21 t377.length co21 : Value).ownBlock ∧ some k_ ≠ (.slice Ao30 t383.length co30 : Value).ownBlock ∧ some k_ ≠ (.slice Ao59 t390.length co59 : Value).ownBlock) (.slice Ao15 t371.length co15) t371) := ⟨by (with_reducible repeat first | apply rA | apply rN | apply rD); exact Kd.R_mono (Kd.R_far (p := ⟨gb393, 1, none⟩) (Kd.R_far (p := ⟨gb393, 0, none⟩) (Kd.R_types HO_376001.out BK393.out (by decide)) (fun _ hk => hk.2) (.int .i64 t389)) (fun _ hk => hk.2) (.slice Ao59 t390.length co59)) (fun _ hk => ⟨hk.1.1.1, ⟨hk.1.1.2.1, ⟨hk.1.1.2.2, hk.1.2⟩⟩⟩)⟩
        have n2_ : As (Kd.R (Kd.int .u64) 53 ((w53.setCell ⟨gb393, 0, none⟩ (.int .i64 t389)).setCell ⟨gb393, 1, none⟩ (.slice Ao59 t390.length co59)) w.heap.size (fun k_ => some k_ ≠ (.slice Ao13 t367.length co13 : Value).ownBlock ∧ some k_ ≠ (.slice Ao15 t371.length co15 : Value).ownBlock ∧ some k_ ≠ (.slice Ao30 t383.length co30 : Value).ownBlock ∧ some k_ ≠ (.slice Ao59 t390.length co59 : Value).ownBlock) (.slice Ao21 t377.length co21) t377) := ⟨by (with_reducible repeat first | apply rA | apply rN | apply rD); exact Kd.R_mono (Kd.R_far (p := ⟨gb393, 1, none⟩) (Kd.R_far (p := ⟨gb393, 0, none⟩) (Kd.R_types HO_382001.out BK393.out (by decide)) (fun _ hk => hk.2) (.int .i64 t389)) (fun _ hk => hk.2) (.slice Ao59 t390.length co59)) (fun _ hk => ⟨hk.1.1.1, ⟨hk.1.1.2.1, ⟨hk.1.1.2.2, hk.1.2⟩⟩⟩)⟩
        have n3_ : As (Kd.R (Kd.int .u64) 53 ((w53.setCell ⟨gb393, 0, none⟩ (.int .i64 t389)).setCell ⟨gb393, 1, none⟩ (.slice Ao59 t390.length co59)) w.heap.size (fun k_ => some k_ ≠ (.slice Ao13 t367.length co13 : Value).ownBlock ∧ some k_ ≠ (.slice Ao15 t371.length co15 : Value).ownBlock ∧ some k_ ≠ (.slice Ao21 t377.length co21 : Value).ownBlock ∧ some k_ ≠ (.slice Ao59 t390.length co59 : Value).ownBlock) (.slice Ao30 t383.length co30) t383) := ⟨by (with_reducible repeat first | apply rA | apply rN | apply rD); exact Kd.R_mono (Kd.R_far (p := ⟨gb393, 1, none⟩) (Kd.R_far (p := ⟨gb393, 0, none⟩) (Kd.R_types HO_388001.out BK393.out (by decide)) (fun _ hk => hk.2) (.int .i64 t389)) (fun _ hk => hk.2) (.slice Ao59 t390.length co59)) (fun _ hk => ⟨hk.1.1.1, ⟨hk.1.1.2.1, ⟨hk.1.1.2.2, hk.1.2⟩⟩⟩)⟩
        have n4_ : As (Kd.R (Kd.int .u64) 53 ((w53.setCell ⟨gb393, 0, none⟩ (.int .i64 t389)).setCell ⟨gb393, 1, none⟩ (.slice Ao59 t390.length co59)) w.heap.size (fun k_ => some k_ ≠ (.slice Ao13 t367.length co13 : Value).ownBlock ∧ some k_ ≠ (.slice Ao15 t371.length co15 : Value).ownBlock ∧ some k_ ≠ (.slice Ao21 t377.length co21 : Value).ownBlock ∧ some k_ ≠ (.slice Ao30 t383.length co30 : Value).ownBlock) (.slice Ao59 t390.length co59) t390) := ⟨by (with_reducible repeat first | apply rA | apply rN | apply rD); exact Kd.R_mono (Kd.R_far (p := ⟨gb393, 1, none⟩) (Kd.R_far (p := ⟨gb393, 0, none⟩) (Kd.R_types HO392.out BK393.out (by decide)) (fun _ hk => hk.2) (.int .i64 t389)) (fun _ hk => hk.2) (.slice Ao59 t390.length co59)) (fun _ hk => ⟨hk.1.1.1.1.2, ⟨hk.1.1.1.2, ⟨hk.1.1.2, hk.1.2⟩⟩⟩)⟩
        have n5_ : As (((w53.setCell ⟨gb393, 0, none⟩ (.int .i64 t389)).setCell ⟨gb393, 1, none⟩ (.slice Ao59 t390.length co59)).heap[gb374]? = some (.cells #[.int .i64 t366, .slice Ao13 t367.length co13] 25 (0, 0))) := ⟨by (with_reducible repeat first | apply bN | apply bD | apply bA); refine blk_far ?_ NB374_393.out _; (with_reducible repeat first | apply bN | apply bD | apply bA); refine blk_far ?_ NB374_393.out _; (with_reducible repeat first | apply bN | apply bD | apply bA); exact BK374.out⟩
        have n6_ : As (((w53.setCell ⟨gb393, 0, none⟩ (.int .i64 t389)).setCell ⟨gb393, 1, none⟩ (.slice Ao59 t390.length co59)).heap[gb375]? = some (.cells #[.int .i64 t370, .slice Ao15 t371.length co15] 25 (0, 0))) := ⟨by (with_reducible repeat first | apply bN | apply bD | apply bA); refine blk_far ?_ NB375_393.out _; (with_reducible repeat first | apply bN | apply bD | apply bA); refine blk_far ?_ NB375_393.out _; (with_reducible repeat first | apply bN | apply bD | apply bA); exact BK375.out⟩
        have n7_ : As (((w53.setCell ⟨gb393, 0, none⟩ (.int .i64 t389)).setCell ⟨gb393, 1, none⟩ (.slice Ao59 t390.length co59)).heap[gb381]? = some (.cells #[.int .i64 t376, .slice Ao21 t377.length co21] 25 (0, 0))) := ⟨by (with_reducible repeat first | apply bN | apply bD | apply bA); refine blk_far ?_ NB381_393.out _; (with_reducible repeat first | apply bN | apply bD | apply bA); refine blk_far ?_ NB381_393.out _; (with_reducible repeat first | apply bN | apply bD | apply bA); exact BK381.out⟩
        have n8_ : As (((w53.setCell ⟨gb393, 0, none⟩ (.int .i64 t389)).setCell ⟨gb393, 1, none⟩ (.slice Ao59 t390.length co59)).heap[gb387]? = some (.cells #[.int .i64 t382, .slice Ao30 t383.length co30] 25 (0, 0))) := ⟨by (with_reducible repeat first | apply bN | apply bD | apply bA); refine blk_far ?_ NB387_393.out _; (with_reducible repeat first | apply bN | apply bD | apply bA); refine blk_far ?_ NB387_393.out _; (with_reducible repeat first | apply bN | apply bD | apply bA); exact BK387.out⟩
        have n9_ : As (((w53.setCell ⟨gb393, 0, none⟩ (.int .i64 t389)).setCell ⟨gb393, 1, none⟩ (.slice Ao59 t390.length co59)).heap[gb393]? = some (.cells #[.int .i64 t389, .slice Ao59 t390.length co59] 25 (0, 0))) := ⟨by (with_reducible repeat first | apply bN | apply bD | apply bA); refine blk_put (cs := #[.int .i64 t389, .slice none 0 0]) ?_ 1 _ rfl; (with_reducible repeat first | apply bN | apply bD | apply bA); refine blk_put (cs := #[.int .i64 0, .slice none 0 0]) ?_ 0 _ rfl; (with_reducible repeat first | apply bN | apply bD | apply bA); exact BK393.out⟩
        have n10_ : As (Below w.heap.size w ((w53.setCell ⟨gb393, 0, none⟩ (.int .i64 t389)).setCell ⟨gb393, 1, none⟩ (.slice Ao59 t390.length co59))) := ⟨by repeat (first | (with_reducible first | exact HB.out | apply ba | apply bw | apply b1 | refine bs ?_ GE374.out | refine bs ?_ GE375.out | refine bs ?_ GE381.out | refine bs ?_ GE387.out | refine bs ?_ GE393.out) | exact HB.out)⟩
        (try clear HO_375001)
        (try clear HO_376001)
        (try clear HO_382001)
        (try clear HO_388001)
        (try clear HO392)
        (try clear BK374)
        (try clear BK375)
        (try clear BK381)
        (try clear BK387)
        (try clear BK393)
        (try clear HB)
        generalize ((w53.setCell ⟨gb393, 0, none⟩ (.int .i64 t389)).setCell ⟨gb393, 1, none⟩ (.slice Ao59 t390.length co59)) = w60 at n0_ n1_ n2_ n3_ n4_ n5_ n6_ n7_ n8_ n9_ n10_ ⊢
        have HO_375001 := n0_
        have HO_376001 := n1_
        have HO_382001 := n2_
        have HO_388001 := n3_
        have HO392 := n4_
        have BK374 := n5_
        have BK375 := n6_
        have BK381 := n7_
        have BK387 := n8_
        have BK393 := n9_
        have HB := n10_
        clear n0_ n1_ n2_ n3_ n4_ n5_ n6_ n7_ n8_ n9_ n10_
        have n0_ := As.mk (rD HO_375001.out)
        have n1_ := As.mk (rD HO_376001.out)
        have n2_ := As.mk (rD HO_382001.out)
        have n3_ := As.mk (rD HO_388001.out)
        have n4_ := As.mk (rD HO392.out)
        have n5_ := As.mk (bD BK374.out)
        have n6_ := As.mk (bD BK375.out)
        have n7_ := As.mk (bD BK381.out)
        have n8_ := As.mk (bD BK387.out)
        have n9_ := As.mk (bD BK393.out)
        have n10_ := As.mk (b1 HB.out)
        clear HO_375001
        clear HO_376001
        clear HO_382001
        clear HO_388001
        clear HO392
        clear BK374
        clear BK375
        clear BK381
        clear BK387
        clear BK393
        clear HB
        have HO_375001 := n0_
        have HO_376001 := n1_
        have HO_382001 := n2_
        have HO_388001 := n3_
        have HO392 := n4_
        have BK374 := n5_
        have BK375 := n6_
        have BK381 := n7_
        have BK387 := n8_
        have BK393 := n9_
        have HB := n10_
        clear n0_ n1_ n2_ n3_ n4_ n5_ n6_ n7_ n8_ n9_ n10_
        refine start_ (n := 47) (S := fun w' => w'.cell? ⟨gb387, 0, none⟩ = some (.int .i64 t382) ∧ w'.cell? ⟨gb387, 1, none⟩ = some (.slice Ao30 t383.length co30) ∧ w'.cell? ⟨gb374, 0, none⟩ = some (.int .i64 t366) ∧ w'.cell? ⟨gb374, 1, none⟩ = some (.slice Ao13 t367.length co13) ∧ w'.cell? ⟨gb375, 0, none⟩ = some (.int .i64 t370) ∧ w'.cell? ⟨gb375, 1, none⟩ = some (.slice Ao15 t371.length co15) ∧ w'.cell? ⟨gb393, 0, none⟩ = some (.int .i64 t389) ∧ w'.cell? ⟨gb393, 1, none⟩ = some (.slice Ao59 t390.length co59)) (ds := []) #[F_,F_,F_,F_,F_,F_,F_,F_,F_,F_,F_,F_,F_,F_,F_,F_,F_,F_,F_,F_,F_,F_,F_,F_,F_,F_,F_,F_,F_,F_,F_,F_,F_,F_,F_,F_,F_,F_,F_,F_,F_,F_,F_,F_,F_,F_,F_] (by kernel_rfl) rfl rfl ⟨(blk_cell BK387.out 0).trans rfl, (blk_cell BK387.out 1).trans rfl, (blk_cell BK374.out 0).trans rfl, (blk_cell BK374.out 1).trans rfl, (blk_cell BK375.out 0).trans rfl, (blk_cell BK375.out 1).trans rfl, (blk_cell BK393.out 0).trans rfl, (blk_cell BK393.out 1).trans rfl⟩ (fun hHeld => ?_); refine with_tabW laws_FnBitsJoin.tab10 laws_FnBitsJoin.bits10 (fun HT_ HW_ => ?_)
        generalize w60.drew = w61 at HO_375001 HO_376001 HO_382001 HO_388001 HO392 BK374 BK375 BK381 BK387 BK393 HB hHeld ⊢
        refine pure_ (i := 0) (N := some 47) (v := ?_) (a' := ?_) #[T_,F_,F_,F_,F_,F_,F_,F_,F_,F_,F_,F_,F_,F_,F_,F_,F_,F_,F_,F_,F_,F_,F_,F_,F_,F_,F_,F_,F_,F_,F_,F_,F_,F_,F_,F_,F_,F_,F_,F_,F_,F_,F_,F_,F_,F_,F_] rfl rfl (any_of HT_.out (by kernel_rfl)) (fun _ _ _ h => h) (Or.inl ⟨by rfl, ?_⟩) ?_ ?_
        rotate_left
        ·intro w'
         go_simp
         with_reducible rfl
        rotate_left
        ·simp only [Act.put, List.setIfInBounds_toArray, List.set_cons_zero, List.set_cons_succ, i64_w, i32_w]
         rfl
        refine pure_ (i := 2) (N := some 49) (v := ?_) (a' := ?_) #[T_,F_,T_,F_,F_,F_,F_,F_,F_,F_,F_,F_,F_,F_,F_,F_,F_,F_,F_,F_,F_,F_,F_,F_,F_,F_,F_,F_,F_,F_,F_,F_,F_,F_,F_,F_,F_,F_,F_,F_,F_,F_,F_,F_,F_,F_,F_] rfl rfl (any_of HT_.out (by kernel_rfl)) (fun _ _ _ h => h) (Or.inl ⟨by rfl, ?_⟩) ?_ ?_
        rotate_left
        ·intro w'
         go_simp
         with_reducible rfl
        rotate_left
        ·simp only [Act.put, List.setIfInBounds_toArray, List.set_cons_zero, List.set_cons_succ, i64_w, i32_w]
         rfl
        refine pure_ (i := 4) (N := some 51) (v := ?_) (a' := ?_) #[T_,F_,T_,F_,T_,F_,F_,F_,F_,F_,F_,F_,F_,F_,F_,F_,F_,F_,F_,F_,F_,F_,F_,F_,F_,F_,F_,F_,F_,F_,F_,F_,F_,F_,F_,F_,F_,F_,F_,F_,F_,F_,F_,F_,F_,F_,F_] rfl rfl (any_of HT_.out (by kernel_rfl)) (fun _ _ _ h => h) (Or.inl ⟨by rfl, ?_⟩) ?_ ?_
        rotate_left
        ·intro w'
         go_simp
         with_reducible rfl
        rotate_left
        ·simp only [Act.put, List.setIfInBounds_toArray, List.set_cons_zero, List.set_cons_succ, i64_w, i32_w]
         rfl
        refine take_ (i := 1) (N := some 48) (v := ?_) (a' := ?_) #[T_,T_,T_,F_,T_,F_,F_,F_,F_,F_,F_,F_,F_,F_,F_,F_,F_,F_,F_,F_,F_,F_,F_,F_,F_,F_,F_,F_,F_,F_,F_,F_,F_,F_,F_,F_,F_,F_,F_,F_,F_,F_,F_,F_,F_,F_,F_] rfl rfl (take_ofW HT_.out HW_.out (by kernel_rfl)) (fun _ _ _ h => h) (Or.inl ⟨by rfl, ?_⟩) hHeld ?_ ?_
        rotate_left
        ·rintro w' ⟨s0, s1, s2, s3, s4, s5, s6, s7⟩
         go_simp
         with_reducible rfl
        rotate_left
        ·simp only [Act.put, List.setIfInBounds_toArray, List.set_cons_zero, List.set_cons_succ, i64_w, i32_w]
         rfl
        refine take_ (i := 3) (N := some 50) (v := ?_) (a' := ?_) #[T_,T_,T_,T_,T_,F_,F_,F_,F_,F_,F_,F_,F_,F_,F_,F_,F_,F_,F_,F_,F_,F_,F_,F_,F_,F_,F_,F_,F_,F_,F_,F_,F_,F_,F_,F_,F_,F_,F_,F_,F_,F_,F_,F_,F_,F_,F_] rfl rfl (take_ofW HT_.out HW_.out (by kernel_rfl)) (fun _ _ _ h => h) (Or.inl ⟨by rfl, ?_⟩) hHeld ?_ ?_
        rotate_left
        ·rintro w' ⟨s0, s1, s2, s3, s4, s5, s6, s7⟩
         go_simp
         with_reducible rfl
        rotate_left
        ·simp only [Act.put, List.setIfInBounds_toArray, List.set_cons_zero, List.set_cons_succ, i64_w, i32_w]
         rfl
        refine take_ (i := 5) (N := some 52) (v := ?_) (a' := ?_) #[T_,T_,T_,T_,T_,T_,F_,F_,F_,F_,F_,F_,F_,F_,F_,F_,F_,F_,F_,F_,F_,F_,F_,F_,F_,F_,F_,F_,F_,F_,F_,F_,F_,F_,F_,F_,F_,F_,F_,F_,F_,F_,F_,F_,F_,F_,F_] rfl rfl (take_ofW HT_.out HW_.out (by kernel_rfl)) (fun _ _ _ h => h) (Or.inl ⟨by rfl, ?_⟩) hHeld ?_ ?_
        rotate_left
        ·rintro w' ⟨s0, s1, s2, s3, s4, s5, s6, s7⟩
         go_simp
         with_reducible rfl
        rotate_left
        ·simp only [Act.put, List.setIfInBounds_toArray, List.set_cons_zero, List.set_cons_succ, i64_w, i32_w]
         rfl
        refine pure_ (i := 6) (N := some 53) (v := ?_) (a' := ?_) #[T_,T_,T_,T_,T_,T_,T_,F_,F_,F_,F_,F_,F_,F_,F_,F_,F_,F_,F_,F_,F_,F_,F_,F_,F_,F_,F_,F_,F_,F_,F_,F_,F_,F_,F_,F_,F_,F_,F_,F_,F_,F_,F_,F_,F_,F_,F_] rfl rfl (any_of HT_.out (by kernel_rfl)) (fun _ _ _ h => h) (Or.inl ⟨by rfl, ?_⟩) ?_ ?_
        rotate_left
        ·intro w'
         go_simp
         with_reducible rfl
        rotate_left
        ·simp only [Act.put, List.setIfInBounds_toArray, List.set_cons_zero, List.set_cons_succ, i64_w, i32_w]
         rfl
        refine pure_ (i := 7) (N := some 54) (v := ?_) (a' := ?_) #[T_,T_,T_,T_,T_,T_,T_,T_,F_,F_,F_,F_,F_,F_,F_,F_,F_,F_,F_,F_,F_,F_,F_,F_,F_,F_,F_,F_,F_,F_,F_,F_,F_,F_,F_,F_,F_,F_,F_,F_,F_,F_,F_,F_,F_,F_,F_] rfl rfl (any_of HT_.out (by kernel_rfl)) (fun _ _ _ h => h) (Or.inl ⟨by rfl, ?_⟩) ?_ ?_
        rotate_left
        ·intro w'
         go_simp
         with_reducible rfl
        rotate_left
        ·simp only [Act.put, List.setIfInBounds_toArray, List.set_cons_zero, List.set_cons_succ, i64_w, i32_w]
         rfl
        refine pure_ (i := 8) (N := some 55) (v := ?_) (a' := ?_) #[T_,T_,T_,T_,T_,T_,T_,T_,T_,F_,F_,F_,F_,F_,F_,F_,F_,F_,F_,F_,F_,F_,F_,F_,F_,F_,F_,F_,F_,F_,F_,F_,F_,F_,F_,F_,F_,F_,F_,F_,F_,F_,F_,F_,F_,F_,F_] rfl rfl (any_of HT_.out (by kernel_rfl)) (fun _ _ _ h => h) (Or.inl ⟨by rfl, ?_⟩) ?_ ?_
        rotate_left
        ·intro w'
         go_simp
         with_reducible rfl
        rotate_left
        ·simp only [Act.put, List.setIfInBounds_toArray, List.set_cons_zero, List.set_cons_succ, i64_w, i32_w]
         rfl
        refine pure_ (i := 10) (N := some 57) (v := ?_) (a' := ?_) #[T_,T_,T_,T_,T_,T_,T_,T_,T_,F_,T_,F_,F_,F_,F_,F_,F_,F_,F_,F_,F_,F_,F_,F_,F_,F_,F_,F_,F_,F_,F_,F_,F_,F_,F_,F_,F_,F_,F_,F_,F_,F_,F_,F_,F_,F_,F_] rfl rfl (any_of HT_.out (by kernel_rfl)) (fun _ _ _ h => h) (Or.inl ⟨by rfl, ?_⟩) ?_ ?_
        rotate_left
        ·intro w'
         go_simp
         with_reducible rfl
        rotate_left
        ·simp only [Act.put, List.setIfInBounds_toArray, List.set_cons_zero, List.set_cons_succ, i64_w, i32_w]
         rfl
        refine pure_ (i := 12) (N := some 59) (v := ?_) (a' := ?_) #[T_,T_,T_,T_,T_,T_,T_,T_,T_,F_,T_,F_,T_,F_,F_,F_,F_,F_,F_,F_,F_,F_,F_,F_,F_,F_,F_,F_,F_,F_,F_,F_,F_,F_,F_,F_,F_,F_,F_,F_,F_,F_,F_,F_,F_,F_,F_] rfl rfl (any_of HT_.out (by kernel_rfl)) (fun _ _ _ h => h) (Or.inl ⟨by rfl, ?_⟩) ?_ ?_
        rotate_left
        ·intro w'
         go_simp
         with_reducible rfl
        rotate_left
        ·simp only [Act.put, List.setIfInBounds_toArray, List.set_cons_zero, List.set_cons_succ, i64_w, i32_w]
         rfl
        refine pure_ (i := 16) (N := some 63) (v := ?_) (a' := ?_) #[T_,T_,T_,T_,T_,T_,T_,T_,T_,F_,T_,F_,T_,F_,F_,F_,T_,F_,F_,F_,F_,F_,F_,F_,F_,F_,F_,F_,F_,F_,F_,F_,F_,F_,F_,F_,F_,F_,F_,F_,F_,F_,F_,F_,F_,F_,F_] rfl rfl (any_of HT_.out (by kernel_rfl)) (fun _ _ _ h => h) (Or.inl ⟨by rfl, ?_⟩) ?_ ?_
        rotate_left
        ·intro w'
         go_simp
         with_reducible rfl
        rotate_left
        ·simp only [Act.put, List.setIfInBounds_toArray, List.set_cons_zero, List.set_cons_succ, i64_w, i32_w]
         rfl
        refine pure_ (i := 20) (N := some 67) (v := ?_) (a' := ?_) #[T_,T_,T_,T_,T_,T_,T_,T_,T_,F_,T_,F_,T_,F_,F_,F_,T_,F_,F_,F_,T_,F_,F_,F_,F_,F_,F_,F_,F_,F_,F_,F_,F_,F_,F_,F_,F_,F_,F_,F_,F_,F_,F_,F_,F_,F_,F_] rfl rfl (any_of HT_.out (by kernel_rfl)) (fun _ _ _ h => h) (Or.inl ⟨by rfl, ?_⟩) ?_ ?_
        rotate_left
        ·intro w'
         go_simp
         with_reducible rfl
        rotate_left
        ·simp only [Act.put, List.setIfInBounds_toArray, List.set_cons_zero, List.set_cons_succ, i64_w, i32_w]
         rfl
        refine take_ (i := 9) (N := some 56) (v := ?_) (a' := ?_) #[T_,T_,T_,T_,T_,T_,T_,T_,T_,T_,T_,F_,T_,F_,F_,F_,T_,F_,F_,F_,T_,F_,F_,F_,F_,F_,F_,F_,F_,F_,F_,F_,F_,F_,F_,F_,F_,F_,F_,F_,F_,F_,F_,F_,F_,F_,F_] rfl rfl (take_ofW HT_.out HW_.out (by kernel_rfl)) (fun _ _ _ h => h) (Or.inl ⟨by rfl, ?_⟩) hHeld ?_ ?_
        rotate_left
        ·rintro w' ⟨s0, s1, s2, s3, s4, s5, s6, s7⟩
         go_simp
         with_reducible rfl
        rotate_left
        ·simp only [Act.put, List.setIfInBounds_toArray, List.set_cons_zero, List.set_cons_succ, i64_w, i32_w]
         rfl
        refine take_ (i := 11) (N := some 58) (v := ?_) (a' := ?_) #[T_,T_,T_,T_,T_,T_,T_,T_,T_,T_,T_,T_,T_,F_,F_,F_,T_,F_,F_,F_,T_,F_,F_,F_,F_,F_,F_,F_,F_,F_,F_,F_,F_,F_,F_,F_,F_,F_,F_,F_,F_,F_,F_,F_,F_,F_,F_] rfl rfl (take_ofW HT_.out HW_.out (by kernel_rfl)) (fun _ _ _ h => h) (Or.inl ⟨by rfl, ?_⟩) hHeld ?_ ?_
        rotate_left
        ·rintro w' ⟨s0, s1, s2, s3, s4, s5, s6, s7⟩
         go_simp
         with_reducible rfl
        rotate_left
        ·simp only [Act.put, List.setIfInBounds_toArray, List.set_cons_zero, List.set_cons_succ, i64_w, i32_w]
         rfl
        refine pure_ (i := 13) (N := some 60) (v := ?_) (a' := ?_) #[T_,T_,T_,T_,T_,T_,T_,T_,T_,T_,T_,T_,T_,T_,F_,F_,T_,F_,F_,F_,T_,F_,F_,F_,F_,F_,F_,F_,F_,F_,F_,F_,F_,F_,F_,F_,F_,F_,F_,F_,F_,F_,F_,F_,F_,F_,F_] rfl rfl (any_of HT_.out (by kernel_rfl)) (fun _ _ _ h => h) (Or.inl ⟨by rfl, ?_⟩) ?_ ?_
        rotate_left
        ·intro w'
         go_simp
         with_reducible rfl
        rotate_left
        ·simp only [Act.put, List.setIfInBounds_toArray, List.set_cons_zero, List.set_cons_succ, i64_w, i32_w]
         rfl
        refine take_ (i := 15) (N := some 62) (v := ?_) (a' := ?_) #[T_,T_,T_,T_,T_,T_,T_,T_,T_,T_,T_,T_,T_,T_,F_,T_,T_,F_,F_,F_,T_,F_,F_,F_,F_,F_,F_,F_,F_,F_,F_,F_,F_,F_,F_,F_,F_,F_,F_,F_,F_,F_,F_,F_,F_,F_,F_] rfl rfl (take_ofW HT_.out HW_.out (by kernel_rfl)) (fun _ _ _ h => h) (Or.inl ⟨by rfl, ?_⟩) hHeld ?_ ?_
        rotate_left
        ·rintro w' ⟨s0, s1, s2, s3, s4, s5, s6, s7⟩
         go_simp
         with_reducible rfl
        rotate_left
        ·simp only [Act.put, List.setIfInBounds_toArray, List.set_cons_zero, List.set_cons_succ, i64_w, i32_w]
         rfl
        refine take_ (i := 17) (N := some 64) (v := ?_) (a' := ?_) #[T_,T_,T_,T_,T_,T_,T_,T_,T_,T_,T_,T_,T_,T_,F_,T_,T_,T_,F_,F_,T_,F_,F_,F_,F_,F_,F_,F_,F_,F_,F_,F_,F_,F_,F_,F_,F_,F_,F_,F_,F_,F_,F_,F_,F_,F_,F_] rfl rfl (take_ofW HT_.out HW_.out (by kernel_rfl)) (fun _ _ _ h => h) (Or.inl ⟨by rfl, ?_⟩) hHeld ?_ ?_
        rotate_left
        ·rintro w' ⟨s0, s1, s2, s3, s4, s5, s6, s7⟩
         go_simp
         with_reducible rfl
        rotate_left
        ·simp only [Act.put, List.setIfInBounds_toArray, List.set_cons_zero, List.set_cons_succ, i64_w, i32_w]
         rfl
        refine take_ (i := 19) (N := some 66) (v := ?_) (a' := ?_) #[T_,T_,T_,T_,T_,T_,T_,T_,T_,T_,T_,T_,T_,T_,F_,T_,T_,T_,F_,T_,T_,F_,F_,F_,F_,F_,F_,F_,F_,F_,F_,F_,F_,F_,F_,F_,F_,F_,F_,F_,F_,F_,F_,F_,F_,F_,F_] rfl rfl (take_ofW HT_.out HW_.out (by kernel_rfl)) (fun _ _ _ h => h) (Or.inl ⟨by rfl, ?_⟩) hHeld ?_ ?_
        rotate_left
        ·rintro w' ⟨s0, s1, s2, s3, s4, s5, s6, s7⟩
         go_simp
         with_reducible rfl
        rotate_left
        ·simp only [Act.put, List.setIfInBounds_toArray, List.set_cons_zero, List.set_cons_succ, i64_w, i32_w]
         rfl
        refine one_ (i := 14) (N := some 61) #[T_,T_,T_,T_,T_,T_,T_,T_,T_,T_,T_,T_,T_,T_,T_,T_,T_,T_,F_,T_,T_,F_,F_,F_,F_,F_,F_,F_,F_,F_,F_,F_,F_,F_,F_,F_,F_,F_,F_,F_,F_,F_,F_,F_,F_,F_,F_] rfl rfl (one_of HT_.out (by kernel_rfl)) (by decide) (fun K hK => ?_)
        refine goes_ Try.func33 (by kernel_rfl) rfl #[.agg #[.int .i64 t382, .slice Ao30 t383.length co30], .int .i64 1, .int .i64 (wrap64 (t366 + t388))] (by rfl) rfl rfl (by (try simp only [List.map_toArray, List.map_cons, List.map_nil]); first | done | rfl | (simp only [List.length_drop, List.length_take]; rfl)) ?_
        with_reducible refine (impl_Rank.calls kj6 t382 _ _ t383 1 (wrap64 (t366 + t388)) t394 _ ?side1 ?side2 A36.out).mono ?_
        (case side1 => repeat (first | exact (rR HO_388001.out).2.2 | (with_reducible refine cA ?_ _) | (with_reducible refine cN ?_ _) | (with_reducible refine cD ?_)))
        (case side2 => exact (rR HO_388001.out).2.1)
        rintro e w62 ⟨rfl, hb⟩
        refine ⟨_, rfl, ?_⟩
        have n0_ := As.mk (rB (by (with_reducible repeat first | apply rA | apply rN | apply rD); exact HO_375001.out) hb)
        have n1_ := As.mk (rB (by (with_reducible repeat first | apply rA | apply rN | apply rD); exact HO_376001.out) hb)
        have n2_ := As.mk (rB (by (with_reducible repeat first | apply rA | apply rN | apply rD); exact HO_382001.out) hb)
        have n3_ := As.mk (rB (by (with_reducible repeat first | apply rA | apply rN | apply rD); exact HO_388001.out) hb)
        have n4_ := As.mk (rB (by (with_reducible repeat first | apply rA | apply rN | apply rD); exact HO392.out) hb)
        have n5_ := As.mk (bb (g := gb374) (o := .cells #[.int .i64 t366, .slice Ao13 t367.length co13] 25 (0, 0)) (by (with_reducible repeat first | apply bN | apply bD | apply bA); exact BK374.out) hb)
        have n6_ := As.mk (bb (g := gb375) (o := .cells #[.int .i64 t370, .slice Ao15 t371.length co15] 25 (0, 0)) (by (with_reducible repeat first | apply bN | apply bD | apply bA); exact BK375.out) hb)
        have n7_ := As.mk (bb (g := gb381) (o := .cells #[.int .i64 t376, .slice Ao21 t377.length co21] 25 (0, 0)) (by (with_reducible repeat first | apply bN | apply bD | apply bA); exact BK381.out) hb)
        have n8_ := As.mk (bb (g := gb387) (o := .cells #[.int .i64 t382, .slice Ao30 t383.length co30] 25 (0, 0)) (by (with_reducible repeat first | apply bN | apply bD | apply bA); exact BK387.out) hb)
        have n9_ := As.mk (bb (g := gb393) (o := .cells #[.int .i64 t389, .slice Ao59 t390.length co59] 25 (0, 0)) (by (with_reducible repeat first | apply bN | apply bD | apply bA); exact BK393.out) hb)
        have n10_ := As.mk (bt (by repeat (first | (with_reducible first | exact HB.out | apply ba | apply bw | apply b1 | refine bs ?_ GE374.out | refine bs ?_ GE375.out | refine bs ?_ GE381.out | refine bs ?_ GE387.out | refine bs ?_ GE393.out) | exact HB.out)) hb)
        clear HO_375001
        clear HO_376001
        clear HO_382001
        clear HO_388001
        clear HO392
        clear BK374
        clear BK375
        clear BK381
        clear BK387
        clear BK393
        clear HB
        have HO_375001 := n0_
        have HO_376001 := n1_
        have HO_382001 := n2_
        have HO_388001 := n3_
        have HO392 := n4_
        have BK374 := n5_
        have BK375 := n6_
        have BK381 := n7_
        have BK387 := n8_
        have BK393 := n9_
        have HB := n10_
        clear n0_ n1_ n2_ n3_ n4_ n5_ n6_ n7_ n8_ n9_ n10_
        (try clear hb)
        (try clear hb2)
        (try clear hk)
        (try clear hi)
        refine hK.out _ _ ⟨(blk_cell BK387.out 0).trans rfl, (blk_cell BK387.out 1).trans rfl, (blk_cell BK374.out 0).trans rfl, (blk_cell BK374.out 1).trans rfl, (blk_cell BK375.out 0).trans rfl, (blk_cell BK375.out 1).trans rfl, (blk_cell BK393.out 0).trans rfl, (blk_cell BK393.out 1).trans rfl⟩ (fun hHeld => ?_)
        clear hK K
        refine norm_ (a' := ?_) ?_ ?_
        rotate_left
        ·show Act.put _ (some 61) _ = _
         simp only [Act.put, List.setIfInBounds_toArray, List.set_cons_zero, List.set_cons_succ, i64_w, i32_w]
         rfl
        refine one_ (i := 18) (N := some 65) #[T_,T_,T_,T_,T_,T_,T_,T_,T_,T_,T_,T_,T_,T_,T_,T_,T_,T_,T_,T_,T_,F_,F_,F_,F_,F_,F_,F_,F_,F_,F_,F_,F_,F_,F_,F_,F_,F_,F_,F_,F_,F_,F_,F_,F_,F_,F_] rfl rfl (one_of HT_.out (by kernel_rfl)) (by decide) (fun K hK => ?_)
        refine goes_ Try.func32 (by kernel_rfl) rfl #[.agg #[.int .i64 t366, .slice Ao13 t367.length co13], .int .i64 1, .int .i64 t366] (by rfl) rfl rfl (by (try simp only [List.map_toArray, List.map_cons, List.map_nil]); first | done | rfl | (simp only [List.length_drop, List.length_take]; rfl)) ?_
        with_reducible refine (spec_Rank.calls kj6 t366 _ _ t367 1 t366 t395 _ ?side1 ?side2 A37.out).mono ?_
        (case side1 => repeat (first | exact (rR HO_375001.out).2.2 | (with_reducible refine cA ?_ _) | (with_reducible refine cN ?_ _) | (with_reducible refine cD ?_)))
        (case side2 => exact (rR HO_375001.out).2.1)
        rintro e w63 ⟨rfl, hb⟩
        refine ⟨_, rfl, ?_⟩
        have n0_ := As.mk (rB (by (with_reducible repeat first | apply rA | apply rN | apply rD); exact HO_375001.out) hb)
        have n1_ := As.mk (rB (by (with_reducible repeat first | apply rA | apply rN | apply rD); exact HO_376001.out) hb)
        have n2_ := As.mk (rB (by (with_reducible repeat first | apply rA | apply rN | apply rD); exact HO_382001.out) hb)
        have n3_ := As.mk (rB (by (with_reducible repeat first | apply rA | apply rN | apply rD); exact HO_388001.out) hb)
        have n4_ := As.mk (rB (by (with_reducible repeat first | apply rA | apply rN | apply rD); exact HO392.out) hb)
        have n5_ := As.mk (bb (g := gb374) (o := .cells #[.int .i64 t366, .slice Ao13 t367.length co13] 25 (0, 0)) (by (with_reducible repeat first | apply bN | apply bD | apply bA); exact BK374.out) hb)
        have n6_ := As.mk (bb (g := gb375) (o := .cells #[.int .i64 t370, .slice Ao15 t371.length co15] 25 (0, 0)) (by (with_reducible repeat first | apply bN | apply bD | apply bA); exact BK375.out) hb)
        have n7_ := As.mk (bb (g := gb381) (o := .cells #[.int .i64 t376, .slice Ao21 t377.length co21] 25 (0, 0)) (by (with_reducible repeat first | apply bN | apply bD | apply bA); exact BK381.out) hb)
        have n8_ := As.mk (bb (g := gb387) (o := .cells #[.int .i64 t382, .slice Ao30 t383.length co30] 25 (0, 0)) (by (with_reducible repeat first | apply bN | apply bD | apply bA); exact BK387.out) hb)
        have n9_ := As.mk (bb (g := gb393) (o := .cells #[.int .i64 t389, .slice Ao59 t390.length co59] 25 (0, 0)) (by (with_reducible repeat first | apply bN | apply bD | apply bA); exact BK393.out) hb)
        have n10_ := As.mk (bt (by repeat (first | (with_reducible first | exact HB.out | apply ba | apply bw | apply b1 | refine bs ?_ GE374.out | refine bs ?_ GE375.out | refine bs ?_ GE381.out | refine bs ?_ GE387.out | refine bs ?_ GE393.out) | exact HB.out)) hb)
        clear HO_375001
        clear HO_376001
        clear HO_382001
        clear HO_388001
        clear HO392
        clear BK374
        clear BK375
        clear BK381
        clear BK387
        clear BK393
        clear HB
        have HO_375001 := n0_
        have HO_376001 := n1_
        have HO_382001 := n2_
        have HO_388001 := n3_
        have HO392 := n4_
        have BK374 := n5_
        have BK375 := n6_
        have BK381 := n7_
        have BK387 := n8_
        have BK393 := n9_
        have HB := n10_
        clear n0_ n1_ n2_ n3_ n4_ n5_ n6_ n7_ n8_ n9_ n10_
        (try clear hb)
        (try clear hb2)
        (try clear hk)
        (try clear hi)
        refine hK.out _ _ ⟨(blk_cell BK387.out 0).trans rfl, (blk_cell BK387.out 1).trans rfl, (blk_cell BK374.out 0).trans rfl, (blk_cell BK374.out 1).trans rfl, (blk_cell BK375.out 0).trans rfl, (blk_cell BK375.out 1).trans rfl, (blk_cell BK393.out 0).trans rfl, (blk_cell BK393.out 1).trans rfl⟩ (fun hHeld => ?_)
        clear hK K
        refine norm_ (a' := ?_) ?_ ?_
        rotate_left
        ·show Act.put _ (some 65) _ = _
         simp only [Act.put, List.setIfInBounds_toArray, List.set_cons_zero, List.set_cons_succ, i64_w, i32_w]
         rfl
        refine one_ (i := 21) (N := some 68) #[T_,T_,T_,T_,T_,T_,T_,T_,T_,T_,T_,T_,T_,T_,T_,T_,T_,T_,T_,T_,T_,T_,F_,F_,F_,F_,F_,F_,F_,F_,F_,F_,F_,F_,F_,F_,F_,F_,F_,F_,F_,F_,F_,F_,F_,F_,F_] rfl rfl (one_of HT_.out (by kernel_rfl)) (by decide) (fun K hK => ?_)
        refine goes_ Try.func32 (by kernel_rfl) rfl #[.agg #[.int .i64 t370, .slice Ao15 t371.length co15], .int .i64 1, .int .i64 t388] (by rfl) rfl rfl (by (try simp only [List.map_toArray, List.map_cons, List.map_nil]); first | done | rfl | (simp only [List.length_drop, List.length_take]; rfl)) ?_
        with_reducible refine (spec_Rank.calls kj6 t370 _ _ t371 1 t388 t396 _ ?side1 ?side2 A38.out).mono ?_
        (case side1 => repeat (first | exact (rR HO_376001.out).2.2 | (with_reducible refine cA ?_ _) | (with_reducible refine cN ?_ _) | (with_reducible refine cD ?_)))
        (case side2 => exact (rR HO_376001.out).2.1)
        rintro e w64 ⟨rfl, hb⟩
        refine ⟨_, rfl, ?_⟩
        have n0_ := As.mk (rB (by (with_reducible repeat first | apply rA | apply rN | apply rD); exact HO_375001.out) hb)
        have n1_ := As.mk (rB (by (with_reducible repeat first | apply rA | apply rN | apply rD); exact HO_376001.out) hb)
        have n2_ := As.mk (rB (by (with_reducible repeat first | apply rA | apply rN | apply rD); exact HO_382001.out) hb)
        have n3_ := As.mk (rB (by (with_reducible repeat first | apply rA | apply rN | apply rD); exact HO_388001.out) hb)
        have n4_ := As.mk (rB (by (with_reducible repeat first | apply rA | apply rN | apply rD); exact HO392.out) hb)
        have n5_ := As.mk (bb (g := gb374) (o := .cells #[.int .i64 t366, .slice Ao13 t367.length co13] 25 (0, 0)) (by (with_reducible repeat first | apply bN | apply bD | apply bA); exact BK374.out) hb)
        have n6_ := As.mk (bb (g := gb375) (o := .cells #[.int .i64 t370, .slice Ao15 t371.length co15] 25 (0, 0)) (by (with_reducible repeat first | apply bN | apply bD | apply bA); exact BK375.out) hb)
        have n7_ := As.mk (bb (g := gb381) (o := .cells #[.int .i64 t376, .slice Ao21 t377.length co21] 25 (0, 0)) (by (with_reducible repeat first | apply bN | apply bD | apply bA); exact BK381.out) hb)
        have n8_ := As.mk (bb (g := gb387) (o := .cells #[.int .i64 t382, .slice Ao30 t383.length co30] 25 (0, 0)) (by (with_reducible repeat first | apply bN | apply bD | apply bA); exact BK387.out) hb)
        have n9_ := As.mk (bb (g := gb393) (o := .cells #[.int .i64 t389, .slice Ao59 t390.length co59] 25 (0, 0)) (by (with_reducible repeat first | apply bN | apply bD | apply bA); exact BK393.out) hb)
        have n10_ := As.mk (bt (by repeat (first | (with_reducible first | exact HB.out | apply ba | apply bw | apply b1 | refine bs ?_ GE374.out | refine bs ?_ GE375.out | refine bs ?_ GE381.out | refine bs ?_ GE387.out | refine bs ?_ GE393.out) | exact HB.out)) hb)
        clear HO_375001
        clear HO_376001
        clear HO_382001
        clear HO_388001
        clear HO392
        clear BK374
        clear BK375
        clear BK381
        clear BK387
        clear BK393
        clear HB
        have HO_375001 := n0_
        have HO_376001 := n1_
        have HO_382001 := n2_
        have HO_388001 := n3_
        have HO392 := n4_
        have BK374 := n5_
        have BK375 := n6_
        have BK381 := n7_
        have BK387 := n8_
        have BK393 := n9_
        have HB := n10_
        clear n0_ n1_ n2_ n3_ n4_ n5_ n6_ n7_ n8_ n9_ n10_
        (try clear hb)
        (try clear hb2)
        (try clear hk)
        (try clear hi)
        refine hK.out _ _ ⟨(blk_cell BK387.out 0).trans rfl, (blk_cell BK387.out 1).trans rfl, (blk_cell BK374.out 0).trans rfl, (blk_cell BK374.out 1).trans rfl, (blk_cell BK375.out 0).trans rfl, (blk_cell BK375.out 1).trans rfl, (blk_cell BK393.out 0).trans rfl, (blk_cell BK393.out 1).trans rfl⟩ (fun hHeld => ?_)
        clear hK K
        refine norm_ (a' := ?_) ?_ ?_
        rotate_left
        ·show Act.put _ (some 68) _ = _
         simp only [Act.put, List.setIfInBounds_toArray, List.set_cons_zero, List.set_cons_succ, i64_w, i32_w]
         rfl
        refine pure_ (i := 22) (N := some 69) (v := ?_) (a' := ?_) #[T_,T_,T_,T_,T_,T_,T_,T_,T_,T_,T_,T_,T_,T_,T_,T_,T_,T_,T_,T_,T_,T_,T_,F_,F_,F_,F_,F_,F_,F_,F_,F_,F_,F_,F_,F_,F_,F_,F_,F_,F_,F_,F_,F_,F_,F_,F_] rfl rfl (any_of HT_.out (by kernel_rfl)) (fun _ _ _ h => h) (Or.inl ⟨by rfl, ?_⟩) ?_ ?_
        rotate_left
        ·intro w'
         go_simp
         with_reducible rfl
        rotate_left
        ·simp only [Act.put, List.setIfInBounds_toArray, List.set_cons_zero, List.set_cons_succ, i64_w, i32_w]
         rfl
        refine pure_ (i := 23) (N := some 70) (v := ?_) (a' := ?_) #[T_,T_,T_,T_,T_,T_,T_,T_,T_,T_,T_,T_,T_,T_,T_,T_,T_,T_,T_,T_,T_,T_,T_,T_,F_,F_,F_,F_,F_,F_,F_,F_,F_,F_,F_,F_,F_,F_,F_,F_,F_,F_,F_,F_,F_,F_,F_] rfl rfl (any_of HT_.out (by kernel_rfl)) (fun _ _ _ h => h) (Or.inl ⟨by rfl, ?_⟩) ?_ ?_
        rotate_left
        ·intro w'
         go_simp
         with_reducible rfl
        rotate_left
        ·simp only [Act.put, List.setIfInBounds_toArray, List.set_cons_zero, List.set_cons_succ, i64_w, i32_w]
         rfl
        refine pure_ (i := 24) (N := some 71) (v := ?_) (a' := ?_) #[T_,T_,T_,T_,T_,T_,T_,T_,T_,T_,T_,T_,T_,T_,T_,T_,T_,T_,T_,T_,T_,T_,T_,T_,T_,F_,F_,F_,F_,F_,F_,F_,F_,F_,F_,F_,F_,F_,F_,F_,F_,F_,F_,F_,F_,F_,F_] rfl rfl (any_of HT_.out (by kernel_rfl)) (fun _ _ _ h => h) (Or.inl ⟨by rfl, ?_⟩) ?_ ?_
        rotate_left
        ·intro w'
         go_simp
         with_reducible rfl
        rotate_left
        ·simp only [Act.put, List.setIfInBounds_toArray, List.set_cons_zero, List.set_cons_succ, i64_w, i32_w]
         rfl
        refine pure_ (i := 25) (N := some 72) (v := ?_) (a' := ?_) #[T_,T_,T_,T_,T_,T_,T_,T_,T_,T_,T_,T_,T_,T_,T_,T_,T_,T_,T_,T_,T_,T_,T_,T_,T_,T_,F_,F_,F_,F_,F_,F_,F_,F_,F_,F_,F_,F_,F_,F_,F_,F_,F_,F_,F_,F_,F_] rfl rfl (any_of HT_.out (by kernel_rfl)) (fun _ _ _ h => h) (Or.inl ⟨by rfl, ?_⟩) ?_ ?_
        rotate_left
        ·intro w'
         go_simp
         with_reducible rfl
        rotate_left
        ·simp only [Act.put, List.setIfInBounds_toArray, List.set_cons_zero, List.set_cons_succ, i64_w, i32_w]
         rfl
        refine pure_ (i := 27) (N := some 74) (v := ?_) (a' := ?_) #[T_,T_,T_,T_,T_,T_,T_,T_,T_,T_,T_,T_,T_,T_,T_,T_,T_,T_,T_,T_,T_,T_,T_,T_,T_,T_,F_,T_,F_,F_,F_,F_,F_,F_,F_,F_,F_,F_,F_,F_,F_,F_,F_,F_,F_,F_,F_] rfl rfl (any_of HT_.out (by kernel_rfl)) (fun _ _ _ h => h) (Or.inl ⟨by rfl, ?_⟩) ?_ ?_
        rotate_left
        ·intro w'
         go_simp
         with_reducible rfl
        rotate_left
        ·simp only [Act.put, List.setIfInBounds_toArray, List.set_cons_zero, List.set_cons_succ, i64_w, i32_w]
         rfl
        refine pure_ (i := 29) (N := some 76) (v := ?_) (a' := ?_) #[T_,T_,T_,T_,T_,T_,T_,T_,T_,T_,T_,T_,T_,T_,T_,T_,T_,T_,T_,T_,T_,T_,T_,T_,T_,T_,F_,T_,F_,T_,F_,F_,F_,F_,F_,F_,F_,F_,F_,F_,F_,F_,F_,F_,F_,F_,F_] rfl rfl (any_of HT_.out (by kernel_rfl)) (fun _ _ _ h => h) (Or.inl ⟨by rfl, ?_⟩) ?_ ?_
        rotate_left
        ·intro w'
         go_simp
         with_reducible rfl
        rotate_left
        ·simp only [Act.put, List.setIfInBounds_toArray, List.set_cons_zero, List.set_cons_succ, i64_w, i32_w]
         rfl
        refine pure_ (i := 33) (N := some 80) (v := ?_) (a' := ?_) #[T_,T_,T_,T_,T_,T_,T_,T_,T_,T_,T_,T_,T_,T_,T_,T_,T_,T_,T_,T_,T_,T_,T_,T_,T_,T_,F_,T_,F_,T_,F_,F_,F_,T_,F_,F_,F_,F_,F_,F_,F_,F_,F_,F_,F_,F_,F_] rfl rfl (any_of HT_.out (by kernel_rfl)) (fun _ _ _ h => h) (Or.inl ⟨by rfl, ?_⟩) ?_ ?_
        rotate_left
        ·intro w'
         go_simp
         with_reducible rfl
        rotate_left
        ·simp only [Act.put, List.setIfInBounds_toArray, List.set_cons_zero, List.set_cons_succ, i64_w, i32_w]
         rfl
        refine pure_ (i := 35) (N := some 82) (v := ?_) (a' := ?_) #[T_,T_,T_,T_,T_,T_,T_,T_,T_,T_,T_,T_,T_,T_,T_,T_,T_,T_,T_,T_,T_,T_,T_,T_,T_,T_,F_,T_,F_,T_,F_,F_,F_,T_,F_,T_,F_,F_,F_,F_,F_,F_,F_,F_,F_,F_,F_] rfl rfl (any_of HT_.out (by kernel_rfl)) (fun _ _ _ h => h) (Or.inl ⟨by rfl, ?_⟩) ?_ ?_
        rotate_left
        ·intro w'
         go_simp
         with_reducible rfl
        rotate_left
        ·simp only [Act.put, List.setIfInBounds_toArray, List.set_cons_zero, List.set_cons_succ, i64_w, i32_w]
         rfl
        refine take_ (i := 26) (N := some 73) (v := ?_) (a' := ?_) #[T_,T_,T_,T_,T_,T_,T_,T_,T_,T_,T_,T_,T_,T_,T_,T_,T_,T_,T_,T_,T_,T_,T_,T_,T_,T_,T_,T_,F_,T_,F_,F_,F_,T_,F_,T_,F_,F_,F_,F_,F_,F_,F_,F_,F_,F_,F_] rfl rfl (take_ofW HT_.out HW_.out (by kernel_rfl)) (fun _ _ _ h => h) (Or.inl ⟨by rfl, ?_⟩) hHeld ?_ ?_
        rotate_left
        ·rintro w' ⟨s0, s1, s2, s3, s4, s5, s6, s7⟩
         go_simp
         with_reducible rfl
        rotate_left
        ·simp only [Act.put, List.setIfInBounds_toArray, List.set_cons_zero, List.set_cons_succ, i64_w, i32_w]
         rfl
        refine take_ (i := 28) (N := some 75) (v := ?_) (a' := ?_) #[T_,T_,T_,T_,T_,T_,T_,T_,T_,T_,T_,T_,T_,T_,T_,T_,T_,T_,T_,T_,T_,T_,T_,T_,T_,T_,T_,T_,T_,T_,F_,F_,F_,T_,F_,T_,F_,F_,F_,F_,F_,F_,F_,F_,F_,F_,F_] rfl rfl (take_ofW HT_.out HW_.out (by kernel_rfl)) (fun _ _ _ h => h) (Or.inl ⟨by rfl, ?_⟩) hHeld ?_ ?_
        rotate_left
        ·rintro w' ⟨s0, s1, s2, s3, s4, s5, s6, s7⟩
         go_simp
         with_reducible rfl
        rotate_left
        ·simp only [Act.put, List.setIfInBounds_toArray, List.set_cons_zero, List.set_cons_succ, i64_w, i32_w]
         rfl
        refine pure_ (i := 30) (N := some 77) (v := ?_) (a' := ?_) #[T_,T_,T_,T_,T_,T_,T_,T_,T_,T_,T_,T_,T_,T_,T_,T_,T_,T_,T_,T_,T_,T_,T_,T_,T_,T_,T_,T_,T_,T_,T_,F_,F_,T_,F_,T_,F_,F_,F_,F_,F_,F_,F_,F_,F_,F_,F_] rfl rfl (any_of HT_.out (by kernel_rfl)) (fun _ _ _ h => h) (Or.inl ⟨by rfl, ?_⟩) ?_ ?_
        rotate_left
        ·intro w'
         go_simp
         with_reducible rfl
        rotate_left
        ·simp only [Act.put, List.setIfInBounds_toArray, List.set_cons_zero, List.set_cons_succ, i64_w, i32_w]
         rfl
        refine take_ (i := 32) (N := some 79) (v := ?_) (a' := ?_) #[T_,T_,T_,T_,T_,T_,T_,T_,T_,T_,T_,T_,T_,T_,T_,T_,T_,T_,T_,T_,T_,T_,T_,T_,T_,T_,T_,T_,T_,T_,T_,F_,T_,T_,F_,T_,F_,F_,F_,F_,F_,F_,F_,F_,F_,F_,F_] rfl rfl (take_ofW HT_.out HW_.out (by kernel_rfl)) (fun _ _ _ h => h) (Or.inl ⟨by rfl, ?_⟩) hHeld ?_ ?_
        rotate_left
        ·rintro w' ⟨s0, s1, s2, s3, s4, s5, s6, s7⟩
         go_simp
         with_reducible rfl
        rotate_left
        ·simp only [Act.put, List.setIfInBounds_toArray, List.set_cons_zero, List.set_cons_succ, i64_w, i32_w]
         rfl
        refine take_ (i := 34) (N := some 81) (v := ?_) (a' := ?_) #[T_,T_,T_,T_,T_,T_,T_,T_,T_,T_,T_,T_,T_,T_,T_,T_,T_,T_,T_,T_,T_,T_,T_,T_,T_,T_,T_,T_,T_,T_,T_,F_,T_,T_,T_,T_,F_,F_,F_,F_,F_,F_,F_,F_,F_,F_,F_] rfl rfl (take_ofW HT_.out HW_.out (by kernel_rfl)) (fun _ _ _ h => h) (Or.inl ⟨by rfl, ?_⟩) hHeld ?_ ?_
        rotate_left
        ·rintro w' ⟨s0, s1, s2, s3, s4, s5, s6, s7⟩
         go_simp
         with_reducible rfl
        rotate_left
        ·simp only [Act.put, List.setIfInBounds_toArray, List.set_cons_zero, List.set_cons_succ, i64_w, i32_w]
         rfl
        refine pure_ (i := 36) (N := some 83) (v := ?_) (a' := ?_) #[T_,T_,T_,T_,T_,T_,T_,T_,T_,T_,T_,T_,T_,T_,T_,T_,T_,T_,T_,T_,T_,T_,T_,T_,T_,T_,T_,T_,T_,T_,T_,F_,T_,T_,T_,T_,T_,F_,F_,F_,F_,F_,F_,F_,F_,F_,F_] rfl rfl (any_of HT_.out (by kernel_rfl)) (fun _ _ _ h => h) (Or.inl ⟨by rfl, ?_⟩) ?_ ?_
        rotate_left
        ·intro w'
         go_simp
         with_reducible rfl
        rotate_left
        ·simp only [Act.put, List.setIfInBounds_toArray, List.set_cons_zero, List.set_cons_succ, i64_w, i32_w]
         rfl
        refine one_ (i := 31) (N := some 78) #[T_,T_,T_,T_,T_,T_,T_,T_,T_,T_,T_,T_,T_,T_,T_,T_,T_,T_,T_,T_,T_,T_,T_,T_,T_,T_,T_,T_,T_,T_,T_,T_,T_,T_,T_,T_,T_,F_,F_,F_,F_,F_,F_,F_,F_,F_,F_] rfl rfl (one_of HT_.out (by kernel_rfl)) (by decide) (fun K hK => ?_)
        refine goes_ Try.func33 (by kernel_rfl) rfl #[.agg #[.int .i64 t389, .slice Ao59 t390.length co59], .int .i64 0, .int .i64 (wrap64 (t366 + t388))] (by rfl) rfl rfl (by (try simp only [List.map_toArray, List.map_cons, List.map_nil]); first | done | rfl | (simp only [List.length_drop, List.length_take]; rfl)) ?_
        with_reducible refine (impl_Rank.calls kj6 t389 _ _ t390 0 (wrap64 (t366 + t388)) t397 _ ?side1 ?side2 A40.out).mono ?_
        (case side1 => repeat (first | exact (rR HO392.out).2.2 | (with_reducible refine cA ?_ _) | (with_reducible refine cN ?_ _) | (with_reducible refine cD ?_)))
        (case side2 => exact (rR HO392.out).2.1)
        rintro e w65 ⟨rfl, hb⟩
        refine ⟨_, rfl, ?_⟩
        have n0_ := As.mk (rB (by (with_reducible repeat first | apply rA | apply rN | apply rD); exact HO_375001.out) hb)
        have n1_ := As.mk (rB (by (with_reducible repeat first | apply rA | apply rN | apply rD); exact HO_376001.out) hb)
        have n2_ := As.mk (rB (by (with_reducible repeat first | apply rA | apply rN | apply rD); exact HO_382001.out) hb)
        have n3_ := As.mk (rB (by (with_reducible repeat first | apply rA | apply rN | apply rD); exact HO_388001.out) hb)
        have n4_ := As.mk (rB (by (with_reducible repeat first | apply rA | apply rN | apply rD); exact HO392.out) hb)
        have n5_ := As.mk (bb (g := gb374) (o := .cells #[.int .i64 t366, .slice Ao13 t367.length co13] 25 (0, 0)) (by (with_reducible repeat first | apply bN | apply bD | apply bA); exact BK374.out) hb)
        have n6_ := As.mk (bb (g := gb375) (o := .cells #[.int .i64 t370, .slice Ao15 t371.length co15] 25 (0, 0)) (by (with_reducible repeat first | apply bN | apply bD | apply bA); exact BK375.out) hb)
        have n7_ := As.mk (bb (g := gb381) (o := .cells #[.int .i64 t376, .slice Ao21 t377.length co21] 25 (0, 0)) (by (with_reducible repeat first | apply bN | apply bD | apply bA); exact BK381.out) hb)
        have n8_ := As.mk (bb (g := gb387) (o := .cells #[.int .i64 t382, .slice Ao30 t383.length co30] 25 (0, 0)) (by (with_reducible repeat first | apply bN | apply bD | apply bA); exact BK387.out) hb)
        have n9_ := As.mk (bb (g := gb393) (o := .cells #[.int .i64 t389, .slice Ao59 t390.length co59] 25 (0, 0)) (by (with_reducible repeat first | apply bN | apply bD | apply bA); exact BK393.out) hb)
        have n10_ := As.mk (bt (by repeat (first | (with_reducible first | exact HB.out | apply ba | apply bw | apply b1 | refine bs ?_ GE374.out | refine bs ?_ GE375.out | refine bs ?_ GE381.out | refine bs ?_ GE387.out | refine bs ?_ GE393.out) | exact HB.out)) hb)
        clear HO_375001
        clear HO_376001
        clear HO_382001
        clear HO_388001
        clear HO392
        clear BK374
        clear BK375
        clear BK381
        clear BK387
        clear BK393
        clear HB
        have HO_375001 := n0_
        have HO_376001 := n1_
        have HO_382001 := n2_
        have HO_388001 := n3_
        have HO392 := n4_
        have BK374 := n5_
        have BK375 := n6_
        have BK381 := n7_
        have BK387 := n8_
        have BK393 := n9_
        have HB := n10_
        clear n0_ n1_ n2_ n3_ n4_ n5_ n6_ n7_ n8_ n9_ n10_
        (try clear hb)
        (try clear hb2)
        (try clear hk)
        (try clear hi)
        refine hK.out _ _ ⟨(blk_cell BK387.out 0).trans rfl, (blk_cell BK387.out 1).trans rfl, (blk_cell BK374.out 0).trans rfl, (blk_cell BK374.out 1).trans rfl, (blk_cell BK375.out 0).trans rfl, (blk_cell BK375.out 1).trans rfl, (blk_cell BK393.out 0).trans rfl, (blk_cell BK393.out 1).trans rfl⟩ (fun hHeld => ?_)
        clear hK K
        refine norm_ (a' := ?_) ?_ ?_
        rotate_left
        ·show Act.put _ (some 78) _ = _
         simp only [Act.put, List.setIfInBounds_toArray, List.set_cons_zero, List.set_cons_succ, i64_w, i32_w]
         rfl
        refine one_ (i := 37) (N := some 84) #[T_,T_,T_,T_,T_,T_,T_,T_,T_,T_,T_,T_,T_,T_,T_,T_,T_,T_,T_,T_,T_,T_,T_,T_,T_,T_,T_,T_,T_,T_,T_,T_,T_,T_,T_,T_,T_,T_,F_,F_,F_,F_,F_,F_,F_,F_,F_] rfl rfl (one_of HT_.out (by kernel_rfl)) (by decide) (fun K hK => ?_)
        refine goes_ Try.func33 (by kernel_rfl) rfl #[.agg #[.int .i64 t382, .slice Ao30 t383.length co30], .int .i64 1, .int .i64 (wrap64 (t366 + t388))] (by rfl) rfl rfl (by (try simp only [List.map_toArray, List.map_cons, List.map_nil]); first | done | rfl | (simp only [List.length_drop, List.length_take]; rfl)) ?_
        with_reducible refine (impl_Rank.calls kj6 t382 _ _ t383 1 (wrap64 (t366 + t388)) t398 _ ?side1 ?side2 A41.out).mono ?_
        (case side1 => repeat (first | exact (rR HO_388001.out).2.2 | (with_reducible refine cA ?_ _) | (with_reducible refine cN ?_ _) | (with_reducible refine cD ?_)))
        (case side2 => exact (rR HO_388001.out).2.1)
        rintro e w66 ⟨rfl, hb⟩
        refine ⟨_, rfl, ?_⟩
        have n0_ := As.mk (rB (by (with_reducible repeat first | apply rA | apply rN | apply rD); exact HO_375001.out) hb)
        have n1_ := As.mk (rB (by (with_reducible repeat first | apply rA | apply rN | apply rD); exact HO_376001.out) hb)
        have n2_ := As.mk (rB (by (with_reducible repeat first | apply rA | apply rN | apply rD); exact HO_382001.out) hb)
        have n3_ := As.mk (rB (by (with_reducible repeat first | apply rA | apply rN | apply rD); exact HO_388001.out) hb)
        have n4_ := As.mk (rB (by (with_reducible repeat first | apply rA | apply rN | apply rD); exact HO392.out) hb)
        have n5_ := As.mk (bb (g := gb374) (o := .cells #[.int .i64 t366, .slice Ao13 t367.length co13] 25 (0, 0)) (by (with_reducible repeat first | apply bN | apply bD | apply bA); exact BK374.out) hb)
        have n6_ := As.mk (bb (g := gb375) (o := .cells #[.int .i64 t370, .slice Ao15 t371.length co15] 25 (0, 0)) (by (with_reducible repeat first | apply bN | apply bD | apply bA); exact BK375.out) hb)
        have n7_ := As.mk (bb (g := gb381) (o := .cells #[.int .i64 t376, .slice Ao21 t377.length co21] 25 (0, 0)) (by (with_reducible repeat first | apply bN | apply bD | apply bA); exact BK381.out) hb)
        have n8_ := As.mk (bb (g := gb387) (o := .cells #[.int .i64 t382, .slice Ao30 t383.length co30] 25 (0, 0)) (by (with_reducible repeat first | apply bN | apply bD | apply bA); exact BK387.out) hb)
        have n9_ := As.mk (bb (g := gb393) (o := .cells #[.int .i64 t389, .slice Ao59 t390.length co59] 25 (0, 0)) (by (with_reducible repeat first | apply bN | apply bD | apply bA); exact BK393.out) hb)
        have n10_ := As.mk (bt (by repeat (first | (with_reducible first | exact HB.out | apply ba | apply bw | apply b1 | refine bs ?_ GE374.out | refine bs ?_ GE375.out | refine bs ?_ GE381.out | refine bs ?_ GE387.out | refine bs ?_ GE393.out) | exact HB.out)) hb)
        clear HO_375001
        clear HO_376001
        clear HO_382001
        clear HO_388001
        clear HO392
        clear BK374
        clear BK375
        clear BK381
        clear BK387
        clear BK393
        clear HB
        have HO_375001 := n0_
        have HO_376001 := n1_
        have HO_382001 := n2_
        have HO_388001 := n3_
        have HO392 := n4_
        have BK374 := n5_
        have BK375 := n6_
        have BK381 := n7_
        have BK387 := n8_
        have BK393 := n9_
        have HB := n10_
        clear n0_ n1_ n2_ n3_ n4_ n5_ n6_ n7_ n8_ n9_ n10_
        (try clear hb)
        (try clear hb2)
        (try clear hk)
        (try clear hi)
        refine hK.out _ _ ⟨(blk_cell BK387.out 0).trans rfl, (blk_cell BK387.out 1).trans rfl, (blk_cell BK374.out 0).trans rfl, (blk_cell BK374.out 1).trans rfl, (blk_cell BK375.out 0).trans rfl, (blk_cell BK375.out 1).trans rfl, (blk_cell BK393.out 0).trans rfl, (blk_cell BK393.out 1).trans rfl⟩ (fun hHeld => ?_)
        clear hK K
        refine norm_ (a' := ?_) ?_ ?_
        rotate_left
        ·show Act.put _ (some 84) _ = _
         simp only [Act.put, List.setIfInBounds_toArray, List.set_cons_zero, List.set_cons_succ, i64_w, i32_w]
         rfl
        refine pure_ (i := 38) (N := some 85) (v := ?_) (a' := ?_) #[T_,T_,T_,T_,T_,T_,T_,T_,T_,T_,T_,T_,T_,T_,T_,T_,T_,T_,T_,T_,T_,T_,T_,T_,T_,T_,T_,T_,T_,T_,T_,T_,T_,T_,T_,T_,T_,T_,T_,F_,F_,F_,F_,F_,F_,F_,F_] rfl rfl (any_of HT_.out (by kernel_rfl)) (fun _ _ _ h => h) (Or.inl ⟨by rfl, ?_⟩) ?_ ?_
        rotate_left
        ·intro w'
         go_simp
         with_reducible rfl
        rotate_left
        ·simp only [Act.put, List.setIfInBounds_toArray, List.set_cons_zero, List.set_cons_succ, i64_w, i32_w]
         rfl
        refine pure_ (i := 39) (N := some 86) (v := ?_) (a' := ?_) #[T_,T_,T_,T_,T_,T_,T_,T_,T_,T_,T_,T_,T_,T_,T_,T_,T_,T_,T_,T_,T_,T_,T_,T_,T_,T_,T_,T_,T_,T_,T_,T_,T_,T_,T_,T_,T_,T_,T_,T_,F_,F_,F_,F_,F_,F_,F_] rfl rfl (any_of HT_.out (by kernel_rfl)) (fun _ _ _ h => h) (Or.inl ⟨by rfl, ?_⟩) ?_ ?_
        rotate_left
        ·intro w'
         go_simp
         with_reducible rfl
        rotate_left
        ·simp only [Act.put, List.setIfInBounds_toArray, List.set_cons_zero, List.set_cons_succ, i64_w, i32_w]
         rfl
        refine pure_ (i := 40) (N := some 87) (v := ?_) (a' := ?_) #[T_,T_,T_,T_,T_,T_,T_,T_,T_,T_,T_,T_,T_,T_,T_,T_,T_,T_,T_,T_,T_,T_,T_,T_,T_,T_,T_,T_,T_,T_,T_,T_,T_,T_,T_,T_,T_,T_,T_,T_,T_,F_,F_,F_,F_,F_,F_] rfl rfl (any_of HT_.out (by kernel_rfl)) (fun _ _ _ h => h) (Or.inl ⟨by rfl, ?_⟩) ?_ ?_
        rotate_left
        ·intro w'
         go_simp
         with_reducible rfl
        rotate_left
        ·simp only [Act.put, List.setIfInBounds_toArray, List.set_cons_zero, List.set_cons_succ, i64_w, i32_w]
         rfl
        refine take_ (i := 41) (N := some 88) (v := ?_) (a' := ?_) #[T_,T_,T_,T_,T_,T_,T_,T_,T_,T_,T_,T_,T_,T_,T_,T_,T_,T_,T_,T_,T_,T_,T_,T_,T_,T_,T_,T_,T_,T_,T_,T_,T_,T_,T_,T_,T_,T_,T_,T_,T_,T_,F_,F_,F_,F_,F_] rfl rfl (take_ofW HT_.out HW_.out (by kernel_rfl)) (fun _ _ _ h => h) (Or.inl ⟨by rfl, ?_⟩) hHeld ?_ ?_
        rotate_left
        ·rintro w' ⟨s0, s1, s2, s3, s4, s5, s6, s7⟩
         go_simp
         with_reducible rfl
        rotate_left
        ·simp only [Act.put, List.setIfInBounds_toArray, List.set_cons_zero, List.set_cons_succ, i64_w, i32_w]
         rfl
        refine take_ (i := 43) (N := some 90) (v := ?_) (a' := ?_) #[T_,T_,T_,T_,T_,T_,T_,T_,T_,T_,T_,T_,T_,T_,T_,T_,T_,T_,T_,T_,T_,T_,T_,T_,T_,T_,T_,T_,T_,T_,T_,T_,T_,T_,T_,T_,T_,T_,T_,T_,T_,T_,F_,T_,F_,F_,F_] rfl rfl (take_ofW HT_.out HW_.out (by kernel_rfl)) (fun _ _ _ h => h) (Or.inl ⟨by rfl, ?_⟩) hHeld ?_ ?_
        rotate_left
        ·rintro w' ⟨s0, s1, s2, s3, s4, s5, s6, s7⟩
         go_simp
         with_reducible rfl
        rotate_left
        ·simp only [Act.put, List.setIfInBounds_toArray, List.set_cons_zero, List.set_cons_succ, i64_w, i32_w]
         rfl
        refine one_ (i := 42) (N := some 89) #[T_,T_,T_,T_,T_,T_,T_,T_,T_,T_,T_,T_,T_,T_,T_,T_,T_,T_,T_,T_,T_,T_,T_,T_,T_,T_,T_,T_,T_,T_,T_,T_,T_,T_,T_,T_,T_,T_,T_,T_,T_,T_,T_,T_,F_,F_,F_] rfl rfl (one_of HT_.out (by kernel_rfl)) (by decide) (fun K hK => ?_)
        refine goes_ Try.func31 (by kernel_rfl) rfl #[.agg #[.int .i64 t389, .slice Ao59 t390.length co59]] (by rfl) rfl rfl (by (try simp only [List.map_toArray, List.map_cons, List.map_nil]); first | done | rfl | (simp only [List.length_drop, List.length_take]; rfl)) ?_
        with_reducible refine (impl_BitsFlip.calls kj6 t389 _ _ t390 t399 t400 _ ?side1 ?side2 A43.out).mono ?_
        (case side1 => repeat (first | exact (rR HO392.out).2.2 | (with_reducible refine cA ?_ _) | (with_reducible refine cN ?_ _) | (with_reducible refine cD ?_)))
        (case side2 => exact (rR HO392.out).2.1)
        rintro e w67 ⟨v401, rfl, ho0, hb⟩
        refine ⟨_, rfl, ?_⟩
        have n0_ := As.mk (rE (by (with_reducible repeat first | apply rA | apply rN | apply rD); exact HO_375001.out) (Kd.R_base ho0) hb)
        have n1_ := As.mk (rE (by (with_reducible repeat first | apply rA | apply rN | apply rD); exact HO_376001.out) (Kd.R_base ho0) hb)
        have n2_ := As.mk (rE (by (with_reducible repeat first | apply rA | apply rN | apply rD); exact HO_382001.out) (Kd.R_base ho0) hb)
        have n3_ := As.mk (rE (by (with_reducible repeat first | apply rA | apply rN | apply rD); exact HO_388001.out) (Kd.R_base ho0) hb)
        have n4_ := As.mk (rE (by (with_reducible repeat first | apply rA | apply rN | apply rD); exact HO392.out) (Kd.R_base ho0) hb)
        have n5_ := As.mk (rL (rW (rW (rW (rW (rW ho0 (Kd.R_lt (by (with_reducible repeat first | apply rA | apply rN | apply rD); exact HO_375001.out))) (Kd.R_lt (by (with_reducible repeat first | apply rA | apply rN | apply rD); exact HO_376001.out))) (Kd.R_lt (by (with_reducible repeat first | apply rA | apply rN | apply rD); exact HO_382001.out))) (Kd.R_lt (by (with_reducible repeat first | apply rA | apply rN | apply rD); exact HO_388001.out))) (Kd.R_lt (by (with_reducible repeat first | apply rA | apply rN | apply rD); exact HO392.out))) (bz (by repeat (first | (with_reducible first | exact HB.out | apply ba | apply bw | apply b1 | refine bs ?_ GE374.out | refine bs ?_ GE375.out | refine bs ?_ GE381.out | refine bs ?_ GE387.out | refine bs ?_ GE393.out) | exact HB.out))))
        have n6_ := As.mk (bb (g := gb374) (o := .cells #[.int .i64 t366, .slice Ao13 t367.length co13] 25 (0, 0)) (by (with_reducible repeat first | apply bN | apply bD | apply bA); exact BK374.out) hb)
        have n7_ := As.mk (bb (g := gb375) (o := .cells #[.int .i64 t370, .slice Ao15 t371.length co15] 25 (0, 0)) (by (with_reducible repeat first | apply bN | apply bD | apply bA); exact BK375.out) hb)
        have n8_ := As.mk (bb (g := gb381) (o := .cells #[.int .i64 t376, .slice Ao21 t377.length co21] 25 (0, 0)) (by (with_reducible repeat first | apply bN | apply bD | apply bA); exact BK381.out) hb)
        have n9_ := As.mk (bb (g := gb387) (o := .cells #[.int .i64 t382, .slice Ao30 t383.length co30] 25 (0, 0)) (by (with_reducible repeat first | apply bN | apply bD | apply bA); exact BK387.out) hb)
        have n10_ := As.mk (bb (g := gb393) (o := .cells #[.int .i64 t389, .slice Ao59 t390.length co59] 25 (0, 0)) (by (with_reducible repeat first | apply bN | apply bD | apply bA); exact BK393.out) hb)
        have n11_ := As.mk (bt (by repeat (first | (with_reducible first | exact HB.out | apply ba | apply bw | apply b1 | refine bs ?_ GE374.out | refine bs ?_ GE375.out | refine bs ?_ GE381.out | refine bs ?_ GE387.out | refine bs ?_ GE393.out) | exact HB.out)) hb)
        clear HO_375001
        clear HO_376001
        clear HO_382001
        clear HO_388001
        clear HO392
        clear BK374
        clear BK375
        clear BK381
        clear BK387
        clear BK393
        clear HB
        have HO_375001 := n0_
        have HO_376001 := n1_
        have HO_382001 := n2_
        have HO_388001 := n3_
        have HO392 := n4_
        have HO402 := n5_
        have BK374 := n6_
        have BK375 := n7_
        have BK381 := n8_
        have BK387 := n9_
        have BK393 := n10_
        have HB := n11_
        clear n0_ n1_ n2_ n3_ n4_ n5_ n6_ n7_ n8_ n9_ n10_ n11_
        (try clear hb)
        (try clear hb2)
        (try clear hk)
        (try clear hi)
        (try clear ho0)
        obtain ⟨Ao68, co68, eo68⟩ := rS HO402.out
        (first | subst eo68 | (injection eo68 with f1_ f2_ f3_; have f4_ := f1_.symm; have f5_ := f3_.symm; clear f1_ f2_ f3_; subst f4_; subst f5_))
        refine hK.out _ _ ⟨(blk_cell BK387.out 0).trans rfl, (blk_cell BK387.out 1).trans rfl, (blk_cell BK374.out 0).trans rfl, (blk_cell BK374.out 1).trans rfl, (blk_cell BK375.out 0).trans rfl, (blk_cell BK375.out 1).trans rfl, (blk_cell BK393.out 0).trans rfl, (blk_cell BK393.out 1).trans rfl⟩ (fun hHeld => ?_)
        clear hK K
        refine norm_ (a' := ?_) ?_ ?_
        rotate_left
        ·show Act.put _ (some 89) _ = _
         simp only [Act.put, List.setIfInBounds_toArray, List.set_cons_zero, List.set_cons_succ, i64_w, i32_w]
         rfl
        refine one_ (i := 44) (N := some 91) #[T_,T_,T_,T_,T_,T_,T_,T_,T_,T_,T_,T_,T_,T_,T_,T_,T_,T_,T_,T_,T_,T_,T_,T_,T_,T_,T_,T_,T_,T_,T_,T_,T_,T_,T_,T_,T_,T_,T_,T_,T_,T_,T_,T_,T_,F_,F_] rfl rfl (one_of HT_.out (by kernel_rfl)) (by decide) (fun K hK => ?_)
        refine goes_ Try.func42 (by kernel_rfl) rfl #[.agg #[.int .i64 t399, .slice Ao68 t400.length co68], .agg #[.int .i64 t382, .slice Ao30 t383.length co30]] (by rfl) rfl rfl (by (try simp only [List.map_toArray, List.map_cons, List.map_nil]); first | done | rfl | (simp only [List.length_drop, List.length_take]; rfl)) ?_
        with_reducible refine (laws_sameBits.calls kj6 t399 _ _ t400 t382 _ _ t383 t403 _ ?side1 ?side2 ?side3 ?side4 A44.out).mono ?_
        (case side1 => repeat (first | exact (rR HO402.out).2.2 | (with_reducible refine cA ?_ _) | (with_reducible refine cN ?_ _) | (with_reducible refine cD ?_)))
        (case side2 => exact (rR HO402.out).2.1)
        (case side3 => repeat (first | exact (rR HO_388001.out).2.2 | (with_reducible refine cA ?_ _) | (with_reducible refine cN ?_ _) | (with_reducible refine cD ?_)))
        (case side4 => exact (rR HO_388001.out).2.1)
        rintro e w69 ⟨rfl, hb⟩
        refine ⟨_, rfl, ?_⟩
        have n0_ := As.mk (rB (by (with_reducible repeat first | apply rA | apply rN | apply rD); exact HO_375001.out) hb)
        have n1_ := As.mk (rB (by (with_reducible repeat first | apply rA | apply rN | apply rD); exact HO_376001.out) hb)
        have n2_ := As.mk (rB (by (with_reducible repeat first | apply rA | apply rN | apply rD); exact HO_382001.out) hb)
        have n3_ := As.mk (rB (by (with_reducible repeat first | apply rA | apply rN | apply rD); exact HO_388001.out) hb)
        have n4_ := As.mk (rB (by (with_reducible repeat first | apply rA | apply rN | apply rD); exact HO392.out) hb)
        have n5_ := As.mk (rB (by (with_reducible repeat first | apply rA | apply rN | apply rD); exact HO402.out) hb)
        have n6_ := As.mk (bb (g := gb374) (o := .cells #[.int .i64 t366, .slice Ao13 t367.length co13] 25 (0, 0)) (by (with_reducible repeat first | apply bN | apply bD | apply bA); exact BK374.out) hb)
        have n7_ := As.mk (bb (g := gb375) (o := .cells #[.int .i64 t370, .slice Ao15 t371.length co15] 25 (0, 0)) (by (with_reducible repeat first | apply bN | apply bD | apply bA); exact BK375.out) hb)
        have n8_ := As.mk (bb (g := gb381) (o := .cells #[.int .i64 t376, .slice Ao21 t377.length co21] 25 (0, 0)) (by (with_reducible repeat first | apply bN | apply bD | apply bA); exact BK381.out) hb)
        have n9_ := As.mk (bb (g := gb387) (o := .cells #[.int .i64 t382, .slice Ao30 t383.length co30] 25 (0, 0)) (by (with_reducible repeat first | apply bN | apply bD | apply bA); exact BK387.out) hb)
        have n10_ := As.mk (bb (g := gb393) (o := .cells #[.int .i64 t389, .slice Ao59 t390.length co59] 25 (0, 0)) (by (with_reducible repeat first | apply bN | apply bD | apply bA); exact BK393.out) hb)
        have n11_ := As.mk (bt (by repeat (first | (with_reducible first | exact HB.out | apply ba | apply bw | apply b1 | refine bs ?_ GE374.out | refine bs ?_ GE375.out | refine bs ?_ GE381.out | refine bs ?_ GE387.out | refine bs ?_ GE393.out) | exact HB.out)) hb)
        clear HO_375001
        clear HO_376001
        clear HO_382001
        clear HO_388001
        clear HO392
        clear HO402
        clear BK374
        clear BK375
        clear BK381
        clear BK387
        clear BK393
        clear HB
        have HO_375001 := n0_
        have HO_376001 := n1_
        have HO_382001 := n2_
        have HO_388001 := n3_
        have HO392 := n4_
        have HO402 := n5_
        have BK374 := n6_
        have BK375 := n7_
        have BK381 := n8_
        have BK387 := n9_
        have BK393 := n10_
        have HB := n11_
        clear n0_ n1_ n2_ n3_ n4_ n5_ n6_ n7_ n8_ n9_ n10_ n11_
        (try clear hb)
        (try clear hb2)
        (try clear hk)
        (try clear hi)
        refine hK.out _ _ ⟨(blk_cell BK387.out 0).trans rfl, (blk_cell BK387.out 1).trans rfl, (blk_cell BK374.out 0).trans rfl, (blk_cell BK374.out 1).trans rfl, (blk_cell BK375.out 0).trans rfl, (blk_cell BK375.out 1).trans rfl, (blk_cell BK393.out 0).trans rfl, (blk_cell BK393.out 1).trans rfl⟩ (fun hHeld => ?_)
        clear hK K
        refine norm_ (a' := ?_) ?_ ?_
        rotate_left
        ·show Act.put _ (some 91) _ = _
         simp only [Act.put, List.setIfInBounds_toArray, List.set_cons_zero, List.set_cons_succ, i64_w, i32_w]
         rfl
        refine pure_ (i := 45) (N := some 92) (v := ?_) (a' := ?_) #[T_,T_,T_,T_,T_,T_,T_,T_,T_,T_,T_,T_,T_,T_,T_,T_,T_,T_,T_,T_,T_,T_,T_,T_,T_,T_,T_,T_,T_,T_,T_,T_,T_,T_,T_,T_,T_,T_,T_,T_,T_,T_,T_,T_,T_,T_,F_] rfl rfl (any_of HT_.out (by kernel_rfl)) (fun _ _ _ h => h) (Or.inl ⟨by rfl, ?_⟩) ?_ ?_
        rotate_left
        ·intro w'
         go_simp
         with_reducible rfl
        rotate_left
        ·simp only [Act.put, List.setIfInBounds_toArray, List.set_cons_zero, List.set_cons_succ, i64_w, i32_w]
         rfl
        refine pure_ (i := 46) (N := some 2) (v := ?_) (a' := ?_) #[T_,T_,T_,T_,T_,T_,T_,T_,T_,T_,T_,T_,T_,T_,T_,T_,T_,T_,T_,T_,T_,T_,T_,T_,T_,T_,T_,T_,T_,T_,T_,T_,T_,T_,T_,T_,T_,T_,T_,T_,T_,T_,T_,T_,T_,T_,T_] rfl rfl (any_of HT_.out (by kernel_rfl)) (fun _ _ _ h => h) (Or.inl ⟨by rfl, ?_⟩) ?_ ?_
        rotate_left
        ·intro w'
         go_simp
         with_reducible rfl
        rotate_left
        ·simp only [Act.put, List.setIfInBounds_toArray, List.set_cons_zero, List.set_cons_succ, i64_w, i32_w]
         rfl
        refine done_ (done_of HT_.out (by kernel_rfl)) ?_
        try go_wp2
        go_ret
        exact ⟨by first | rfl | (simp [errW_none, errW_some] <;> rfl) | (simp [*, errW_none, errW_some] <;> rfl), by repeat (first | (with_reducible first | exact HB.out | apply ba | apply bw | apply b1 | refine bs ?_ GE374.out | refine bs ?_ GE375.out | refine bs ?_ GE381.out | refine bs ?_ GE387.out | refine bs ?_ GE393.out) | exact HB.out)⟩
       ·rw [if_neg c42] at H
        have c42b0 : (t397 == t398) = false := beq_eq_false_iff_ne.mpr c42
        have c42b1 : (t397 != t398) = true := bne_iff_ne.mpr c42
        exact absurd ((Option.some.inj H).trans HRT_.out) (by decide)
      ·rw [if_neg c39] at H
       have c39b0 : (t394 == (wrap64 (t395 + t396))) = false := beq_eq_false_iff_ne.mpr c39
       have c39b1 : (t394 != (wrap64 (t395 + t396))) = true := bne_iff_ne.mpr c39
       exact absurd ((Option.some.inj H).trans HRT_.out) (by decide)
     ·rw [if_neg c35] at H
      have c35b0 : (t382 == (wrap64 (t366 + t370))) = false := beq_eq_false_iff_ne.mpr c35
      have c35b1 : (t382 != (wrap64 (t366 + t370))) = true := bne_iff_ne.mpr c35
      exact absurd ((Option.some.inj H).trans HRT_.out) (by decide)

/-- THE ONE PURE STATEMENT of laws_FnBitsJoin: yours. -/
def laws_FnBitsJoin.Pure : Prop := ∀ (l0 : List Int), l0.length ≤ maxLen → l0.length * 1 ≤ 140737488351232 → (∀ x ∈ l0, (Lit.int .u8 x).wf = true) → ∃ k, laws_FnBitsJoin.f k l0 = some true
theorem laws_FnBitsJoin.walk (P : laws_FnBitsJoin.Pure) (a0 : Option Addr) (len0 cap0 : Nat) (z0 : List Int) (w : World) (w0 : (a0 = none ∧ len0 = 0 ∧ cap0 = 0 ∧ z0 = []) ∨ ∃ x, a0 = some x ∧ len0 ≤ cap0 ∧ cap0 ≤ maxLen ∧ z0.length = cap0 ∧ (∀ i, i < z0.length → w.cell? (x.add i) = some (.int .u8 (z0.getD i 0))) ∧ ∀ n ∈ z0, (Lit.int .u8 n).wf = true) (y0 : len0 * 1 ≤ 140737488351232) :
  Calls Try.prog 12 #[.slice a0 len0 cap0] w fun e w' => e = .returned (.bool true) ∧ Below w.heap.size w w' := by
 obtain ⟨l0, rfl, hr0, hm0, hw0, hc0⟩ := ReadsInt.ofRowC w0
 obtain ⟨k, h⟩ := P l0 hm0 y0 hw0
 refine (laws_FnBitsJoin.calls k _ _ l0 true w (Kd.C_of_reads (d := (0 : Int)) (h1 := fun _ => rfl) hr0) hc0 rfl h).mono ?_
 rintro e w' ⟨rfl, hd⟩
 exact ⟨rfl, hd⟩

end Go.Proofs.Ytcbhepghmmbdmaa.QFnBitsJoin
