-- WRITTEN BY A PROGRAM OF THIS SESSION (wip/tools/print2.py) out of Lean's own print of the loaded program; Lean checks every row.
import Derived.Test.YteckcjjkblkfkaaQFnExactWaveOfx0
import Derived.Test.YteckcjjkblkfkaaQFnExactWaveOfx1
import Derived.Test.YteckcjjkblkfkaaQFnExactWaveOfx3
import Derived.Test.YteckcjjkblkfkaaQFnExactWaveOfx5
import Derived.Test.YteckcjjkblkfkaaQFnExactWaveOfx6
import Derived.Test.YteckcjjkblkfkaaQFnExactWaveOfx7
namespace Go.Proofs.Yteckcjjkblkfkaa.QFnExactWaveOf
open Go.RowKit Go.Proofs.YteckcjjkblkfkaaW.PrintWords Go.Proofs.YteckcjjkblkfkaaW.PrintLast Go.Proofs.YteckcjjkblkfkaaW.PrintMore
attribute [local go_sem] max2_int min2_int max_two min_two max_three min_three max_four min_four   -- for this text's walks alone
set_option linter.unusedVariables false
set_option linter.unusedSimpArgs false

theorem split_rows {α β : Type} {d : Kd α} {d' : Kd β} {e e' base : Nat} {ok ok' : Nat → Prop} {W w1 : World} {u v : Value} {xs : List α} {ys : List β} (hb : Below W.heap.size W w1) (h2 : Kd.S d' e' w1 W.heap.size ok' u ys) (h1 : Kd.S d e W base ok v xs) :
  ∃ N : Nat, Kd.S d e w1 base (fun k => (ok k ∧ some k ≠ u.ownBlock) ∧ k < N) v xs ∧ Kd.S d' e' w1 W.heap.size (fun k => ok' k ∧ N ≤ k) u ys :=
 ⟨W.heap.size, Kd.S_mono (Kd.S_elder' (Kd.S_mono (ok' := fun k => ok k ∧ k < W.heap.size) (Kd.S_bound h1) (fun k hk => ⟨hk.1, hk.2.2.1⟩)) (Kd.S_base h2) hb) (fun k hk => ⟨⟨hk.1.1, hk.2⟩, hk.1.2⟩), Kd.S_mono (Kd.S_bound h2) (fun k hk => ⟨hk.1, hk.2.1⟩)⟩
/-! ### laws_FnExactWaveOf: function 9 -/
mutual
def laws_FnExactWaveOf.j0 : Nat → List Int → Bool → List Int → Bool → Bool → Int → List Int → List (S29) → Int → List Int → List (S29) → Option (Bool)
 | 0, _, _, _, _, _, _, _, _, _, _, _ => none
 | k + 1, x0, x4, x5, x7, x37, x261000, x261001, x261002, x273000, x273001, x273002 => if x37 = true then (some false) else ((laws_toIntS.f k x0).bind fun t274 => ((laws_eqIntS.f k x5 t274).bind fun t277 => (if t277 = true then ((laws_markIntS.f k x5 1).bind fun bt278 => (if bt278.1 < 0 then (laws_FnExactWaveOf.j1 k x0 x4 true x261000 x261001 x261002 x273000 x273001 x273002) else ((laws_eqWave.f k x273000 x273001 x273002 x261000 x261001 x261002).bind fun t280 => (if t280 = true then (laws_FnExactWaveOf.j1 k x0 x4 (x7 != x4) x261000 x261001 x261002 x273000 x273001 x273002) else (laws_FnExactWaveOf.j1 k x0 x4 true x261000 x261001 x261002 x273000 x273001 x273002))))) else (some false))))
def laws_FnExactWaveOf.j1 : Nat → List Int → Bool → Bool → Int → List Int → List (S29) → Int → List Int → List (S29) → Option (Bool)
 | 0, _, _, _, _, _, _, _, _, _ => none
 | k + 1, x0, x4, x58, x261000, x261001, x261002, x273000, x273001, x273002 => if x58 = true then (some false) else ((laws_markWave.f k x273000 x273001 x273002 1).bind fun bt281 => ((laws_heldWave.f k x273000 bt281.2.1 bt281.2.2 1).bind fun t284 => (if t284 < 0 then (some false) else (if t284 = bt281.1 then ((laws_toIntS.f k x0).bind fun t285 => ((impl_WaveOf.f k t285).bind fun bt288 => ((laws_eqWave.f k bt288.1 bt288.2.1 bt288.2.2.1 x261000 x261001 x261002).bind fun t297 => (if t297 = true then (laws_FnExactWaveOf.j2 k bt281.1 (bt288.2.2.2 != x4) x273000 bt281.2.1 bt281.2.2) else (laws_FnExactWaveOf.j2 k bt281.1 true x273000 bt281.2.1 bt281.2.2))))) else (some false)))))
def laws_FnExactWaveOf.j2 : Nat → Int → Bool → Int → List Int → List (S29) → Option (Bool)
 | 0, _, _, _, _, _ => none
 | k + 1, x9, x84, x273000, x273001, x273002 => if x84 = true then (some false) else ((laws_heldWave.f k x273000 x273001 x273002 1).bind fun t298 => (if t298 < 0 then (some false) else (if t298 = x9 then (some true) else (some false))))
end
def laws_FnExactWaveOf.f (k : Nat) (l0 : List Int) : Option (Bool) := if (l0.length : Int) > 1048576 then (some true) else ((laws_toIntS.f k l0).bind fun t249 => ((spec_WaveOf.f k t249).bind fun bt252 => ((laws_toIntS.f k l0).bind fun t261 => ((impl_WaveOf.f k t261).bind fun bt264 => ((laws_eqWave.f k bt264.1 bt264.2.1 bt264.2.2.1 bt252.1 bt252.2.1 bt252.2.2.1).bind fun t273 => (if t273 = true then (laws_FnExactWaveOf.j0 k l0 bt252.2.2.2 t261 bt264.2.2.2 (bt264.2.2.2 != bt252.2.2.2) bt252.1 bt252.2.1 bt252.2.2.1 bt264.1 bt264.2.1 bt264.2.2.1) else (laws_FnExactWaveOf.j0 k l0 bt252.2.2.2 t261 bt264.2.2.2 true bt252.1 bt252.2.1 bt252.2.2.1 bt264.1 bt264.2.1 bt264.2.2.1)))))))
theorem laws_FnExactWaveOf.mono_l : ∀ k, (∀ y0 y1 y2 y3 y4 y5 y6 y7 y8 y9 y10, LeO (laws_FnExactWaveOf.j0 k y0 y1 y2 y3 y4 y5 y6 y7 y8 y9 y10) (laws_FnExactWaveOf.j0 (k + 1) y0 y1 y2 y3 y4 y5 y6 y7 y8 y9 y10)) ∧ (∀ y0 y1 y2 y3 y4 y5 y6 y7 y8, LeO (laws_FnExactWaveOf.j1 k y0 y1 y2 y3 y4 y5 y6 y7 y8) (laws_FnExactWaveOf.j1 (k + 1) y0 y1 y2 y3 y4 y5 y6 y7 y8)) ∧ (∀ y0 y1 y2 y3 y4, LeO (laws_FnExactWaveOf.j2 k y0 y1 y2 y3 y4) (laws_FnExactWaveOf.j2 (k + 1) y0 y1 y2 y3 y4))
 | 0 => ⟨fun _ _ _ _ _ _ _ _ _ _ _ r h => by simp [laws_FnExactWaveOf.j0] at h, fun _ _ _ _ _ _ _ _ _ r h => by simp [laws_FnExactWaveOf.j1] at h, fun _ _ _ _ _ r h => by simp [laws_FnExactWaveOf.j2] at h⟩
 | k + 1 => by
  obtain ⟨ih0, ih1, ih2⟩ := laws_FnExactWaveOf.mono_l k
  refine ⟨?_, ?_, ?_⟩
  ·intro y0 y1 y2 y3 y4 y5 y6 y7 y8 y9 y10
   unfold laws_FnExactWaveOf.j0
   repeat' first
   | (with_reducible exact ih0 _ _ _ _ _ _ _ _ _ _ _)
   | (with_reducible exact ih1 _ _ _ _ _ _ _ _ _)
   | (with_reducible exact ih2 _ _ _ _ _)
   | (with_reducible exact impl_WaveOf.mono _ _)
   | (with_reducible exact laws_eqIntS.mono _ _ _)
   | (with_reducible exact laws_eqWave.mono _ _ _ _ _ _ _)
   | (with_reducible exact laws_heldWave.mono _ _ _ _ _)
   | (with_reducible exact laws_markIntS.mono _ _ _)
   | (with_reducible exact laws_markWave.mono _ _ _ _ _)
   | (with_reducible exact laws_toIntS.mono _ _)
   | (with_reducible exact spec_WaveOf.mono _ _)
   | (with_reducible exact LeO.refl _)
   | (with_reducible exact LeO.none _)
   | (with_reducible refine LeO.ite ?_ ?_)
   | (with_reducible refine LeO.bind ?_ (fun _ => ?_))
   | exact ih0 _ _ _ _ _ _ _ _ _ _ _
   | exact ih1 _ _ _ _ _ _ _ _ _
   | exact ih2 _ _ _ _ _
   | exact impl_WaveOf.mono _ _
   | exact laws_eqIntS.mono _ _ _
   | exact laws_eqWave.mono _ _ _ _ _ _ _
   | exact laws_heldWave.mono _ _ _ _ _
   | exact laws_markIntS.mono _ _ _
   | exact laws_markWave.mono _ _ _ _ _
   | exact laws_toIntS.mono _ _
   | exact spec_WaveOf.mono _ _
   | exact LeO.none _
   | refine LeO.ite ?_ ?_
   | refine LeO.bind ?_ (fun _ => ?_)
  ·intro y0 y1 y2 y3 y4 y5 y6 y7 y8
   unfold laws_FnExactWaveOf.j1
   repeat' first
   | (with_reducible exact ih0 _ _ _ _ _ _ _ _ _ _ _)
   | (with_reducible exact ih1 _ _ _ _ _ _ _ _ _)
   | (with_reducible exact ih2 _ _ _ _ _)
   | (with_reducible exact impl_WaveOf.mono _ _)
   | (with_reducible exact laws_eqIntS.mono _ _ _)
   | (with_reducible exact laws_eqWave.mono _ _ _ _ _ _ _)
   | (with_reducible exact laws_heldWave.mono _ _ _ _ _)
   | (with_reducible exact laws_markIntS.mono _ _ _)
   | (with_reducible exact laws_markWave.mono _ _ _ _ _)
   | (with_reducible exact laws_toIntS.mono _ _)
   | (with_reducible exact spec_WaveOf.mono _ _)
   | (with_reducible exact LeO.refl _)
   | (with_reducible exact LeO.none _)
   | (with_reducible refine LeO.ite ?_ ?_)
   | (with_reducible refine LeO.bind ?_ (fun _ => ?_))
   | exact ih0 _ _ _ _ _ _ _ _ _ _ _
   | exact ih1 _ _ _ _ _ _ _ _ _
   | exact ih2 _ _ _ _ _
   | exact impl_WaveOf.mono _ _
   | exact laws_eqIntS.mono _ _ _
   | exact laws_eqWave.mono _ _ _ _ _ _ _
   | exact laws_heldWave.mono _ _ _ _ _
   | exact laws_markIntS.mono _ _ _
   | exact laws_markWave.mono _ _ _ _ _
   | exact laws_toIntS.mono _ _
   | exact spec_WaveOf.mono _ _
   | exact LeO.none _
   | refine LeO.ite ?_ ?_
   | refine LeO.bind ?_ (fun _ => ?_)
  ·intro y0 y1 y2 y3 y4
   unfold laws_FnExactWaveOf.j2
   repeat' first
   | (with_reducible exact ih0 _ _ _ _ _ _ _ _ _ _ _)
   | (with_reducible exact ih1 _ _ _ _ _ _ _ _ _)
   | (with_reducible exact ih2 _ _ _ _ _)
   | (with_reducible exact impl_WaveOf.mono _ _)
   | (with_reducible exact laws_eqIntS.mono _ _ _)
   | (with_reducible exact laws_eqWave.mono _ _ _ _ _ _ _)
   | (with_reducible exact laws_heldWave.mono _ _ _ _ _)
   | (with_reducible exact laws_markIntS.mono _ _ _)
   | (with_reducible exact laws_markWave.mono _ _ _ _ _)
   | (with_reducible exact laws_toIntS.mono _ _)
   | (with_reducible exact spec_WaveOf.mono _ _)
   | (with_reducible exact LeO.refl _)
   | (with_reducible exact LeO.none _)
   | (with_reducible refine LeO.ite ?_ ?_)
   | (with_reducible refine LeO.bind ?_ (fun _ => ?_))
   | exact ih0 _ _ _ _ _ _ _ _ _ _ _
   | exact ih1 _ _ _ _ _ _ _ _ _
   | exact ih2 _ _ _ _ _
   | exact impl_WaveOf.mono _ _
   | exact laws_eqIntS.mono _ _ _
   | exact laws_eqWave.mono _ _ _ _ _ _ _
   | exact laws_heldWave.mono _ _ _ _ _
   | exact laws_markIntS.mono _ _ _
   | exact laws_markWave.mono _ _ _ _ _
   | exact laws_toIntS.mono _ _
   | exact spec_WaveOf.mono _ _
   | exact LeO.none _
   | refine LeO.ite ?_ ?_
   | refine LeO.bind ?_ (fun _ => ?_)
theorem laws_FnExactWaveOf.mono : ∀ a0 k, LeO (laws_FnExactWaveOf.f k a0) (laws_FnExactWaveOf.f (k + 1) a0) := by
 intro a0 k
 obtain ⟨ih0, ih1, ih2⟩ := laws_FnExactWaveOf.mono_l k
 unfold laws_FnExactWaveOf.f
 repeat' first
   | (with_reducible exact ih0 _ _ _ _ _ _ _ _ _ _ _)
   | (with_reducible exact ih1 _ _ _ _ _ _ _ _ _)
   | (with_reducible exact ih2 _ _ _ _ _)
   | (with_reducible exact impl_WaveOf.mono _ _)
   | (with_reducible exact laws_eqIntS.mono _ _ _)
   | (with_reducible exact laws_eqWave.mono _ _ _ _ _ _ _)
   | (with_reducible exact laws_heldWave.mono _ _ _ _ _)
   | (with_reducible exact laws_markIntS.mono _ _ _)
   | (with_reducible exact laws_markWave.mono _ _ _ _ _)
   | (with_reducible exact laws_toIntS.mono _ _)
   | (with_reducible exact spec_WaveOf.mono _ _)
   | (with_reducible exact LeO.refl _)
   | (with_reducible exact LeO.none _)
   | (with_reducible refine LeO.ite ?_ ?_)
   | (with_reducible refine LeO.bind ?_ (fun _ => ?_))
   | exact ih0 _ _ _ _ _ _ _ _ _ _ _
   | exact ih1 _ _ _ _ _ _ _ _ _
   | exact ih2 _ _ _ _ _
   | exact impl_WaveOf.mono _ _
   | exact laws_eqIntS.mono _ _ _
   | exact laws_eqWave.mono _ _ _ _ _ _ _
   | exact laws_heldWave.mono _ _ _ _ _
   | exact laws_markIntS.mono _ _ _
   | exact laws_markWave.mono _ _ _ _ _
   | exact laws_toIntS.mono _ _
   | exact spec_WaveOf.mono _ _
   | exact LeO.none _
   | refine LeO.ite ?_ ?_
   | refine LeO.bind ?_ (fun _ => ?_)
set_option maxHeartbeats 8000000 in
set_option maxRecDepth 100000 in
theorem laws_FnExactWaveOf.calls (k : Nat) (A0 : Option Addr) (c0 : Nat) (l0 : List Int) (r : Bool) (w : World) (hr0 : Kd.C (Kd.int .i64) w A0 l0.length l0) (hc0 : l0.length ≤ c0) (hr_ : r = true) (h : laws_FnExactWaveOf.f k l0 = some r) :
  Calls Try.prog 9 #[.slice A0 l0.length c0] w fun e w' => e = .returned (.bool r) ∧ Below w.heap.size w w' := by
 have HRT_ := Aside0.mk hr_
 clear hr_
 have hu58 := Try.underlying58
 have HR0 := Aside0.mk hr0
 have HC0 := Aside0.mk hc0
 clear hr0 hc0
 have HB := Aside0.mk (Below.refl w.heap.size w)
 have H : (if (l0.length : Int) > 1048576 then (some true) else ((laws_toIntS.f k l0).bind fun t249 => ((spec_WaveOf.f k t249).bind fun bt252 => ((laws_toIntS.f k l0).bind fun t261 => ((impl_WaveOf.f k t261).bind fun bt264 => ((laws_eqWave.f k bt264.1 bt264.2.1 bt264.2.2.1 bt252.1 bt252.2.1 bt252.2.2.1).bind fun t273 => (if t273 = true then (laws_FnExactWaveOf.j0 k l0 bt252.2.2.2 t261 bt264.2.2.2 (bt264.2.2.2 != bt252.2.2.2) bt252.1 bt252.2.1 bt252.2.2.1 bt264.1 bt264.2.1 bt264.2.2.1) else (laws_FnExactWaveOf.j0 k l0 bt252.2.2.2 t261 bt264.2.2.2 true bt252.1 bt252.2.1 bt252.2.2.1 bt264.1 bt264.2.1 bt264.2.2.1)))))))) = some r := h
 clear h
 by_cases c2 : (l0.length : Int) > 1048576
 ·rw [if_pos c2] at H
  have c2b0 : decide (1048576 < (l0.length : Int)) = true := decide_eq_true c2
  have c2b1 : decide (1048576 < l0.length) = true := decide_eq_true (by omega)
  clear c2
  obtain rfl := Option.some.inj H
  go_enter Try.func9, Try.ntmps9
  go_wp2
  go_ret
  exact ⟨by first | rfl | (simp [errW_none, errW_some] <;> rfl) | (simp [*, errW_none, errW_some] <;> rfl), by repeat (first | (with_reducible first | exact HB.out | apply below_alloc | apply pw_below_drewN | apply below_drew1) | exact HB.out)⟩
 ·rw [if_neg c2] at H
  have c2b0 : decide (1048576 < (l0.length : Int)) = false := decide_eq_false c2
  have c2b1 : decide (1048576 < l0.length) = false := decide_eq_false (by omega)
  clear c2
  replace H := Option.bind_eq_some_iff.mp H
  obtain ⟨t249, A30, H⟩ := H
  replace H : ((spec_WaveOf.f k t249).bind fun bt252 => ((laws_toIntS.f k l0).bind fun t261 => ((impl_WaveOf.f k t261).bind fun bt264 => ((laws_eqWave.f k bt264.1 bt264.2.1 bt264.2.2.1 bt252.1 bt252.2.1 bt252.2.2.1).bind fun t273 => (if t273 = true then (laws_FnExactWaveOf.j0 k l0 bt252.2.2.2 t261 bt264.2.2.2 (bt264.2.2.2 != bt252.2.2.2) bt252.1 bt252.2.1 bt252.2.2.1 bt264.1 bt264.2.1 bt264.2.2.1) else (laws_FnExactWaveOf.j0 k l0 bt252.2.2.2 t261 bt264.2.2.2 true bt252.1 bt252.2.1 bt252.2.2.1 bt264.1 bt264.2.1 bt264.2.2.1)))))) = some r := H
  have A3 := Aside0.mk A30
  clear A30
  replace H := Option.bind_eq_some_iff.mp H
  obtain ⟨⟨t252, t253, t256, t259⟩, A40, H⟩ := H
  replace H : ((laws_toIntS.f k l0).bind fun t261 => ((impl_WaveOf.f k t261).bind fun bt264 => ((laws_eqWave.f k bt264.1 bt264.2.1 bt264.2.2.1 t252 t253 t256).bind fun t273 => (if t273 = true then (laws_FnExactWaveOf.j0 k l0 t259 t261 bt264.2.2.2 (bt264.2.2.2 != t259) t252 t253 t256 bt264.1 bt264.2.1 bt264.2.2.1) else (laws_FnExactWaveOf.j0 k l0 t259 t261 bt264.2.2.2 true t252 t253 t256 bt264.1 bt264.2.1 bt264.2.2.1))))) = some r := H
  have A4 := Aside0.mk A40
  clear A40
  replace H := Option.bind_eq_some_iff.mp H
  obtain ⟨t261, A50, H⟩ := H
  replace H : ((impl_WaveOf.f k t261).bind fun bt264 => ((laws_eqWave.f k bt264.1 bt264.2.1 bt264.2.2.1 t252 t253 t256).bind fun t273 => (if t273 = true then (laws_FnExactWaveOf.j0 k l0 t259 t261 bt264.2.2.2 (bt264.2.2.2 != t259) t252 t253 t256 bt264.1 bt264.2.1 bt264.2.2.1) else (laws_FnExactWaveOf.j0 k l0 t259 t261 bt264.2.2.2 true t252 t253 t256 bt264.1 bt264.2.1 bt264.2.2.1)))) = some r := H
  have A5 := Aside0.mk A50
  clear A50
  replace H := Option.bind_eq_some_iff.mp H
  obtain ⟨⟨t264, t265, t268, t271⟩, A60, H⟩ := H
  replace H : ((laws_eqWave.f k t264 t265 t268 t252 t253 t256).bind fun t273 => (if t273 = true then (laws_FnExactWaveOf.j0 k l0 t259 t261 t271 (t271 != t259) t252 t253 t256 t264 t265 t268) else (laws_FnExactWaveOf.j0 k l0 t259 t261 t271 true t252 t253 t256 t264 t265 t268))) = some r := H
  have A6 := Aside0.mk A60
  clear A60
  have HC7 := Aside0.mk H
  clear H
  go_enter Try.func9, Try.ntmps9
  go_upto_region 6 with (first | ((with_reducible refine gate_callee (f := 18) rfl ?_); refine goesL_ (some 18) rfl rfl Try.func18 (by kernel_rfl) rfl #[.slice A0 l0.length c0] rfl (by (try simp only [List.map_toArray, List.map_cons, List.map_nil]); first | done | rfl | (simp only [List.length_drop, List.length_take]; rfl)) ?_; (with_reducible refine (laws_toIntS.calls k _ _ l0 t249 _ ?side1 ?side2 A3.out).mono ?_); (case side1 => repeat (first | exact HR0.out | (with_reducible refine Kd.C_alloc ?_ _) | (with_reducible refine Kd.C_drewN ?_ _) | (with_reducible refine Kd.C_drew ?_))); (case side2 => exact HC0.out); rintro e w8 ⟨v250, rfl, ho0, hb⟩; refine ⟨_, rfl, ?_⟩; have n0_ := Aside0.mk (Kd.R_lower ho0 (below_size (by repeat (first | (with_reducible first | exact HB.out | apply below_alloc | apply pw_below_drewN | apply below_drew1) | exact HB.out)))); have n1_ := Aside0.mk (below_step (by repeat (first | (with_reducible first | exact HB.out | apply below_alloc | apply pw_below_drewN | apply below_drew1) | exact HB.out)) hb); clear HB; have HO251 := n0_; have HB := n1_; clear n0_ n1_; (try clear hb); (try clear hb2); (try clear hk); (try clear hi); (try clear ho0); obtain ⟨Ao9, co9, eo9⟩ := Kd.R_slice HO251.out; subst eo9) | ((with_reducible refine gate_callee (f := 36) rfl ?_); refine goesL_ (some 19) rfl rfl Try.func36 (by kernel_rfl) rfl #[.slice Ao9 t249.length co9] rfl (by (try simp only [List.map_toArray, List.map_cons, List.map_nil]); first | done | rfl | (simp only [List.length_drop, List.length_take]; rfl)) ?_; (with_reducible refine (spec_WaveOf.calls k _ _ t249 t252 t253 t256 t259 _ ?side1 ?side2 A4.out).mono ?_); (case side1 => repeat (first | exact (Kd.R_reads' HO251.out).2.2 | (with_reducible refine Kd.C_alloc ?_ _) | (with_reducible refine Kd.C_drewN ?_ _) | (with_reducible refine Kd.C_drew ?_))); (case side2 => exact (Kd.R_reads' HO251.out).2.1); rintro e w10 ⟨v254, v257, rfl, ho0, ho1, hb⟩; refine ⟨_, rfl, ?_⟩; have n0_ := Aside0.mk (Kd.R_elder' (by (with_reducible repeat (first | apply Kd.R_alloc | apply Kd.R_drewN | apply Kd.R_drew)); exact HO251.out) (Kd.R_base ho0) hb); have n1_ := Aside0.mk (Kd.R_lower (Kd.R_new' ho0 (Kd.R_lt (by (with_reducible repeat (first | apply Kd.R_alloc | apply Kd.R_drewN | apply Kd.R_drew)); exact HO251.out))) (below_size (by repeat (first | (with_reducible first | exact HB.out | apply below_alloc | apply pw_below_drewN | apply below_drew1) | exact HB.out)))); have n2_ := Aside0.mk (Kd.S_lower ho1 (below_size (by repeat (first | (with_reducible first | exact HB.out | apply below_alloc | apply pw_below_drewN | apply below_drew1) | exact HB.out)))); have n3_ := Aside0.mk (below_step (by repeat (first | (with_reducible first | exact HB.out | apply below_alloc | apply pw_below_drewN | apply below_drew1) | exact HB.out)) hb); clear HO251; clear HB; have HO251 := n0_; have HO255 := n1_; have HO258 := n2_; have HB := n3_; clear n0_ n1_ n2_ n3_; (try clear hb); (try clear hb2); (try clear hk); (try clear hi); (try clear ho0); (try clear ho1)) | ((with_reducible refine gate_dst (N := 3) rfl ?_); refine box_event ?hg (N := 3) ?hd (cs := #[.int .i64 0, .slice none 0 0, .slice none 0 0]) (t := 58) ?hr ?_; (case hd => rfl); (case hg => rfl); (case hr => first | (go_simp; done) | (go_simp; rfl)); intro gb260 hg w11 hbox hb; have n0_ := Aside0.mk (Kd.R_below (by (with_reducible repeat (first | apply Kd.R_alloc | apply Kd.R_drewN | apply Kd.R_drew)); exact HO251.out) hb); have n1_ := Aside0.mk (Kd.R_below (by (with_reducible repeat (first | apply Kd.R_alloc | apply Kd.R_drewN | apply Kd.R_drew)); exact HO255.out) hb); have n2_ := Aside0.mk (Kd.S_below (by (with_reducible repeat (first | apply Kd.S_alloc | apply Kd.S_drewN | apply Kd.S_drew)); exact HO258.out) hb); have n3_ := Aside0.mk (below_step (by repeat (first | (with_reducible first | exact HB.out | apply below_alloc | apply pw_below_drewN | apply below_drew1) | exact HB.out)) hb); have n4_ := Aside0.mk (hbox); have n5_ := Aside0.mk ((by rw [hg]; exact (below_size (by repeat (first | (with_reducible first | exact HB.out | apply below_alloc | apply pw_below_drewN | apply below_drew1) | exact HB.out))) : w.heap.size ≤ gb260)); have n6_ := Aside0.mk ((by rw [hg]; exact (below_size (by repeat (first | (with_reducible first | exact HB.out | apply below_alloc | apply pw_below_drewN | apply below_drew1) | exact HB.out))) : w.heap.size ≤ gb260)); clear HO251; clear HO255; clear HO258; clear HB; have HO251 := n0_; have HO255 := n1_; have HO258 := n2_; have HB := n3_; have BK260 := n4_; have GW260 := n5_; have GE260 := n6_; clear n0_ n1_ n2_ n3_ n4_ n5_ n6_; clear hb hbox hg; have hcz12_0 : w11.cell? ⟨gb260, 0, none⟩ = some (.int .i64 0) := (blk_cell BK260.out 0).trans rfl; have hcz12_1 : w11.cell? ⟨gb260, 1, none⟩ = some (.slice none 0 0) := (blk_cell BK260.out 1).trans rfl; have hcz12_2 : w11.cell? ⟨gb260, 2, none⟩ = some (.slice none 0 0) := (blk_cell BK260.out 2).trans rfl; have hfz12_0 := blk_frozen BK260.out 0; have hfz12_1 := blk_frozen BK260.out 1; have hfz12_2 := blk_frozen BK260.out 2; obtain ⟨Ao13, co13, eo13⟩ := Kd.R_slice HO255.out; subst eo13; obtain ⟨Ao14, co14, eo14⟩ := Kd.S_slice HO258.out; subst eo14) | ((with_reducible refine gate_store (t := 58) (p := 3) rfl ?_); refine store_event (t := 58) (p := 3) (v := ?vo_w15) (w1 := (((w11.setCell ⟨gb260, 0, none⟩ (.int .i64 t252)).setCell ⟨gb260, 1, none⟩ (.slice Ao13 t253.length co13)).setCell ⟨gb260, 2, none⟩ (.slice Ao14 t256.length co14))) ?hg ?ho ?hn ?hr ?_; (case ho => rfl); (case hg => rfl); (case hn => rfl); (case hr => first | (go_simp; done) | (go_simp; rfl)); intro w15 hw; have n0_ : Aside0 (Kd.R (Kd.int .i64) 3 w15 w.heap.size (fun k_ => some k_ ≠ (.slice Ao13 t253.length co13 : Value).ownBlock) (.slice Ao9 t249.length co9) t249) := ⟨(by rw [hw]; exact (by (with_reducible repeat (first | apply Kd.R_alloc | apply Kd.R_drewN | apply Kd.R_drew)); exact Kd.R_mono (Kd.R_far (p := ⟨gb260, 2, none⟩) (Kd.R_far (p := ⟨gb260, 1, none⟩) (Kd.R_far (p := ⟨gb260, 0, none⟩) (Kd.R_types HO251.out BK260.out (by decide)) (fun _ hk => hk.2) (.int .i64 t252)) (fun _ hk => hk.2) (.slice Ao13 t253.length co13)) (fun _ hk => hk.2) (.slice Ao14 t256.length co14)) (fun _ hk => hk.1.2)))⟩; have n1_ : Aside0 (Kd.R (Kd.int .i64) 3 w15 w.heap.size (fun k_ => some k_ ≠ (.slice Ao9 t249.length co9 : Value).ownBlock) (.slice Ao13 t253.length co13) t253) := ⟨(by rw [hw]; exact (by (with_reducible repeat (first | apply Kd.R_alloc | apply Kd.R_drewN | apply Kd.R_drew)); exact Kd.R_mono (Kd.R_far (p := ⟨gb260, 2, none⟩) (Kd.R_far (p := ⟨gb260, 1, none⟩) (Kd.R_far (p := ⟨gb260, 0, none⟩) (Kd.R_types HO255.out BK260.out (by decide)) (fun _ hk => hk.2) (.int .i64 t252)) (fun _ hk => hk.2) (.slice Ao13 t253.length co13)) (fun _ hk => hk.2) (.slice Ao14 t256.length co14)) (fun _ hk => hk.1.2)))⟩; have n2_ : Aside0 (Kd.S k29 29 w15 w.heap.size (fun _ => True) (.slice Ao14 t256.length co14) t256) := ⟨(by rw [hw]; exact (by (with_reducible repeat (first | apply Kd.S_alloc | apply Kd.S_drewN | apply Kd.S_drew)); exact Kd.S_mono (Kd.S_far (p := ⟨gb260, 2, none⟩) (Kd.S_far (p := ⟨gb260, 1, none⟩) (Kd.S_far (p := ⟨gb260, 0, none⟩) (Kd.S_types HO258.out BK260.out (by decide)) (fun _ hk => hk.2) (.int .i64 t252)) (fun _ hk => hk.2) (.slice Ao13 t253.length co13)) (fun _ hk => hk.2) (.slice Ao14 t256.length co14)) (fun _ hk => trivial)))⟩; have n3_ : Aside0 (w15.heap[gb260]? = some (.cells #[.int .i64 t252, .slice Ao13 t253.length co13, .slice Ao14 t256.length co14] 58 (0, 0))) := ⟨(by rw [hw]; exact (by (with_reducible repeat (first | refine blk_drewN ?_ _ | refine blk_drew ?_ | refine blk_alloc ?_ _)); refine blk_put (cs := #[.int .i64 t252, .slice Ao13 t253.length co13, .slice none 0 0]) ?_ 2 _ rfl; (with_reducible repeat (first | refine blk_drewN ?_ _ | refine blk_drew ?_ | refine blk_alloc ?_ _)); refine blk_put (cs := #[.int .i64 t252, .slice none 0 0, .slice none 0 0]) ?_ 1 _ rfl; (with_reducible repeat (first | refine blk_drewN ?_ _ | refine blk_drew ?_ | refine blk_alloc ?_ _)); refine blk_put (cs := #[.int .i64 0, .slice none 0 0, .slice none 0 0]) ?_ 0 _ rfl; (with_reducible repeat (first | refine blk_drewN ?_ _ | refine blk_drew ?_ | refine blk_alloc ?_ _)); exact BK260.out))⟩; have n4_ : Aside0 (Below w.heap.size w w15) := ⟨(by rw [hw]; exact (by repeat (first | (with_reducible first | exact HB.out | apply below_alloc | apply pw_below_drewN | apply below_drew1 | refine below_set ?_ GE260.out) | exact HB.out)))⟩; clear hw; clear HO251; clear HO255; clear HO258; clear BK260; clear HB; have HO251 := n0_; have HO255 := n1_; have HO258 := n2_; have BK260 := n3_; have HB := n4_; clear n0_ n1_ n2_ n3_ n4_) | ((with_reducible refine gate_callee (f := 18) rfl ?_); refine goesL_ (some 23) rfl rfl Try.func18 (by kernel_rfl) rfl #[.slice A0 l0.length c0] rfl (by (try simp only [List.map_toArray, List.map_cons, List.map_nil]); first | done | rfl | (simp only [List.length_drop, List.length_take]; rfl)) ?_; (with_reducible refine (laws_toIntS.calls k _ _ l0 t261 _ ?side1 ?side2 A5.out).mono ?_); (case side1 => repeat (first | exact (Kd.C_below HR0.out HB.out) | (with_reducible refine Kd.C_alloc ?_ _) | (with_reducible refine Kd.C_drewN ?_ _) | (with_reducible refine Kd.C_drew ?_))); (case side2 => exact HC0.out); rintro e w16 ⟨v262, rfl, ho0, hb⟩; refine ⟨_, rfl, ?_⟩; have n0_ := Aside0.mk (Kd.R_elder' (by (with_reducible repeat (first | apply Kd.R_alloc | apply Kd.R_drewN | apply Kd.R_drew)); exact HO251.out) (Kd.R_base ho0) hb); have n1_ := Aside0.mk (Kd.R_elder' (by (with_reducible repeat (first | apply Kd.R_alloc | apply Kd.R_drewN | apply Kd.R_drew)); exact HO255.out) (Kd.R_base ho0) hb); have n2_ := Aside0.mk (Kd.S_below (by (with_reducible repeat (first | apply Kd.S_alloc | apply Kd.S_drewN | apply Kd.S_drew)); exact HO258.out) hb); have n3_ := Aside0.mk (Kd.R_lower (Kd.R_new' (Kd.R_new' ho0 (Kd.R_lt (by (with_reducible repeat (first | apply Kd.R_alloc | apply Kd.R_drewN | apply Kd.R_drew)); exact HO251.out))) (Kd.R_lt (by (with_reducible repeat (first | apply Kd.R_alloc | apply Kd.R_drewN | apply Kd.R_drew)); exact HO255.out))) (below_size (by repeat (first | (with_reducible first | exact HB.out | apply below_alloc | apply pw_below_drewN | apply below_drew1 | refine below_set ?_ GE260.out) | exact HB.out)))); have n4_ := Aside0.mk (blk_below (g := gb260) (o := .cells #[.int .i64 t252, .slice Ao13 t253.length co13, .slice Ao14 t256.length co14] 58 (0, 0)) (by (with_reducible repeat (first | refine blk_drewN ?_ _ | refine blk_drew ?_ | refine blk_alloc ?_ _)); exact BK260.out) hb); have n5_ := Aside0.mk (below_step (by repeat (first | (with_reducible first | exact HB.out | apply below_alloc | apply pw_below_drewN | apply below_drew1 | refine below_set ?_ GE260.out) | exact HB.out)) hb); clear HO251; clear HO255; clear HO258; clear BK260; clear HB; have HO251 := n0_; have HO255 := n1_; have HO258 := n2_; have HO263 := n3_; have BK260 := n4_; have HB := n5_; clear n0_ n1_ n2_ n3_ n4_ n5_; (try clear hb); (try clear hb2); (try clear hk); (try clear hi); (try clear ho0); obtain ⟨Ao17, co17, eo17⟩ := Kd.R_slice HO263.out; subst eo17) | ((with_reducible refine gate_callee (f := 37) rfl ?_); refine goesL_ (some 26) rfl rfl Try.func37 (by kernel_rfl) rfl #[.slice Ao17 t261.length co17] rfl (by (try simp only [List.map_toArray, List.map_cons, List.map_nil]); first | done | rfl | (simp only [List.length_drop, List.length_take]; rfl)) ?_; (with_reducible refine (impl_WaveOf.calls k (fun k_ => some k_ = (.slice Ao17 t261.length co17 : Value).ownBlock) _ _ t261 t264 t265 t268 t271 _ ?side1 A6.out).mono ?_); (case side1 => exact Kd.R_V (Kd.R_tight rfl (Kd.R_types (Kd.R_apart' (HO263.out) (Kd.S_typed HO258.out) (by decide)) BK260.out (by decide)))); rintro e w18 ⟨v266, v269, rfl, ho0, ho1, hb⟩; refine ⟨_, rfl, ?_⟩; obtain ⟨N_, hq1_, hq2_⟩ := split_rows hb ho1 (by (with_reducible repeat (first | apply Kd.S_alloc | apply Kd.S_drewN | apply Kd.S_drew)); exact HO258.out); have n0_ := Aside0.mk (Kd.R_elder' (by (with_reducible repeat (first | apply Kd.R_alloc | apply Kd.R_drewN | apply Kd.R_drew)); exact HO251.out) (Kd.R_base ho0) hb); have n1_ := Aside0.mk (Kd.R_elder' (by (with_reducible repeat (first | apply Kd.R_alloc | apply Kd.R_drewN | apply Kd.R_drew)); exact HO255.out) (Kd.R_base ho0) hb); have n2_ := Aside0.mk hq1_; have n3_ := Aside0.mk (Kd.R_elder' (by (with_reducible repeat (first | apply Kd.R_alloc | apply Kd.R_drewN | apply Kd.R_drew)); exact HO263.out) (Kd.R_base ho0) hb); have n4_ := Aside0.mk (Kd.R_lower (Kd.R_new' (Kd.R_new' (Kd.R_new' (Kd.R_mono (ok' := fun k_ => True) ho0 (fun _ hk_ => trivial)) (Kd.R_lt (by (with_reducible repeat (first | apply Kd.R_alloc | apply Kd.R_drewN | apply Kd.R_drew)); exact HO251.out))) (Kd.R_lt (by (with_reducible repeat (first | apply Kd.R_alloc | apply Kd.R_drewN | apply Kd.R_drew)); exact HO255.out))) (Kd.R_lt (by (with_reducible repeat (first | apply Kd.R_alloc | apply Kd.R_drewN | apply Kd.R_drew)); exact HO263.out))) (below_size (by repeat (first | (with_reducible first | exact HB.out | apply below_alloc | apply pw_below_drewN | apply below_drew1 | refine below_set ?_ GE260.out) | exact HB.out)))); have n5_ := Aside0.mk (Kd.S_lower (Kd.S_new' (Kd.S_mono (ok' := fun k_ => True ∧ N_ ≤ k_) hq2_ (fun _ hk_ => ⟨trivial, hk_.2⟩)) (Kd.S_lt (by (with_reducible repeat (first | apply Kd.S_alloc | apply Kd.S_drewN | apply Kd.S_drew)); exact HO258.out))) (below_size (by repeat (first | (with_reducible first | exact HB.out | apply below_alloc | apply pw_below_drewN | apply below_drew1 | refine below_set ?_ GE260.out) | exact HB.out)))); have n6_ := Aside0.mk (blk_below (g := gb260) (o := .cells #[.int .i64 t252, .slice Ao13 t253.length co13, .slice Ao14 t256.length co14] 58 (0, 0)) (by (with_reducible repeat (first | refine blk_drewN ?_ _ | refine blk_drew ?_ | refine blk_alloc ?_ _)); exact BK260.out) hb); have n7_ := Aside0.mk (below_step (by repeat (first | (with_reducible first | exact HB.out | apply below_alloc | apply pw_below_drewN | apply below_drew1 | refine below_set ?_ GE260.out) | exact HB.out)) hb); clear hq1_ hq2_; clear HO251; clear HO255; clear HO258; clear HO263; clear BK260; clear HB; have HO251 := n0_; have HO255 := n1_; have HO258 := n2_; have HO263 := n3_; have HO267 := n4_; have HO270 := n5_; have BK260 := n6_; have HB := n7_; clear n0_ n1_ n2_ n3_ n4_ n5_ n6_ n7_; (try clear hb); (try clear hb2); (try clear hk); (try clear hi); (try clear ho0); (try clear ho1)) | ((with_reducible refine gate_dst (N := 6) rfl ?_); refine box_event ?hg (N := 6) ?hd (cs := #[.int .i64 0, .slice none 0 0, .slice none 0 0]) (t := 58) ?hr ?_; (case hd => rfl); (case hg => rfl); (case hr => first | (go_simp; done) | (go_simp; rfl)); intro gb272 hg w19 hbox hb; have n0_ := Aside0.mk (Kd.R_below (by (with_reducible repeat (first | apply Kd.R_alloc | apply Kd.R_drewN | apply Kd.R_drew)); exact HO251.out) hb); have n1_ := Aside0.mk (Kd.R_below (by (with_reducible repeat (first | apply Kd.R_alloc | apply Kd.R_drewN | apply Kd.R_drew)); exact HO255.out) hb); have n2_ := Aside0.mk (Kd.S_below (by (with_reducible repeat (first | apply Kd.S_alloc | apply Kd.S_drewN | apply Kd.S_drew)); exact HO258.out) hb); have n3_ := Aside0.mk (Kd.R_below (by (with_reducible repeat (first | apply Kd.R_alloc | apply Kd.R_drewN | apply Kd.R_drew)); exact HO263.out) hb); have n4_ := Aside0.mk (Kd.R_below (by (with_reducible repeat (first | apply Kd.R_alloc | apply Kd.R_drewN | apply Kd.R_drew)); exact HO267.out) hb); have n5_ := Aside0.mk (Kd.S_below (by (with_reducible repeat (first | apply Kd.S_alloc | apply Kd.S_drewN | apply Kd.S_drew)); exact HO270.out) hb); have n6_ := Aside0.mk (blk_below (g := gb260) (o := .cells #[.int .i64 t252, .slice Ao13 t253.length co13, .slice Ao14 t256.length co14] 58 (0, 0)) (by (with_reducible repeat (first | refine blk_drewN ?_ _ | refine blk_drew ?_ | refine blk_alloc ?_ _)); exact BK260.out) hb); have n7_ := Aside0.mk (below_step (by repeat (first | (with_reducible first | exact HB.out | apply below_alloc | apply pw_below_drewN | apply below_drew1 | refine below_set ?_ GE260.out) | exact HB.out)) hb); have n8_ := Aside0.mk (hbox); have n9_ := Aside0.mk ((by rw [hg]; exact (below_size (by repeat (first | (with_reducible first | exact HB.out | apply below_alloc | apply pw_below_drewN | apply below_drew1 | refine below_set ?_ GE260.out) | exact HB.out))) : w.heap.size ≤ gb272)); have n10_ := Aside0.mk ((by rw [hg]; exact (below_size (by repeat (first | (with_reducible first | exact HB.out | apply below_alloc | apply pw_below_drewN | apply below_drew1 | refine below_set ?_ GE260.out) | exact HB.out))) : w.heap.size ≤ gb272)); have n11_ := Aside0.mk ((by rw [hg]; exact Nat.ne_of_lt (blk_lt (g := gb260) (o := .cells #[.int .i64 t252, .slice Ao13 t253.length co13, .slice Ao14 t256.length co14] 58 (0, 0)) (by (with_reducible repeat (first | refine blk_drewN ?_ _ | refine blk_drew ?_ | refine blk_alloc ?_ _)); exact BK260.out)) : gb260 ≠ gb272)); have n12_ := Aside0.mk ((by rw [hg]; exact Nat.ne_of_gt (blk_lt (g := gb260) (o := .cells #[.int .i64 t252, .slice Ao13 t253.length co13, .slice Ao14 t256.length co14] 58 (0, 0)) (by (with_reducible repeat (first | refine blk_drewN ?_ _ | refine blk_drew ?_ | refine blk_alloc ?_ _)); exact BK260.out)) : gb272 ≠ gb260)); clear HO251; clear HO255; clear HO258; clear HO263; clear HO267; clear HO270; clear BK260; clear HB; have HO251 := n0_; have HO255 := n1_; have HO258 := n2_; have HO263 := n3_; have HO267 := n4_; have HO270 := n5_; have BK260 := n6_; have HB := n7_; have BK272 := n8_; have GW272 := n9_; have GE272 := n10_; have NB260_272 := n11_; have NB272_260 := n12_; clear n0_ n1_ n2_ n3_ n4_ n5_ n6_ n7_ n8_ n9_ n10_ n11_ n12_; clear hb hbox hg; have hnb20 := NB272_260.out; have hnc20 := NB260_272.out; have hcz21_0 : w19.cell? ⟨gb272, 0, none⟩ = some (.int .i64 0) := (blk_cell BK272.out 0).trans rfl; have hcz21_1 : w19.cell? ⟨gb272, 1, none⟩ = some (.slice none 0 0) := (blk_cell BK272.out 1).trans rfl; have hcz21_2 : w19.cell? ⟨gb272, 2, none⟩ = some (.slice none 0 0) := (blk_cell BK272.out 2).trans rfl; have hfz21_0 := blk_frozen BK272.out 0; have hfz21_1 := blk_frozen BK272.out 1; have hfz21_2 := blk_frozen BK272.out 2; obtain ⟨Ao22, co22, eo22⟩ := Kd.R_slice HO267.out; subst eo22; obtain ⟨Ao23, co23, eo23⟩ := Kd.S_slice HO270.out; subst eo23))
  (try simp only [Act.put, List.setIfInBounds_toArray, List.set_cons_zero, List.set_cons_succ])
  go_cut [37] (fun v37 wc => ∃ (kq : Nat) (x37_6 : Bool), v37 = .bool x37_6 ∧ Aside0 (laws_FnExactWaveOf.j0 kq l0 t259 t261 t271 x37_6 t252 t253 t256 t264 t265 t268 = some r) ∧ Aside0 (kq ≤ k) ∧ Aside0 (Kd.R (Kd.int .i64) 3 wc w.heap.size (fun k_ => some k_ ≠ ((.slice Ao13 t253.length co13) : Value).ownBlock ∧ some k_ ≠ ((.slice Ao22 t265.length co22) : Value).ownBlock) (.slice Ao17 t261.length co17) t261) ∧ Aside0 (Kd.R (Kd.int .i64) 3 wc w.heap.size (fun k_ => some k_ ≠ ((.slice Ao17 t261.length co17) : Value).ownBlock ∧ some k_ ≠ ((.slice Ao22 t265.length co22) : Value).ownBlock) (.slice Ao13 t253.length co13) t253) ∧ Aside0 (Kd.S k29 29 wc w.heap.size (fun k_ => some k_ ≠ ((.slice Ao23 t268.length co23) : Value).ownBlock ∧ k_ < N_) (.slice Ao14 t256.length co14) t256) ∧ Aside0 (Kd.R (Kd.int .i64) 3 wc w.heap.size (fun k_ => some k_ ≠ ((.slice Ao17 t261.length co17) : Value).ownBlock ∧ some k_ ≠ ((.slice Ao13 t253.length co13) : Value).ownBlock) (.slice Ao22 t265.length co22) t265) ∧ Aside0 (Kd.S k29 29 wc w.heap.size (fun k_ => some k_ ≠ ((.slice Ao14 t256.length co14) : Value).ownBlock ∧ N_ ≤ k_) (.slice Ao23 t268.length co23) t268) ∧ Aside0 (wc.heap[gb260]? = some (.cells #[.int .i64 t252, (.slice Ao13 t253.length co13), (.slice Ao14 t256.length co14)] 58 (0, 0))) ∧ Aside0 (wc.heap[gb272]? = some (.cells #[.int .i64 t264, (.slice Ao22 t265.length co22), (.slice Ao23 t268.length co23)] 58 (0, 0))) ∧ Aside0 (Below w.heap.size w wc))
  case first =>
   have H := HC7.out
   clear HC7
   replace H := Option.bind_eq_some_iff.mp H
   obtain ⟨t273, A240, H⟩ := H
   replace H : (if t273 = true then (laws_FnExactWaveOf.j0 k l0 t259 t261 t271 (t271 != t259) t252 t253 t256 t264 t265 t268) else (laws_FnExactWaveOf.j0 k l0 t259 t261 t271 true t252 t253 t256 t264 t265 t268)) = some r := H
   have A24 := Aside0.mk A240
   clear A240
   by_cases c25 : t273 = true
   ·subst c25
    have H1 : (laws_FnExactWaveOf.j0 k l0 t259 t261 t271 (t271 != t259) t252 t253 t256 t264 t265 t268) = some r := by rw [if_pos rfl] at H; exact H
    clear H
    have H := H1
    clear H1
    have H' := Aside0.mk H
    clear H
    have hnb26 := NB272_260.out
    have hnc26 := NB260_272.out
    have hcz27_0 : w19.cell? ⟨gb272, 0, none⟩ = some (.int .i64 0) := (blk_cell BK272.out 0).trans rfl
    have hcz27_1 : w19.cell? ⟨gb272, 1, none⟩ = some (.slice none 0 0) := (blk_cell BK272.out 1).trans rfl
    have hcz27_2 : w19.cell? ⟨gb272, 2, none⟩ = some (.slice none 0 0) := (blk_cell BK272.out 2).trans rfl
    have hfz27_0 := blk_frozen BK272.out 0
    have hfz27_1 := blk_frozen BK272.out 1
    have hfz27_2 := blk_frozen BK272.out 2
    have hcz28_0 : w19.cell? ⟨gb260, 0, none⟩ = some (.int .i64 t252) := (blk_cell BK260.out 0).trans rfl
    have hcz28_1 : w19.cell? ⟨gb260, 1, none⟩ = some (.slice Ao13 t253.length co13) := (blk_cell BK260.out 1).trans rfl
    have hcz28_2 : w19.cell? ⟨gb260, 2, none⟩ = some (.slice Ao14 t256.length co14) := (blk_cell BK260.out 2).trans rfl
    have hfz28_0 := blk_frozen BK260.out 0
    have hfz28_1 := blk_frozen BK260.out 1
    have hfz28_2 := blk_frozen BK260.out 2
    go_wp2_with (first | ((with_reducible refine gate_callee (f := 38) rfl ?_); refine goesL_ (some 31) rfl rfl Try.func38 (by kernel_rfl) rfl #[.agg #[.int .i64 t264, .slice Ao22 t265.length co22, .slice Ao23 t268.length co23], .agg #[.int .i64 t252, .slice Ao13 t253.length co13, .slice Ao14 t256.length co14]] rfl (by (try simp only [List.map_toArray, List.map_cons, List.map_nil]); first | done | rfl | (simp only [List.length_drop, List.length_take]; rfl)) ?_; (with_reducible refine (laws_eqWave.calls k t264 _ _ t265 _ _ t268 t252 _ _ t253 _ _ t256 true _ ?side1 ?side2 ?side3 ?side4 ?side5 ?side6 ?side7 ?side8 A24.out).mono ?_); (case side1 => refine (Kd.R_reads' (e := 3) (base := w.heap.size) (ok := fun k_ => (((True ∧ some k_ ≠ (.slice Ao9 t249.length co9 : Value).ownBlock) ∧ some k_ ≠ (.slice Ao13 t253.length co13 : Value).ownBlock) ∧ some k_ ≠ (.slice Ao17 t261.length co17 : Value).ownBlock)) (n := t265.length) (c := co22) ?_).2.2; exact (by (with_reducible repeat (first | apply Kd.R_alloc | apply Kd.R_drewN | apply Kd.R_drew)); exact (Kd.R_mono (Kd.R_far (p := ⟨gb272, 2, none⟩) (Kd.R_far (p := ⟨gb272, 1, none⟩) (Kd.R_far (p := ⟨gb272, 0, none⟩) (Kd.R_types HO267.out BK272.out (by decide)) (fun _ hk => hk.2) (.int .i64 t264)) (fun _ hk => hk.2) (.slice Ao22 t265.length co22)) (fun _ hk => hk.2) (.slice Ao23 t268.length co23)) (fun _ h_ => h_.1)))); (case side2 => exact (Kd.R_reads' HO267.out).2.1); (case side3 => refine (Kd.S_reads' (e := 29) (base := w.heap.size) (ok := fun _ => True) (n := t268.length) (c := co23) ?_).2.2; exact (by (with_reducible repeat (first | apply Kd.S_alloc | apply Kd.S_drewN | apply Kd.S_drew)); exact (Kd.S_mono (Kd.S_far (p := ⟨gb272, 2, none⟩) (Kd.S_far (p := ⟨gb272, 1, none⟩) (Kd.S_far (p := ⟨gb272, 0, none⟩) (Kd.S_types HO270.out BK272.out (by decide)) (fun _ hk => hk.2) (.int .i64 t264)) (fun _ hk => hk.2) (.slice Ao22 t265.length co22)) (fun _ hk => hk.2) (.slice Ao23 t268.length co23)) (fun _ _ => trivial)))); (case side4 => exact (Kd.S_reads' HO270.out).2.1); (case side5 => refine (Kd.R_reads' (e := 3) (base := w.heap.size) (ok := fun k_ => ((some k_ ≠ (.slice Ao9 t249.length co9 : Value).ownBlock ∧ some k_ ≠ (.slice Ao17 t261.length co17 : Value).ownBlock) ∧ some k_ ≠ (.slice Ao22 t265.length co22 : Value).ownBlock)) (n := t253.length) (c := co13) ?_).2.2; exact (by (with_reducible repeat (first | apply Kd.R_alloc | apply Kd.R_drewN | apply Kd.R_drew)); exact (Kd.R_mono (Kd.R_far (p := ⟨gb272, 2, none⟩) (Kd.R_far (p := ⟨gb272, 1, none⟩) (Kd.R_far (p := ⟨gb272, 0, none⟩) (Kd.R_types HO255.out BK272.out (by decide)) (fun _ hk => hk.2) (.int .i64 t264)) (fun _ hk => hk.2) (.slice Ao22 t265.length co22)) (fun _ hk => hk.2) (.slice Ao23 t268.length co23)) (fun _ h_ => h_.1)))); (case side6 => exact (Kd.R_reads' HO255.out).2.1); (case side7 => refine (Kd.S_reads' (e := 29) (base := w.heap.size) (ok := fun _ => True) (n := t256.length) (c := co14) ?_).2.2; exact (by (with_reducible repeat (first | apply Kd.S_alloc | apply Kd.S_drewN | apply Kd.S_drew)); exact (Kd.S_mono (Kd.S_far (p := ⟨gb272, 2, none⟩) (Kd.S_far (p := ⟨gb272, 1, none⟩) (Kd.S_far (p := ⟨gb272, 0, none⟩) (Kd.S_types HO258.out BK272.out (by decide)) (fun _ hk => hk.2) (.int .i64 t264)) (fun _ hk => hk.2) (.slice Ao22 t265.length co22)) (fun _ hk => hk.2) (.slice Ao23 t268.length co23)) (fun _ _ => trivial)))); (case side8 => exact (Kd.S_reads' HO258.out).2.1); rintro e w29 ⟨rfl, hb⟩; refine ⟨_, rfl, ?_⟩; have n0_ := Aside0.mk (Kd.R_below (by (with_reducible repeat (first | apply Kd.R_alloc | apply Kd.R_drewN | apply Kd.R_drew)); exact (Kd.R_mono (Kd.R_far (p := ⟨gb272, 2, none⟩) (Kd.R_far (p := ⟨gb272, 1, none⟩) (Kd.R_far (p := ⟨gb272, 0, none⟩) (Kd.R_types HO251.out BK272.out (by decide)) (fun _ hk => hk.2) (.int .i64 t264)) (fun _ hk => hk.2) (.slice Ao22 t265.length co22)) (fun _ hk => hk.2) (.slice Ao23 t268.length co23)) (fun _ h_ => h_.1))) hb); have n1_ := Aside0.mk (Kd.R_below (by (with_reducible repeat (first | apply Kd.R_alloc | apply Kd.R_drewN | apply Kd.R_drew)); exact (Kd.R_mono (Kd.R_far (p := ⟨gb272, 2, none⟩) (Kd.R_far (p := ⟨gb272, 1, none⟩) (Kd.R_far (p := ⟨gb272, 0, none⟩) (Kd.R_types HO255.out BK272.out (by decide)) (fun _ hk => hk.2) (.int .i64 t264)) (fun _ hk => hk.2) (.slice Ao22 t265.length co22)) (fun _ hk => hk.2) (.slice Ao23 t268.length co23)) (fun _ h_ => h_.1))) hb); have n2_ := Aside0.mk (Kd.S_below (by (with_reducible repeat (first | apply Kd.S_alloc | apply Kd.S_drewN | apply Kd.S_drew)); exact (Kd.S_mono (Kd.S_far (p := ⟨gb272, 2, none⟩) (Kd.S_far (p := ⟨gb272, 1, none⟩) (Kd.S_far (p := ⟨gb272, 0, none⟩) (Kd.S_types HO258.out BK272.out (by decide)) (fun _ hk => hk.2) (.int .i64 t264)) (fun _ hk => hk.2) (.slice Ao22 t265.length co22)) (fun _ hk => hk.2) (.slice Ao23 t268.length co23)) (fun _ h_ => h_.1))) hb); have n3_ := Aside0.mk (Kd.R_below (by (with_reducible repeat (first | apply Kd.R_alloc | apply Kd.R_drewN | apply Kd.R_drew)); exact (Kd.R_mono (Kd.R_far (p := ⟨gb272, 2, none⟩) (Kd.R_far (p := ⟨gb272, 1, none⟩) (Kd.R_far (p := ⟨gb272, 0, none⟩) (Kd.R_types HO263.out BK272.out (by decide)) (fun _ hk => hk.2) (.int .i64 t264)) (fun _ hk => hk.2) (.slice Ao22 t265.length co22)) (fun _ hk => hk.2) (.slice Ao23 t268.length co23)) (fun _ h_ => h_.1))) hb); have n4_ := Aside0.mk (Kd.R_below (by (with_reducible repeat (first | apply Kd.R_alloc | apply Kd.R_drewN | apply Kd.R_drew)); exact (Kd.R_mono (Kd.R_far (p := ⟨gb272, 2, none⟩) (Kd.R_far (p := ⟨gb272, 1, none⟩) (Kd.R_far (p := ⟨gb272, 0, none⟩) (Kd.R_types HO267.out BK272.out (by decide)) (fun _ hk => hk.2) (.int .i64 t264)) (fun _ hk => hk.2) (.slice Ao22 t265.length co22)) (fun _ hk => hk.2) (.slice Ao23 t268.length co23)) (fun _ h_ => h_.1))) hb); have n5_ := Aside0.mk (Kd.S_below (by (with_reducible repeat (first | apply Kd.S_alloc | apply Kd.S_drewN | apply Kd.S_drew)); exact (Kd.S_mono (Kd.S_far (p := ⟨gb272, 2, none⟩) (Kd.S_far (p := ⟨gb272, 1, none⟩) (Kd.S_far (p := ⟨gb272, 0, none⟩) (Kd.S_types HO270.out BK272.out (by decide)) (fun _ hk => hk.2) (.int .i64 t264)) (fun _ hk => hk.2) (.slice Ao22 t265.length co22)) (fun _ hk => hk.2) (.slice Ao23 t268.length co23)) (fun _ h_ => h_.1))) hb); have n6_ := Aside0.mk (blk_below (g := gb260) (o := .cells #[.int .i64 t252, .slice Ao13 t253.length co13, .slice Ao14 t256.length co14] 58 (0, 0)) (by (with_reducible repeat (first | refine blk_drewN ?_ _ | refine blk_drew ?_ | refine blk_alloc ?_ _)); refine blk_far ?_ NB260_272.out _; (with_reducible repeat (first | refine blk_drewN ?_ _ | refine blk_drew ?_ | refine blk_alloc ?_ _)); refine blk_far ?_ NB260_272.out _; (with_reducible repeat (first | refine blk_drewN ?_ _ | refine blk_drew ?_ | refine blk_alloc ?_ _)); refine blk_far ?_ NB260_272.out _; (with_reducible repeat (first | refine blk_drewN ?_ _ | refine blk_drew ?_ | refine blk_alloc ?_ _)); exact BK260.out) hb); have n7_ := Aside0.mk (blk_below (g := gb272) (o := .cells #[.int .i64 t264, .slice Ao22 t265.length co22, .slice Ao23 t268.length co23] 58 (0, 0)) (by (with_reducible repeat (first | refine blk_drewN ?_ _ | refine blk_drew ?_ | refine blk_alloc ?_ _)); refine blk_put (cs := #[.int .i64 t264, .slice Ao22 t265.length co22, .slice none 0 0]) ?_ 2 _ rfl; (with_reducible repeat (first | refine blk_drewN ?_ _ | refine blk_drew ?_ | refine blk_alloc ?_ _)); refine blk_put (cs := #[.int .i64 t264, .slice none 0 0, .slice none 0 0]) ?_ 1 _ rfl; (with_reducible repeat (first | refine blk_drewN ?_ _ | refine blk_drew ?_ | refine blk_alloc ?_ _)); refine blk_put (cs := #[.int .i64 0, .slice none 0 0, .slice none 0 0]) ?_ 0 _ rfl; (with_reducible repeat (first | refine blk_drewN ?_ _ | refine blk_drew ?_ | refine blk_alloc ?_ _)); exact BK272.out) hb); have n8_ := Aside0.mk (below_step (by repeat (first | (with_reducible first | exact HB.out | apply below_alloc | apply pw_below_drewN | apply below_drew1 | refine below_set ?_ GE260.out | refine below_set ?_ GE272.out) | exact HB.out)) hb); clear HO251; clear HO255; clear HO258; clear HO263; clear HO267; clear HO270; clear BK260; clear BK272; clear HB; have HO251 := n0_; have HO255 := n1_; have HO258 := n2_; have HO263 := n3_; have HO267 := n4_; have HO270 := n5_; have BK260 := n6_; have BK272 := n7_; have HB := n8_; clear n0_ n1_ n2_ n3_ n4_ n5_ n6_ n7_ n8_; (try clear hb); (try clear hb2); (try clear hk); (try clear hi)))
    go_meet
    case rel => exact ⟨_, ((t271 != t259)), (by first | rfl | (simp; done) | (simp [*]; done)), H', ⟨by first | omega | exact Nat.le_refl _⟩, ⟨by (with_reducible repeat (first | apply Kd.R_alloc | apply Kd.R_drewN | apply Kd.R_drew)); exact Kd.R_mono HO263.out (by first | exact (fun _ hk => ⟨hk.1.2, hk.2⟩) | (intro k_ hk_; simp [hk_]; done) | (intro k_ hk_; simp_all))⟩, ⟨by (with_reducible repeat (first | apply Kd.R_alloc | apply Kd.R_drewN | apply Kd.R_drew)); exact Kd.R_mono HO255.out (by first | exact (fun _ hk => ⟨hk.1.2, hk.2⟩) | (intro k_ hk_; simp [hk_]; done) | (intro k_ hk_; simp_all))⟩, ⟨by (with_reducible repeat (first | apply Kd.S_alloc | apply Kd.S_drewN | apply Kd.S_drew)); exact Kd.S_mono HO258.out (by (intro k_ hk_; (repeat' (with_reducible apply And.intro)) <;> with_reducible first | exact trivial | exact hk_ | exact hk_.1 | exact hk_.2 | exact hk_.1.1 | exact hk_.1.2 | exact hk_.2.1 | exact hk_.2.2 | exact hk_.1.1.1 | exact hk_.1.1.2 | exact hk_.1.2.1 | exact hk_.1.2.2 | exact hk_.2.1.1 | exact hk_.2.1.2 | exact hk_.2.2.1 | exact hk_.2.2.2 | exact hk_.1.1.1.1 | exact hk_.1.1.1.2 | exact hk_.1.1.2.1 | exact hk_.1.1.2.2 | exact hk_.1.2.1.1 | exact hk_.1.2.1.2 | exact hk_.1.2.2.1 | exact hk_.1.2.2.2 | exact hk_.2.1.1.1 | exact hk_.2.1.1.2 | exact hk_.2.1.2.1 | exact hk_.2.1.2.2 | exact hk_.2.2.1.1 | exact hk_.2.2.1.2 | exact hk_.2.2.2.1 | exact hk_.2.2.2.2 | exact hk_.1.1.1.1.1 | exact hk_.1.1.1.1.2 | exact hk_.1.1.1.2.1 | exact hk_.1.1.1.2.2 | exact hk_.1.1.2.1.1 | exact hk_.1.1.2.1.2 | exact hk_.1.1.2.2.1 | exact hk_.1.1.2.2.2 | exact hk_.1.2.1.1.1 | exact hk_.1.2.1.1.2 | exact hk_.1.2.1.2.1 | exact hk_.1.2.1.2.2 | exact hk_.1.2.2.1.1 | exact hk_.1.2.2.1.2 | exact hk_.1.2.2.2.1 | exact hk_.1.2.2.2.2 | exact hk_.2.1.1.1.1 | exact hk_.2.1.1.1.2 | exact hk_.2.1.1.2.1 | exact hk_.2.1.1.2.2 | exact hk_.2.1.2.1.1 | exact hk_.2.1.2.1.2 | exact hk_.2.1.2.2.1 | exact hk_.2.1.2.2.2 | exact hk_.2.2.1.1.1 | exact hk_.2.2.1.1.2 | exact hk_.2.2.1.2.1 | exact hk_.2.2.1.2.2 | exact hk_.2.2.2.1.1 | exact hk_.2.2.2.1.2 | exact hk_.2.2.2.2.1 | exact hk_.2.2.2.2.2 | exact hk_.1.1.1.1.1.1 | exact hk_.1.1.1.1.1.2 | exact hk_.1.1.1.1.2.1 | exact hk_.1.1.1.1.2.2 | exact hk_.1.1.1.2.1.1 | exact hk_.1.1.1.2.1.2 | exact hk_.1.1.1.2.2.1 | exact hk_.1.1.1.2.2.2 | exact hk_.1.1.2.1.1.1 | exact hk_.1.1.2.1.1.2 | exact hk_.1.1.2.1.2.1 | exact hk_.1.1.2.1.2.2 | exact hk_.1.1.2.2.1.1 | exact hk_.1.1.2.2.1.2 | exact hk_.1.1.2.2.2.1 | exact hk_.1.1.2.2.2.2 | exact hk_.1.2.1.1.1.1 | exact hk_.1.2.1.1.1.2 | exact hk_.1.2.1.1.2.1 | exact hk_.1.2.1.1.2.2 | exact hk_.1.2.1.2.1.1 | exact hk_.1.2.1.2.1.2 | exact hk_.1.2.1.2.2.1 | exact hk_.1.2.1.2.2.2 | exact hk_.1.2.2.1.1.1 | exact hk_.1.2.2.1.1.2 | exact hk_.1.2.2.1.2.1 | exact hk_.1.2.2.1.2.2 | exact hk_.1.2.2.2.1.1 | exact hk_.1.2.2.2.1.2 | exact hk_.1.2.2.2.2.1 | exact hk_.1.2.2.2.2.2 | exact hk_.2.1.1.1.1.1 | exact hk_.2.1.1.1.1.2 | exact hk_.2.1.1.1.2.1 | exact hk_.2.1.1.1.2.2 | exact hk_.2.1.1.2.1.1 | exact hk_.2.1.1.2.1.2 | exact hk_.2.1.1.2.2.1 | exact hk_.2.1.1.2.2.2 | exact hk_.2.1.2.1.1.1 | exact hk_.2.1.2.1.1.2 | exact hk_.2.1.2.1.2.1 | exact hk_.2.1.2.1.2.2 | exact hk_.2.1.2.2.1.1 | exact hk_.2.1.2.2.1.2 | exact hk_.2.1.2.2.2.1 | exact hk_.2.1.2.2.2.2 | exact hk_.2.2.1.1.1.1 | exact hk_.2.2.1.1.1.2 | exact hk_.2.2.1.1.2.1 | exact hk_.2.2.1.1.2.2 | exact hk_.2.2.1.2.1.1 | exact hk_.2.2.1.2.1.2 | exact hk_.2.2.1.2.2.1 | exact hk_.2.2.1.2.2.2 | exact hk_.2.2.2.1.1.1 | exact hk_.2.2.2.1.1.2 | exact hk_.2.2.2.1.2.1 | exact hk_.2.2.2.1.2.2 | exact hk_.2.2.2.2.1.1 | exact hk_.2.2.2.2.1.2 | exact hk_.2.2.2.2.2.1 | exact hk_.2.2.2.2.2.2))⟩, ⟨by (with_reducible repeat (first | apply Kd.R_alloc | apply Kd.R_drewN | apply Kd.R_drew)); exact Kd.R_mono HO267.out (by first | exact (fun _ hk => ⟨hk.2, hk.1.2⟩) | (intro k_ hk_; simp [hk_]; done) | (intro k_ hk_; simp_all))⟩, ⟨by (with_reducible repeat (first | apply Kd.S_alloc | apply Kd.S_drewN | apply Kd.S_drew)); exact Kd.S_mono HO270.out (by (intro k_ hk_; (repeat' (with_reducible apply And.intro)) <;> with_reducible first | exact trivial | exact hk_ | exact hk_.1 | exact hk_.2 | exact hk_.1.1 | exact hk_.1.2 | exact hk_.2.1 | exact hk_.2.2 | exact hk_.1.1.1 | exact hk_.1.1.2 | exact hk_.1.2.1 | exact hk_.1.2.2 | exact hk_.2.1.1 | exact hk_.2.1.2 | exact hk_.2.2.1 | exact hk_.2.2.2 | exact hk_.1.1.1.1 | exact hk_.1.1.1.2 | exact hk_.1.1.2.1 | exact hk_.1.1.2.2 | exact hk_.1.2.1.1 | exact hk_.1.2.1.2 | exact hk_.1.2.2.1 | exact hk_.1.2.2.2 | exact hk_.2.1.1.1 | exact hk_.2.1.1.2 | exact hk_.2.1.2.1 | exact hk_.2.1.2.2 | exact hk_.2.2.1.1 | exact hk_.2.2.1.2 | exact hk_.2.2.2.1 | exact hk_.2.2.2.2 | exact hk_.1.1.1.1.1 | exact hk_.1.1.1.1.2 | exact hk_.1.1.1.2.1 | exact hk_.1.1.1.2.2 | exact hk_.1.1.2.1.1 | exact hk_.1.1.2.1.2 | exact hk_.1.1.2.2.1 | exact hk_.1.1.2.2.2 | exact hk_.1.2.1.1.1 | exact hk_.1.2.1.1.2 | exact hk_.1.2.1.2.1 | exact hk_.1.2.1.2.2 | exact hk_.1.2.2.1.1 | exact hk_.1.2.2.1.2 | exact hk_.1.2.2.2.1 | exact hk_.1.2.2.2.2 | exact hk_.2.1.1.1.1 | exact hk_.2.1.1.1.2 | exact hk_.2.1.1.2.1 | exact hk_.2.1.1.2.2 | exact hk_.2.1.2.1.1 | exact hk_.2.1.2.1.2 | exact hk_.2.1.2.2.1 | exact hk_.2.1.2.2.2 | exact hk_.2.2.1.1.1 | exact hk_.2.2.1.1.2 | exact hk_.2.2.1.2.1 | exact hk_.2.2.1.2.2 | exact hk_.2.2.2.1.1 | exact hk_.2.2.2.1.2 | exact hk_.2.2.2.2.1 | exact hk_.2.2.2.2.2 | exact hk_.1.1.1.1.1.1 | exact hk_.1.1.1.1.1.2 | exact hk_.1.1.1.1.2.1 | exact hk_.1.1.1.1.2.2 | exact hk_.1.1.1.2.1.1 | exact hk_.1.1.1.2.1.2 | exact hk_.1.1.1.2.2.1 | exact hk_.1.1.1.2.2.2 | exact hk_.1.1.2.1.1.1 | exact hk_.1.1.2.1.1.2 | exact hk_.1.1.2.1.2.1 | exact hk_.1.1.2.1.2.2 | exact hk_.1.1.2.2.1.1 | exact hk_.1.1.2.2.1.2 | exact hk_.1.1.2.2.2.1 | exact hk_.1.1.2.2.2.2 | exact hk_.1.2.1.1.1.1 | exact hk_.1.2.1.1.1.2 | exact hk_.1.2.1.1.2.1 | exact hk_.1.2.1.1.2.2 | exact hk_.1.2.1.2.1.1 | exact hk_.1.2.1.2.1.2 | exact hk_.1.2.1.2.2.1 | exact hk_.1.2.1.2.2.2 | exact hk_.1.2.2.1.1.1 | exact hk_.1.2.2.1.1.2 | exact hk_.1.2.2.1.2.1 | exact hk_.1.2.2.1.2.2 | exact hk_.1.2.2.2.1.1 | exact hk_.1.2.2.2.1.2 | exact hk_.1.2.2.2.2.1 | exact hk_.1.2.2.2.2.2 | exact hk_.2.1.1.1.1.1 | exact hk_.2.1.1.1.1.2 | exact hk_.2.1.1.1.2.1 | exact hk_.2.1.1.1.2.2 | exact hk_.2.1.1.2.1.1 | exact hk_.2.1.1.2.1.2 | exact hk_.2.1.1.2.2.1 | exact hk_.2.1.1.2.2.2 | exact hk_.2.1.2.1.1.1 | exact hk_.2.1.2.1.1.2 | exact hk_.2.1.2.1.2.1 | exact hk_.2.1.2.1.2.2 | exact hk_.2.1.2.2.1.1 | exact hk_.2.1.2.2.1.2 | exact hk_.2.1.2.2.2.1 | exact hk_.2.1.2.2.2.2 | exact hk_.2.2.1.1.1.1 | exact hk_.2.2.1.1.1.2 | exact hk_.2.2.1.1.2.1 | exact hk_.2.2.1.1.2.2 | exact hk_.2.2.1.2.1.1 | exact hk_.2.2.1.2.1.2 | exact hk_.2.2.1.2.2.1 | exact hk_.2.2.1.2.2.2 | exact hk_.2.2.2.1.1.1 | exact hk_.2.2.2.1.1.2 | exact hk_.2.2.2.1.2.1 | exact hk_.2.2.2.1.2.2 | exact hk_.2.2.2.2.1.1 | exact hk_.2.2.2.2.1.2 | exact hk_.2.2.2.2.2.1 | exact hk_.2.2.2.2.2.2))⟩, ⟨by (with_reducible repeat (first | refine blk_drewN ?_ _ | refine blk_drew ?_ | refine blk_alloc ?_ _)); exact BK260.out⟩, ⟨by (with_reducible repeat (first | refine blk_drewN ?_ _ | refine blk_drew ?_ | refine blk_alloc ?_ _)); exact BK272.out⟩, ⟨by repeat (first | (with_reducible first | exact HB.out | apply below_alloc | apply pw_below_drewN | apply below_drew1 | refine below_set ?_ GE260.out | refine below_set ?_ GE272.out) | exact HB.out)⟩⟩
   ·replace c25 := Bool.eq_false_iff.mpr c25
    subst c25
    have H1 : (laws_FnExactWaveOf.j0 k l0 t259 t261 t271 true t252 t253 t256 t264 t265 t268) = some r := by rw [if_neg (show ¬ (false = true) by decide)] at H; exact H
    clear H
    have H := H1
    clear H1
    have H' := Aside0.mk H
    clear H
    have hnb30 := NB272_260.out
    have hnc30 := NB260_272.out
    have hcz31_0 : w19.cell? ⟨gb272, 0, none⟩ = some (.int .i64 0) := (blk_cell BK272.out 0).trans rfl
    have hcz31_1 : w19.cell? ⟨gb272, 1, none⟩ = some (.slice none 0 0) := (blk_cell BK272.out 1).trans rfl
    have hcz31_2 : w19.cell? ⟨gb272, 2, none⟩ = some (.slice none 0 0) := (blk_cell BK272.out 2).trans rfl
    have hfz31_0 := blk_frozen BK272.out 0
    have hfz31_1 := blk_frozen BK272.out 1
    have hfz31_2 := blk_frozen BK272.out 2
    have hcz32_0 : w19.cell? ⟨gb260, 0, none⟩ = some (.int .i64 t252) := (blk_cell BK260.out 0).trans rfl
    have hcz32_1 : w19.cell? ⟨gb260, 1, none⟩ = some (.slice Ao13 t253.length co13) := (blk_cell BK260.out 1).trans rfl
    have hcz32_2 : w19.cell? ⟨gb260, 2, none⟩ = some (.slice Ao14 t256.length co14) := (blk_cell BK260.out 2).trans rfl
    have hfz32_0 := blk_frozen BK260.out 0
    have hfz32_1 := blk_frozen BK260.out 1
    have hfz32_2 := blk_frozen BK260.out 2
    go_wp2_with (first | ((with_reducible refine gate_callee (f := 38) rfl ?_); refine goesL_ (some 31) rfl rfl Try.func38 (by kernel_rfl) rfl #[.agg #[.int .i64 t264, .slice Ao22 t265.length co22, .slice Ao23 t268.length co23], .agg #[.int .i64 t252, .slice Ao13 t253.length co13, .slice Ao14 t256.length co14]] rfl (by (try simp only [List.map_toArray, List.map_cons, List.map_nil]); first | done | rfl | (simp only [List.length_drop, List.length_take]; rfl)) ?_; (with_reducible refine (laws_eqWave.calls k t264 _ _ t265 _ _ t268 t252 _ _ t253 _ _ t256 false _ ?side1 ?side2 ?side3 ?side4 ?side5 ?side6 ?side7 ?side8 A24.out).mono ?_); (case side1 => refine (Kd.R_reads' (e := 3) (base := w.heap.size) (ok := fun k_ => (((True ∧ some k_ ≠ (.slice Ao9 t249.length co9 : Value).ownBlock) ∧ some k_ ≠ (.slice Ao13 t253.length co13 : Value).ownBlock) ∧ some k_ ≠ (.slice Ao17 t261.length co17 : Value).ownBlock)) (n := t265.length) (c := co22) ?_).2.2; exact (by (with_reducible repeat (first | apply Kd.R_alloc | apply Kd.R_drewN | apply Kd.R_drew)); exact (Kd.R_mono (Kd.R_far (p := ⟨gb272, 2, none⟩) (Kd.R_far (p := ⟨gb272, 1, none⟩) (Kd.R_far (p := ⟨gb272, 0, none⟩) (Kd.R_types HO267.out BK272.out (by decide)) (fun _ hk => hk.2) (.int .i64 t264)) (fun _ hk => hk.2) (.slice Ao22 t265.length co22)) (fun _ hk => hk.2) (.slice Ao23 t268.length co23)) (fun _ h_ => h_.1)))); (case side2 => exact (Kd.R_reads' HO267.out).2.1); (case side3 => refine (Kd.S_reads' (e := 29) (base := w.heap.size) (ok := fun _ => True) (n := t268.length) (c := co23) ?_).2.2; exact (by (with_reducible repeat (first | apply Kd.S_alloc | apply Kd.S_drewN | apply Kd.S_drew)); exact (Kd.S_mono (Kd.S_far (p := ⟨gb272, 2, none⟩) (Kd.S_far (p := ⟨gb272, 1, none⟩) (Kd.S_far (p := ⟨gb272, 0, none⟩) (Kd.S_types HO270.out BK272.out (by decide)) (fun _ hk => hk.2) (.int .i64 t264)) (fun _ hk => hk.2) (.slice Ao22 t265.length co22)) (fun _ hk => hk.2) (.slice Ao23 t268.length co23)) (fun _ _ => trivial)))); (case side4 => exact (Kd.S_reads' HO270.out).2.1); (case side5 => refine (Kd.R_reads' (e := 3) (base := w.heap.size) (ok := fun k_ => ((some k_ ≠ (.slice Ao9 t249.length co9 : Value).ownBlock ∧ some k_ ≠ (.slice Ao17 t261.length co17 : Value).ownBlock) ∧ some k_ ≠ (.slice Ao22 t265.length co22 : Value).ownBlock)) (n := t253.length) (c := co13) ?_).2.2; exact (by (with_reducible repeat (first | apply Kd.R_alloc | apply Kd.R_drewN | apply Kd.R_drew)); exact (Kd.R_mono (Kd.R_far (p := ⟨gb272, 2, none⟩) (Kd.R_far (p := ⟨gb272, 1, none⟩) (Kd.R_far (p := ⟨gb272, 0, none⟩) (Kd.R_types HO255.out BK272.out (by decide)) (fun _ hk => hk.2) (.int .i64 t264)) (fun _ hk => hk.2) (.slice Ao22 t265.length co22)) (fun _ hk => hk.2) (.slice Ao23 t268.length co23)) (fun _ h_ => h_.1)))); (case side6 => exact (Kd.R_reads' HO255.out).2.1); (case side7 => refine (Kd.S_reads' (e := 29) (base := w.heap.size) (ok := fun _ => True) (n := t256.length) (c := co14) ?_).2.2; exact (by (with_reducible repeat (first | apply Kd.S_alloc | apply Kd.S_drewN | apply Kd.S_drew)); exact (Kd.S_mono (Kd.S_far (p := ⟨gb272, 2, none⟩) (Kd.S_far (p := ⟨gb272, 1, none⟩) (Kd.S_far (p := ⟨gb272, 0, none⟩) (Kd.S_types HO258.out BK272.out (by decide)) (fun _ hk => hk.2) (.int .i64 t264)) (fun _ hk => hk.2) (.slice Ao22 t265.length co22)) (fun _ hk => hk.2) (.slice Ao23 t268.length co23)) (fun _ _ => trivial)))); (case side8 => exact (Kd.S_reads' HO258.out).2.1); rintro e w33 ⟨rfl, hb⟩; refine ⟨_, rfl, ?_⟩; have n0_ := Aside0.mk (Kd.R_below (by (with_reducible repeat (first | apply Kd.R_alloc | apply Kd.R_drewN | apply Kd.R_drew)); exact (Kd.R_mono (Kd.R_far (p := ⟨gb272, 2, none⟩) (Kd.R_far (p := ⟨gb272, 1, none⟩) (Kd.R_far (p := ⟨gb272, 0, none⟩) (Kd.R_types HO251.out BK272.out (by decide)) (fun _ hk => hk.2) (.int .i64 t264)) (fun _ hk => hk.2) (.slice Ao22 t265.length co22)) (fun _ hk => hk.2) (.slice Ao23 t268.length co23)) (fun _ h_ => h_.1))) hb); have n1_ := Aside0.mk (Kd.R_below (by (with_reducible repeat (first | apply Kd.R_alloc | apply Kd.R_drewN | apply Kd.R_drew)); exact (Kd.R_mono (Kd.R_far (p := ⟨gb272, 2, none⟩) (Kd.R_far (p := ⟨gb272, 1, none⟩) (Kd.R_far (p := ⟨gb272, 0, none⟩) (Kd.R_types HO255.out BK272.out (by decide)) (fun _ hk => hk.2) (.int .i64 t264)) (fun _ hk => hk.2) (.slice Ao22 t265.length co22)) (fun _ hk => hk.2) (.slice Ao23 t268.length co23)) (fun _ h_ => h_.1))) hb); have n2_ := Aside0.mk (Kd.S_below (by (with_reducible repeat (first | apply Kd.S_alloc | apply Kd.S_drewN | apply Kd.S_drew)); exact (Kd.S_mono (Kd.S_far (p := ⟨gb272, 2, none⟩) (Kd.S_far (p := ⟨gb272, 1, none⟩) (Kd.S_far (p := ⟨gb272, 0, none⟩) (Kd.S_types HO258.out BK272.out (by decide)) (fun _ hk => hk.2) (.int .i64 t264)) (fun _ hk => hk.2) (.slice Ao22 t265.length co22)) (fun _ hk => hk.2) (.slice Ao23 t268.length co23)) (fun _ h_ => h_.1))) hb); have n3_ := Aside0.mk (Kd.R_below (by (with_reducible repeat (first | apply Kd.R_alloc | apply Kd.R_drewN | apply Kd.R_drew)); exact (Kd.R_mono (Kd.R_far (p := ⟨gb272, 2, none⟩) (Kd.R_far (p := ⟨gb272, 1, none⟩) (Kd.R_far (p := ⟨gb272, 0, none⟩) (Kd.R_types HO263.out BK272.out (by decide)) (fun _ hk => hk.2) (.int .i64 t264)) (fun _ hk => hk.2) (.slice Ao22 t265.length co22)) (fun _ hk => hk.2) (.slice Ao23 t268.length co23)) (fun _ h_ => h_.1))) hb); have n4_ := Aside0.mk (Kd.R_below (by (with_reducible repeat (first | apply Kd.R_alloc | apply Kd.R_drewN | apply Kd.R_drew)); exact (Kd.R_mono (Kd.R_far (p := ⟨gb272, 2, none⟩) (Kd.R_far (p := ⟨gb272, 1, none⟩) (Kd.R_far (p := ⟨gb272, 0, none⟩) (Kd.R_types HO267.out BK272.out (by decide)) (fun _ hk => hk.2) (.int .i64 t264)) (fun _ hk => hk.2) (.slice Ao22 t265.length co22)) (fun _ hk => hk.2) (.slice Ao23 t268.length co23)) (fun _ h_ => h_.1))) hb); have n5_ := Aside0.mk (Kd.S_below (by (with_reducible repeat (first | apply Kd.S_alloc | apply Kd.S_drewN | apply Kd.S_drew)); exact (Kd.S_mono (Kd.S_far (p := ⟨gb272, 2, none⟩) (Kd.S_far (p := ⟨gb272, 1, none⟩) (Kd.S_far (p := ⟨gb272, 0, none⟩) (Kd.S_types HO270.out BK272.out (by decide)) (fun _ hk => hk.2) (.int .i64 t264)) (fun _ hk => hk.2) (.slice Ao22 t265.length co22)) (fun _ hk => hk.2) (.slice Ao23 t268.length co23)) (fun _ h_ => h_.1))) hb); have n6_ := Aside0.mk (blk_below (g := gb260) (o := .cells #[.int .i64 t252, .slice Ao13 t253.length co13, .slice Ao14 t256.length co14] 58 (0, 0)) (by (with_reducible repeat (first | refine blk_drewN ?_ _ | refine blk_drew ?_ | refine blk_alloc ?_ _)); refine blk_far ?_ NB260_272.out _; (with_reducible repeat (first | refine blk_drewN ?_ _ | refine blk_drew ?_ | refine blk_alloc ?_ _)); refine blk_far ?_ NB260_272.out _; (with_reducible repeat (first | refine blk_drewN ?_ _ | refine blk_drew ?_ | refine blk_alloc ?_ _)); refine blk_far ?_ NB260_272.out _; (with_reducible repeat (first | refine blk_drewN ?_ _ | refine blk_drew ?_ | refine blk_alloc ?_ _)); exact BK260.out) hb); have n7_ := Aside0.mk (blk_below (g := gb272) (o := .cells #[.int .i64 t264, .slice Ao22 t265.length co22, .slice Ao23 t268.length co23] 58 (0, 0)) (by (with_reducible repeat (first | refine blk_drewN ?_ _ | refine blk_drew ?_ | refine blk_alloc ?_ _)); refine blk_put (cs := #[.int .i64 t264, .slice Ao22 t265.length co22, .slice none 0 0]) ?_ 2 _ rfl; (with_reducible repeat (first | refine blk_drewN ?_ _ | refine blk_drew ?_ | refine blk_alloc ?_ _)); refine blk_put (cs := #[.int .i64 t264, .slice none 0 0, .slice none 0 0]) ?_ 1 _ rfl; (with_reducible repeat (first | refine blk_drewN ?_ _ | refine blk_drew ?_ | refine blk_alloc ?_ _)); refine blk_put (cs := #[.int .i64 0, .slice none 0 0, .slice none 0 0]) ?_ 0 _ rfl; (with_reducible repeat (first | refine blk_drewN ?_ _ | refine blk_drew ?_ | refine blk_alloc ?_ _)); exact BK272.out) hb); have n8_ := Aside0.mk (below_step (by repeat (first | (with_reducible first | exact HB.out | apply below_alloc | apply pw_below_drewN | apply below_drew1 | refine below_set ?_ GE260.out | refine below_set ?_ GE272.out) | exact HB.out)) hb); clear HO251; clear HO255; clear HO258; clear HO263; clear HO267; clear HO270; clear BK260; clear BK272; clear HB; have HO251 := n0_; have HO255 := n1_; have HO258 := n2_; have HO263 := n3_; have HO267 := n4_; have HO270 := n5_; have BK260 := n6_; have BK272 := n7_; have HB := n8_; clear n0_ n1_ n2_ n3_ n4_ n5_ n6_ n7_ n8_; (try clear hb); (try clear hb2); (try clear hk); (try clear hi)))
    go_meet
    case rel => exact ⟨_, (true), (by first | rfl | (simp; done) | (simp [*]; done)), H', ⟨by first | omega | exact Nat.le_refl _⟩, ⟨by (with_reducible repeat (first | apply Kd.R_alloc | apply Kd.R_drewN | apply Kd.R_drew)); exact Kd.R_mono HO263.out (by first | exact (fun _ hk => ⟨hk.1.2, hk.2⟩) | (intro k_ hk_; simp [hk_]; done) | (intro k_ hk_; simp_all))⟩, ⟨by (with_reducible repeat (first | apply Kd.R_alloc | apply Kd.R_drewN | apply Kd.R_drew)); exact Kd.R_mono HO255.out (by first | exact (fun _ hk => ⟨hk.1.2, hk.2⟩) | (intro k_ hk_; simp [hk_]; done) | (intro k_ hk_; simp_all))⟩, ⟨by (with_reducible repeat (first | apply Kd.S_alloc | apply Kd.S_drewN | apply Kd.S_drew)); exact Kd.S_mono HO258.out (by (intro k_ hk_; (repeat' (with_reducible apply And.intro)) <;> with_reducible first | exact trivial | exact hk_ | exact hk_.1 | exact hk_.2 | exact hk_.1.1 | exact hk_.1.2 | exact hk_.2.1 | exact hk_.2.2 | exact hk_.1.1.1 | exact hk_.1.1.2 | exact hk_.1.2.1 | exact hk_.1.2.2 | exact hk_.2.1.1 | exact hk_.2.1.2 | exact hk_.2.2.1 | exact hk_.2.2.2 | exact hk_.1.1.1.1 | exact hk_.1.1.1.2 | exact hk_.1.1.2.1 | exact hk_.1.1.2.2 | exact hk_.1.2.1.1 | exact hk_.1.2.1.2 | exact hk_.1.2.2.1 | exact hk_.1.2.2.2 | exact hk_.2.1.1.1 | exact hk_.2.1.1.2 | exact hk_.2.1.2.1 | exact hk_.2.1.2.2 | exact hk_.2.2.1.1 | exact hk_.2.2.1.2 | exact hk_.2.2.2.1 | exact hk_.2.2.2.2 | exact hk_.1.1.1.1.1 | exact hk_.1.1.1.1.2 | exact hk_.1.1.1.2.1 | exact hk_.1.1.1.2.2 | exact hk_.1.1.2.1.1 | exact hk_.1.1.2.1.2 | exact hk_.1.1.2.2.1 | exact hk_.1.1.2.2.2 | exact hk_.1.2.1.1.1 | exact hk_.1.2.1.1.2 | exact hk_.1.2.1.2.1 | exact hk_.1.2.1.2.2 | exact hk_.1.2.2.1.1 | exact hk_.1.2.2.1.2 | exact hk_.1.2.2.2.1 | exact hk_.1.2.2.2.2 | exact hk_.2.1.1.1.1 | exact hk_.2.1.1.1.2 | exact hk_.2.1.1.2.1 | exact hk_.2.1.1.2.2 | exact hk_.2.1.2.1.1 | exact hk_.2.1.2.1.2 | exact hk_.2.1.2.2.1 | exact hk_.2.1.2.2.2 | exact hk_.2.2.1.1.1 | exact hk_.2.2.1.1.2 | exact hk_.2.2.1.2.1 | exact hk_.2.2.1.2.2 | exact hk_.2.2.2.1.1 | exact hk_.2.2.2.1.2 | exact hk_.2.2.2.2.1 | exact hk_.2.2.2.2.2 | exact hk_.1.1.1.1.1.1 | exact hk_.1.1.1.1.1.2 | exact hk_.1.1.1.1.2.1 | exact hk_.1.1.1.1.2.2 | exact hk_.1.1.1.2.1.1 | exact hk_.1.1.1.2.1.2 | exact hk_.1.1.1.2.2.1 | exact hk_.1.1.1.2.2.2 | exact hk_.1.1.2.1.1.1 | exact hk_.1.1.2.1.1.2 | exact hk_.1.1.2.1.2.1 | exact hk_.1.1.2.1.2.2 | exact hk_.1.1.2.2.1.1 | exact hk_.1.1.2.2.1.2 | exact hk_.1.1.2.2.2.1 | exact hk_.1.1.2.2.2.2 | exact hk_.1.2.1.1.1.1 | exact hk_.1.2.1.1.1.2 | exact hk_.1.2.1.1.2.1 | exact hk_.1.2.1.1.2.2 | exact hk_.1.2.1.2.1.1 | exact hk_.1.2.1.2.1.2 | exact hk_.1.2.1.2.2.1 | exact hk_.1.2.1.2.2.2 | exact hk_.1.2.2.1.1.1 | exact hk_.1.2.2.1.1.2 | exact hk_.1.2.2.1.2.1 | exact hk_.1.2.2.1.2.2 | exact hk_.1.2.2.2.1.1 | exact hk_.1.2.2.2.1.2 | exact hk_.1.2.2.2.2.1 | exact hk_.1.2.2.2.2.2 | exact hk_.2.1.1.1.1.1 | exact hk_.2.1.1.1.1.2 | exact hk_.2.1.1.1.2.1 | exact hk_.2.1.1.1.2.2 | exact hk_.2.1.1.2.1.1 | exact hk_.2.1.1.2.1.2 | exact hk_.2.1.1.2.2.1 | exact hk_.2.1.1.2.2.2 | exact hk_.2.1.2.1.1.1 | exact hk_.2.1.2.1.1.2 | exact hk_.2.1.2.1.2.1 | exact hk_.2.1.2.1.2.2 | exact hk_.2.1.2.2.1.1 | exact hk_.2.1.2.2.1.2 | exact hk_.2.1.2.2.2.1 | exact hk_.2.1.2.2.2.2 | exact hk_.2.2.1.1.1.1 | exact hk_.2.2.1.1.1.2 | exact hk_.2.2.1.1.2.1 | exact hk_.2.2.1.1.2.2 | exact hk_.2.2.1.2.1.1 | exact hk_.2.2.1.2.1.2 | exact hk_.2.2.1.2.2.1 | exact hk_.2.2.1.2.2.2 | exact hk_.2.2.2.1.1.1 | exact hk_.2.2.2.1.1.2 | exact hk_.2.2.2.1.2.1 | exact hk_.2.2.2.1.2.2 | exact hk_.2.2.2.2.1.1 | exact hk_.2.2.2.2.1.2 | exact hk_.2.2.2.2.2.1 | exact hk_.2.2.2.2.2.2))⟩, ⟨by (with_reducible repeat (first | apply Kd.R_alloc | apply Kd.R_drewN | apply Kd.R_drew)); exact Kd.R_mono HO267.out (by first | exact (fun _ hk => ⟨hk.2, hk.1.2⟩) | (intro k_ hk_; simp [hk_]; done) | (intro k_ hk_; simp_all))⟩, ⟨by (with_reducible repeat (first | apply Kd.S_alloc | apply Kd.S_drewN | apply Kd.S_drew)); exact Kd.S_mono HO270.out (by (intro k_ hk_; (repeat' (with_reducible apply And.intro)) <;> with_reducible first | exact trivial | exact hk_ | exact hk_.1 | exact hk_.2 | exact hk_.1.1 | exact hk_.1.2 | exact hk_.2.1 | exact hk_.2.2 | exact hk_.1.1.1 | exact hk_.1.1.2 | exact hk_.1.2.1 | exact hk_.1.2.2 | exact hk_.2.1.1 | exact hk_.2.1.2 | exact hk_.2.2.1 | exact hk_.2.2.2 | exact hk_.1.1.1.1 | exact hk_.1.1.1.2 | exact hk_.1.1.2.1 | exact hk_.1.1.2.2 | exact hk_.1.2.1.1 | exact hk_.1.2.1.2 | exact hk_.1.2.2.1 | exact hk_.1.2.2.2 | exact hk_.2.1.1.1 | exact hk_.2.1.1.2 | exact hk_.2.1.2.1 | exact hk_.2.1.2.2 | exact hk_.2.2.1.1 | exact hk_.2.2.1.2 | exact hk_.2.2.2.1 | exact hk_.2.2.2.2 | exact hk_.1.1.1.1.1 | exact hk_.1.1.1.1.2 | exact hk_.1.1.1.2.1 | exact hk_.1.1.1.2.2 | exact hk_.1.1.2.1.1 | exact hk_.1.1.2.1.2 | exact hk_.1.1.2.2.1 | exact hk_.1.1.2.2.2 | exact hk_.1.2.1.1.1 | exact hk_.1.2.1.1.2 | exact hk_.1.2.1.2.1 | exact hk_.1.2.1.2.2 | exact hk_.1.2.2.1.1 | exact hk_.1.2.2.1.2 | exact hk_.1.2.2.2.1 | exact hk_.1.2.2.2.2 | exact hk_.2.1.1.1.1 | exact hk_.2.1.1.1.2 | exact hk_.2.1.1.2.1 | exact hk_.2.1.1.2.2 | exact hk_.2.1.2.1.1 | exact hk_.2.1.2.1.2 | exact hk_.2.1.2.2.1 | exact hk_.2.1.2.2.2 | exact hk_.2.2.1.1.1 | exact hk_.2.2.1.1.2 | exact hk_.2.2.1.2.1 | exact hk_.2.2.1.2.2 | exact hk_.2.2.2.1.1 | exact hk_.2.2.2.1.2 | exact hk_.2.2.2.2.1 | exact hk_.2.2.2.2.2 | exact hk_.1.1.1.1.1.1 | exact hk_.1.1.1.1.1.2 | exact hk_.1.1.1.1.2.1 | exact hk_.1.1.1.1.2.2 | exact hk_.1.1.1.2.1.1 | exact hk_.1.1.1.2.1.2 | exact hk_.1.1.1.2.2.1 | exact hk_.1.1.1.2.2.2 | exact hk_.1.1.2.1.1.1 | exact hk_.1.1.2.1.1.2 | exact hk_.1.1.2.1.2.1 | exact hk_.1.1.2.1.2.2 | exact hk_.1.1.2.2.1.1 | exact hk_.1.1.2.2.1.2 | exact hk_.1.1.2.2.2.1 | exact hk_.1.1.2.2.2.2 | exact hk_.1.2.1.1.1.1 | exact hk_.1.2.1.1.1.2 | exact hk_.1.2.1.1.2.1 | exact hk_.1.2.1.1.2.2 | exact hk_.1.2.1.2.1.1 | exact hk_.1.2.1.2.1.2 | exact hk_.1.2.1.2.2.1 | exact hk_.1.2.1.2.2.2 | exact hk_.1.2.2.1.1.1 | exact hk_.1.2.2.1.1.2 | exact hk_.1.2.2.1.2.1 | exact hk_.1.2.2.1.2.2 | exact hk_.1.2.2.2.1.1 | exact hk_.1.2.2.2.1.2 | exact hk_.1.2.2.2.2.1 | exact hk_.1.2.2.2.2.2 | exact hk_.2.1.1.1.1.1 | exact hk_.2.1.1.1.1.2 | exact hk_.2.1.1.1.2.1 | exact hk_.2.1.1.1.2.2 | exact hk_.2.1.1.2.1.1 | exact hk_.2.1.1.2.1.2 | exact hk_.2.1.1.2.2.1 | exact hk_.2.1.1.2.2.2 | exact hk_.2.1.2.1.1.1 | exact hk_.2.1.2.1.1.2 | exact hk_.2.1.2.1.2.1 | exact hk_.2.1.2.1.2.2 | exact hk_.2.1.2.2.1.1 | exact hk_.2.1.2.2.1.2 | exact hk_.2.1.2.2.2.1 | exact hk_.2.1.2.2.2.2 | exact hk_.2.2.1.1.1.1 | exact hk_.2.2.1.1.1.2 | exact hk_.2.2.1.1.2.1 | exact hk_.2.2.1.1.2.2 | exact hk_.2.2.1.2.1.1 | exact hk_.2.2.1.2.1.2 | exact hk_.2.2.1.2.2.1 | exact hk_.2.2.1.2.2.2 | exact hk_.2.2.2.1.1.1 | exact hk_.2.2.2.1.1.2 | exact hk_.2.2.2.1.2.1 | exact hk_.2.2.2.1.2.2 | exact hk_.2.2.2.2.1.1 | exact hk_.2.2.2.2.1.2 | exact hk_.2.2.2.2.2.1 | exact hk_.2.2.2.2.2.2))⟩, ⟨by (with_reducible repeat (first | refine blk_drewN ?_ _ | refine blk_drew ?_ | refine blk_alloc ?_ _)); exact BK260.out⟩, ⟨by (with_reducible repeat (first | refine blk_drewN ?_ _ | refine blk_drew ?_ | refine blk_alloc ?_ _)); exact BK272.out⟩, ⟨by repeat (first | (with_reducible first | exact HB.out | apply below_alloc | apply pw_below_drewN | apply below_drew1 | refine below_set ?_ GE260.out | refine below_set ?_ GE272.out) | exact HB.out)⟩⟩
  case rest =>
   clear HC7
   try clear c1
   try clear c2
   try clear c2b0
   try clear c2b1
   try clear p2
   try clear c3
   try clear c9
   try clear c18
   try clear c20
   try clear c25
   try clear c26
   try clear c30
   try clear hcz12_0
   try clear hcz12_1
   try clear hcz12_2
   try clear hcz21_0
   try clear hcz21_1
   try clear hcz21_2
   try clear hcz27_0
   try clear hcz27_1
   try clear hcz27_2
   try clear hcz28_0
   try clear hcz28_1
   try clear hcz28_2
   try clear hcz31_0
   try clear hcz31_1
   try clear hcz31_2
   try clear hcz32_0
   try clear hcz32_1
   try clear hcz32_2
   try clear hfz12_0
   try clear hfz12_1
   try clear hfz12_2
   try clear hfz21_0
   try clear hfz21_1
   try clear hfz21_2
   try clear hfz27_0
   try clear hfz27_1
   try clear hfz27_2
   try clear hfz28_0
   try clear hfz28_1
   try clear hfz28_2
   try clear hfz31_0
   try clear hfz31_1
   try clear hfz31_2
   try clear hfz32_0
   try clear hfz32_1
   try clear hfz32_2
   obtain ⟨kq, x37_6, rfl, HA, HJ6, HO_5, HO_261001, HO_261002, HO_273001, HO_273002, BK260, BK272, HB⟩ := hcut
   cases kq with
   | zero => exact absurd HA.out (by simp [laws_FnExactWaveOf.j0])
   | succ kj6 =>
    have H := HA.out
    clear HA
    simp only [laws_FnExactWaveOf.j0] at H
    by_cases c34 : x37_6 = true
    ·subst c34
     have H1 : (some false) = some r := by rw [if_pos rfl] at H; exact H
     clear H
     have H := H1
     clear H1
     exact absurd ((Option.some.inj H).trans HRT_.out) (by decide)
    ·replace c34 := Bool.eq_false_iff.mpr c34
     subst c34
     have H1 : ((laws_toIntS.f kj6 l0).bind fun t274 => ((laws_eqIntS.f kj6 t261 t274).bind fun t277 => (if t277 = true then ((laws_markIntS.f kj6 t261 1).bind fun bt278 => (if bt278.1 < 0 then (laws_FnExactWaveOf.j1 kj6 l0 t259 true t252 t253 t256 t264 t265 t268) else ((laws_eqWave.f kj6 t264 t265 t268 t252 t253 t256).bind fun t280 => (if t280 = true then (laws_FnExactWaveOf.j1 kj6 l0 t259 (t271 != t259) t252 t253 t256 t264 t265 t268) else (laws_FnExactWaveOf.j1 kj6 l0 t259 true t252 t253 t256 t264 t265 t268))))) else (some false)))) = some r := by rw [if_neg (show ¬ (false = true) by decide)] at H; exact H
     clear H
     have H := H1
     clear H1
     replace H := Option.bind_eq_some_iff.mp H
     obtain ⟨t274, A350, H⟩ := H
     replace H : ((laws_eqIntS.f kj6 t261 t274).bind fun t277 => (if t277 = true then ((laws_markIntS.f kj6 t261 1).bind fun bt278 => (if bt278.1 < 0 then (laws_FnExactWaveOf.j1 kj6 l0 t259 true t252 t253 t256 t264 t265 t268) else ((laws_eqWave.f kj6 t264 t265 t268 t252 t253 t256).bind fun t280 => (if t280 = true then (laws_FnExactWaveOf.j1 kj6 l0 t259 (t271 != t259) t252 t253 t256 t264 t265 t268) else (laws_FnExactWaveOf.j1 kj6 l0 t259 true t252 t253 t256 t264 t265 t268))))) else (some false))) = some r := H
     have A35 := Aside0.mk A350
     clear A350
     replace H := Option.bind_eq_some_iff.mp H
     obtain ⟨t277, A360, H⟩ := H
     replace H : (if t277 = true then ((laws_markIntS.f kj6 t261 1).bind fun bt278 => (if bt278.1 < 0 then (laws_FnExactWaveOf.j1 kj6 l0 t259 true t252 t253 t256 t264 t265 t268) else ((laws_eqWave.f kj6 t264 t265 t268 t252 t253 t256).bind fun t280 => (if t280 = true then (laws_FnExactWaveOf.j1 kj6 l0 t259 (t271 != t259) t252 t253 t256 t264 t265 t268) else (laws_FnExactWaveOf.j1 kj6 l0 t259 true t252 t253 t256 t264 t265 t268))))) else (some false)) = some r := H
     have A36 := Aside0.mk A360
     clear A360
     by_cases c37 : t277 = true
     ·subst c37
      have H1 : ((laws_markIntS.f kj6 t261 1).bind fun bt278 => (if bt278.1 < 0 then (laws_FnExactWaveOf.j1 kj6 l0 t259 true t252 t253 t256 t264 t265 t268) else ((laws_eqWave.f kj6 t264 t265 t268 t252 t253 t256).bind fun t280 => (if t280 = true then (laws_FnExactWaveOf.j1 kj6 l0 t259 (t271 != t259) t252 t253 t256 t264 t265 t268) else (laws_FnExactWaveOf.j1 kj6 l0 t259 true t252 t253 t256 t264 t265 t268))))) = some r := by rw [if_pos rfl] at H; exact H
      clear H
      have H := H1
      clear H1
      replace H := Option.bind_eq_some_iff.mp H
      obtain ⟨⟨t278, t279⟩, A380, H⟩ := H
      replace H : (if t278 < 0 then (laws_FnExactWaveOf.j1 kj6 l0 t259 true t252 t253 t256 t264 t265 t268) else ((laws_eqWave.f kj6 t264 t265 t268 t252 t253 t256).bind fun t280 => (if t280 = true then (laws_FnExactWaveOf.j1 kj6 l0 t259 (t271 != t259) t252 t253 t256 t264 t265 t268) else (laws_FnExactWaveOf.j1 kj6 l0 t259 true t252 t253 t256 t264 t265 t268)))) = some r := H
      have A38 := Aside0.mk A380
      clear A380
      have HC39 := Aside0.mk H
      clear H
      go_upto_region 12 with (first | ((with_reducible refine gate_callee (f := 18) rfl ?_); refine goesL_ (some 40) rfl rfl Try.func18 (by kernel_rfl) rfl #[.slice A0 l0.length c0] rfl (by (try simp only [List.map_toArray, List.map_cons, List.map_nil]); first | done | rfl | (simp only [List.length_drop, List.length_take]; rfl)) ?_; (with_reducible refine (laws_toIntS.calls kj6 _ _ l0 t274 _ ?side1 ?side2 A35.out).mono ?_); (case side1 => repeat (first | exact (Kd.C_below HR0.out HB.out) | (with_reducible refine Kd.C_alloc ?_ _) | (with_reducible refine Kd.C_drewN ?_ _) | (with_reducible refine Kd.C_drew ?_))); (case side2 => exact HC0.out); rintro e w40 ⟨v275, rfl, ho0, hb⟩; refine ⟨_, rfl, ?_⟩; have n0_ := Aside0.mk (Kd.R_elder' (by (with_reducible repeat (first | apply Kd.R_alloc | apply Kd.R_drewN | apply Kd.R_drew)); exact HO_5.out) (Kd.R_base ho0) hb); have n1_ := Aside0.mk (Kd.R_elder' (by (with_reducible repeat (first | apply Kd.R_alloc | apply Kd.R_drewN | apply Kd.R_drew)); exact HO_261001.out) (Kd.R_base ho0) hb); have n2_ := Aside0.mk (Kd.S_below (by (with_reducible repeat (first | apply Kd.S_alloc | apply Kd.S_drewN | apply Kd.S_drew)); exact HO_261002.out) hb); have n3_ := Aside0.mk (Kd.R_elder' (by (with_reducible repeat (first | apply Kd.R_alloc | apply Kd.R_drewN | apply Kd.R_drew)); exact HO_273001.out) (Kd.R_base ho0) hb); have n4_ := Aside0.mk (Kd.S_below (by (with_reducible repeat (first | apply Kd.S_alloc | apply Kd.S_drewN | apply Kd.S_drew)); exact HO_273002.out) hb); have n5_ := Aside0.mk (Kd.R_lower (Kd.R_new' (Kd.R_new' (Kd.R_new' ho0 (Kd.R_lt (by (with_reducible repeat (first | apply Kd.R_alloc | apply Kd.R_drewN | apply Kd.R_drew)); exact HO_5.out))) (Kd.R_lt (by (with_reducible repeat (first | apply Kd.R_alloc | apply Kd.R_drewN | apply Kd.R_drew)); exact HO_261001.out))) (Kd.R_lt (by (with_reducible repeat (first | apply Kd.R_alloc | apply Kd.R_drewN | apply Kd.R_drew)); exact HO_273001.out))) (below_size (by repeat (first | (with_reducible first | exact HB.out | apply below_alloc | apply pw_below_drewN | apply below_drew1 | refine below_set ?_ GE260.out | refine below_set ?_ GE272.out) | exact HB.out)))); have n6_ := Aside0.mk (blk_below (g := gb260) (o := .cells #[.int .i64 t252, .slice Ao13 t253.length co13, .slice Ao14 t256.length co14] 58 (0, 0)) (by (with_reducible repeat (first | refine blk_drewN ?_ _ | refine blk_drew ?_ | refine blk_alloc ?_ _)); exact BK260.out) hb); have n7_ := Aside0.mk (blk_below (g := gb272) (o := .cells #[.int .i64 t264, .slice Ao22 t265.length co22, .slice Ao23 t268.length co23] 58 (0, 0)) (by (with_reducible repeat (first | refine blk_drewN ?_ _ | refine blk_drew ?_ | refine blk_alloc ?_ _)); exact BK272.out) hb); have n8_ := Aside0.mk (below_step (by repeat (first | (with_reducible first | exact HB.out | apply below_alloc | apply pw_below_drewN | apply below_drew1 | refine below_set ?_ GE260.out | refine below_set ?_ GE272.out) | exact HB.out)) hb); clear HO_5; clear HO_261001; clear HO_261002; clear HO_273001; clear HO_273002; clear BK260; clear BK272; clear HB; have HO_5 := n0_; have HO_261001 := n1_; have HO_261002 := n2_; have HO_273001 := n3_; have HO_273002 := n4_; have HO276 := n5_; have BK260 := n6_; have BK272 := n7_; have HB := n8_; clear n0_ n1_ n2_ n3_ n4_ n5_ n6_ n7_ n8_; (try clear hb); (try clear hb2); (try clear hk); (try clear hi); (try clear ho0); obtain ⟨Ao41, co41, eo41⟩ := Kd.R_slice HO276.out; subst eo41) | ((with_reducible refine gate_callee (f := 20) rfl ?_); refine goesL_ (some 41) rfl rfl Try.func20 (by kernel_rfl) rfl #[.slice Ao17 t261.length co17, .slice Ao41 t274.length co41] rfl (by (try simp only [List.map_toArray, List.map_cons, List.map_nil]); first | done | rfl | (simp only [List.length_drop, List.length_take]; rfl)) ?_; (with_reducible refine (laws_eqIntS.calls kj6 _ _ t261 _ _ t274 true _ ?side1 ?side2 ?side3 ?side4 A36.out).mono ?_); (case side1 => repeat (first | exact (Kd.R_reads' HO_5.out).2.2 | (with_reducible refine Kd.C_alloc ?_ _) | (with_reducible refine Kd.C_drewN ?_ _) | (with_reducible refine Kd.C_drew ?_))); (case side2 => exact (Kd.R_reads' HO_5.out).2.1); (case side3 => repeat (first | exact (Kd.R_reads' HO276.out).2.2 | (with_reducible refine Kd.C_alloc ?_ _) | (with_reducible refine Kd.C_drewN ?_ _) | (with_reducible refine Kd.C_drew ?_))); (case side4 => exact (Kd.R_reads' HO276.out).2.1); rintro e w' ⟨rfl, ⟨nd, rfl⟩⟩; refine ⟨_, rfl, ?_⟩) | ((with_reducible refine gate_callee (f := 21) rfl ?_); refine goesL_ (some 45) rfl rfl Try.func21 (by kernel_rfl) rfl #[.slice Ao17 t261.length co17, .int .i64 1] rfl (by (try simp only [List.map_toArray, List.map_cons, List.map_nil]); first | done | rfl | (simp only [List.length_drop, List.length_take]; rfl)) ?_; (with_reducible refine (laws_markIntS.calls kj6 (fun k_ => some k_ = (.slice Ao17 t261.length co17 : Value).ownBlock) (.slice Ao17 t261.length co17) t261 1 t278 t279 w _ ?side1 ?side2 A38.out).mono ?_); (case side1 => repeat (first | (with_reducible first | exact HB.out | apply below_alloc | apply pw_below_drewN | apply below_drew1 | refine below_set ?_ GE260.out | refine below_set ?_ GE272.out) | exact HB.out)); (case side2 => exact Kd.R_tight rfl HO_5.out); rintro e w42 ⟨rfl, hy0, hb, hkp⟩; refine ⟨_, rfl, ?_⟩; have n0_ := Aside0.mk (Kd.R_reok rfl hy0 (fun k_ e_ => HO_5.out.1 k_ e_)); have n1_ := Aside0.mk (Kd.R_mono (ok' := fun k_ => some k_ ≠ (.slice Ao17 t261.length co17 : Value).ownBlock ∧ some k_ ≠ (.slice Ao22 t265.length co22 : Value).ownBlock ∧ some k_ ≠ (.slice Ao41 t274.length co41 : Value).ownBlock) (Kd.R_keptB (HO_261001.out) hkp (by first | exact (fun k_ hk_ hs_ => (hk_.1.1) hs_) | (intro k_ hk_ hs_; exact absurd hs_ (by simp [hk_])))) (by first | exact (fun k_ hk_ => ⟨hk_.1.1.1, hk_.1.1.2, hk_.1.2⟩) | (intro k_ hk_; simp [hk_]))); have n2_ := Aside0.mk (Kd.S_mono (ok' := fun k_ => some k_ ≠ (.slice Ao23 t268.length co23 : Value).ownBlock ∧ k_ < N_) (Kd.S_keptB ((Kd.S_apart' HO_261002.out (Kd.R_typed HO_5.out) (by decide))) hkp (by first | exact (fun k_ hk_ hs_ => (hk_.2) hs_) | (intro k_ hk_ hs_; exact absurd hs_ (by simp [hk_])))) (by first | exact (fun k_ hk_ => hk_.1.1) | (intro k_ hk_; simp [hk_]))); have n3_ := Aside0.mk (Kd.R_mono (ok' := fun k_ => some k_ ≠ (.slice Ao17 t261.length co17 : Value).ownBlock ∧ some k_ ≠ (.slice Ao13 t253.length co13 : Value).ownBlock ∧ some k_ ≠ (.slice Ao41 t274.length co41 : Value).ownBlock) (Kd.R_keptB (HO_273001.out) hkp (by first | exact (fun k_ hk_ hs_ => (hk_.1.1) hs_) | (intro k_ hk_ hs_; exact absurd hs_ (by simp [hk_])))) (by first | exact (fun k_ hk_ => ⟨hk_.1.1.1, hk_.1.1.2, hk_.1.2⟩) | (intro k_ hk_; simp [hk_]))); have n4_ := Aside0.mk (Kd.S_mono (ok' := fun k_ => some k_ ≠ (.slice Ao14 t256.length co14 : Value).ownBlock ∧ N_ ≤ k_) (Kd.S_keptB ((Kd.S_apart' HO_273002.out (Kd.R_typed HO_5.out) (by decide))) hkp (by first | exact (fun k_ hk_ hs_ => (hk_.2) hs_) | (intro k_ hk_ hs_; exact absurd hs_ (by simp [hk_])))) (by first | exact (fun k_ hk_ => hk_.1.1) | (intro k_ hk_; simp [hk_]))); have n5_ := Aside0.mk (blk_kept (by (with_reducible repeat (first | refine blk_drewN ?_ _ | refine blk_drew ?_ | refine blk_alloc ?_ _)); exact BK260.out) hkp (fun hs_ => (fun e_ => (Kd.R_ne HO_5.out BK260.out (by decide)) e_) hs_)); have n6_ := Aside0.mk (blk_kept (by (with_reducible repeat (first | refine blk_drewN ?_ _ | refine blk_drew ?_ | refine blk_alloc ?_ _)); exact BK272.out) hkp (fun hs_ => (fun e_ => (Kd.R_ne HO_5.out BK272.out (by decide)) e_) hs_)); have n7_ := Aside0.mk (Kd.R_mono (ok' := fun k_ => some k_ ≠ (.slice Ao17 t261.length co17 : Value).ownBlock ∧ some k_ ≠ (.slice Ao13 t253.length co13 : Value).ownBlock ∧ some k_ ≠ (.slice Ao22 t265.length co22 : Value).ownBlock) (Kd.R_keptB (HO276.out) hkp (by first | exact (fun k_ hk_ hs_ => (hk_.1.1.2) hs_) | (intro k_ hk_ hs_; exact absurd hs_ (by simp [hk_])))) (by first | exact (fun k_ hk_ => ⟨hk_.1.1.1.2, hk_.1.1.2, hk_.1.2⟩) | (intro k_ hk_; simp [hk_]))); have n8_ := Aside0.mk (hb); clear HO_5; clear HO_261001; clear HO_261002; clear HO_273001; clear HO_273002; clear BK260; clear BK272; clear HO276; clear HB; have HO_5 := n0_; have HO_261001 := n1_; have HO_261002 := n2_; have HO_273001 := n3_; have HO_273002 := n4_; have BK260 := n5_; have BK272 := n6_; have HO276 := n7_; have HB := n8_; clear n0_ n1_ n2_ n3_ n4_ n5_ n6_ n7_ n8_; (try clear hb); (try clear hkp); (try clear hy0)))
      (try simp only [Act.put, List.setIfInBounds_toArray, List.set_cons_zero, List.set_cons_succ])
      go_cut [58] (fun v58 wc => ∃ (kq : Nat) (x58_38 : Bool), v58 = .bool x58_38 ∧ Aside0 (laws_FnExactWaveOf.j1 kq l0 t259 x58_38 t252 t253 t256 t264 t265 t268 = some r) ∧ Aside0 (kq ≤ kj6) ∧ Aside0 (Kd.R (Kd.int .i64) 3 wc w.heap.size (fun k_ => some k_ ≠ ((.slice Ao22 t265.length co22) : Value).ownBlock) (.slice Ao13 t253.length co13) t253) ∧ Aside0 (Kd.S k29 29 wc w.heap.size (fun k_ => some k_ ≠ ((.slice Ao23 t268.length co23) : Value).ownBlock ∧ k_ < N_) (.slice Ao14 t256.length co14) t256) ∧ Aside0 (Kd.R (Kd.int .i64) 3 wc w.heap.size (fun k_ => some k_ ≠ ((.slice Ao13 t253.length co13) : Value).ownBlock) (.slice Ao22 t265.length co22) t265) ∧ Aside0 (Kd.S k29 29 wc w.heap.size (fun k_ => some k_ ≠ ((.slice Ao14 t256.length co14) : Value).ownBlock ∧ N_ ≤ k_) (.slice Ao23 t268.length co23) t268) ∧ Aside0 (wc.heap[gb260]? = some (.cells #[.int .i64 t252, (.slice Ao13 t253.length co13), (.slice Ao14 t256.length co14)] 58 (0, 0))) ∧ Aside0 (wc.heap[gb272]? = some (.cells #[.int .i64 t264, (.slice Ao22 t265.length co22), (.slice Ao23 t268.length co23)] 58 (0, 0))) ∧ Aside0 (Below w.heap.size w wc))
      case first =>
       have H := HC39.out
       clear HC39
       by_cases c43 : t278 < 0
       ·rw [if_pos c43] at H
        have c43b0 : decide (t278 < 0) = true := decide_eq_true c43
        clear c43
        (first | rw [c43b0] | (simp only [i64_w, i32_w]; rw [c43b0]) | skip)
        have H' := Aside0.mk H
        clear H
        go_wp2
        go_meet
        case rel => exact ⟨_, (true), (by first | rfl | (simp; done) | (simp [*]; done)), H', ⟨by have := HJ6.out; first | omega | exact Nat.le_refl _⟩, ⟨by (with_reducible repeat (first | apply Kd.R_alloc | apply Kd.R_drewN | apply Kd.R_drew)); exact Kd.R_mono HO_261001.out (fun _ hk => hk.2.1)⟩, ⟨by (with_reducible repeat (first | apply Kd.S_alloc | apply Kd.S_drewN | apply Kd.S_drew)); exact HO_261002.out⟩, ⟨by (with_reducible repeat (first | apply Kd.R_alloc | apply Kd.R_drewN | apply Kd.R_drew)); exact Kd.R_mono HO_273001.out (fun _ hk => hk.2.1)⟩, ⟨by (with_reducible repeat (first | apply Kd.S_alloc | apply Kd.S_drewN | apply Kd.S_drew)); exact HO_273002.out⟩, ⟨by (with_reducible repeat (first | refine blk_drewN ?_ _ | refine blk_drew ?_ | refine blk_alloc ?_ _)); exact BK260.out⟩, ⟨by (with_reducible repeat (first | refine blk_drewN ?_ _ | refine blk_drew ?_ | refine blk_alloc ?_ _)); exact BK272.out⟩, ⟨by repeat (first | (with_reducible first | exact HB.out | apply below_alloc | apply pw_below_drewN | apply below_drew1 | refine below_set ?_ GE260.out | refine below_set ?_ GE272.out) | exact HB.out)⟩⟩
       ·rw [if_neg c43] at H
        have c43b0 : decide (t278 < 0) = false := decide_eq_false c43
        clear c43
        (first | rw [c43b0] | (simp only [i64_w, i32_w]; rw [c43b0]) | skip)
        replace H := Option.bind_eq_some_iff.mp H
        obtain ⟨t280, A440, H⟩ := H
        replace H : (if t280 = true then (laws_FnExactWaveOf.j1 kj6 l0 t259 (t271 != t259) t252 t253 t256 t264 t265 t268) else (laws_FnExactWaveOf.j1 kj6 l0 t259 true t252 t253 t256 t264 t265 t268)) = some r := H
        have A44 := Aside0.mk A440
        clear A440
        by_cases c45 : t280 = true
        ·subst c45
         have H1 : (laws_FnExactWaveOf.j1 kj6 l0 t259 (t271 != t259) t252 t253 t256 t264 t265 t268) = some r := by rw [if_pos rfl] at H; exact H
         clear H
         have H := H1
         clear H1
         have H' := Aside0.mk H
         clear H
         have hnb46 := NB272_260.out
         have hnc46 := NB260_272.out
         have hcz47_0 : w42.cell? ⟨gb272, 0, none⟩ = some (.int .i64 t264) := (blk_cell BK272.out 0).trans rfl
         have hcz47_1 : w42.cell? ⟨gb272, 1, none⟩ = some (.slice Ao22 t265.length co22) := (blk_cell BK272.out 1).trans rfl
         have hcz47_2 : w42.cell? ⟨gb272, 2, none⟩ = some (.slice Ao23 t268.length co23) := (blk_cell BK272.out 2).trans rfl
         have hfz47_0 := blk_frozen BK272.out 0
         have hfz47_1 := blk_frozen BK272.out 1
         have hfz47_2 := blk_frozen BK272.out 2
         have hcz48_0 : w42.cell? ⟨gb260, 0, none⟩ = some (.int .i64 t252) := (blk_cell BK260.out 0).trans rfl
         have hcz48_1 : w42.cell? ⟨gb260, 1, none⟩ = some (.slice Ao13 t253.length co13) := (blk_cell BK260.out 1).trans rfl
         have hcz48_2 : w42.cell? ⟨gb260, 2, none⟩ = some (.slice Ao14 t256.length co14) := (blk_cell BK260.out 2).trans rfl
         have hfz48_0 := blk_frozen BK260.out 0
         have hfz48_1 := blk_frozen BK260.out 1
         have hfz48_2 := blk_frozen BK260.out 2
         go_wp2_with (first | (go_at_call 38; (with_reducible refine (laws_eqWave.calls kj6 t264 _ _ t265 _ _ t268 t252 _ _ t253 _ _ t256 true _ ?side1 ?side2 ?side3 ?side4 ?side5 ?side6 ?side7 ?side8 A44.out).mono ?_); (case side1 => repeat (first | exact (Kd.R_reads' HO_273001.out).2.2 | (with_reducible refine Kd.C_alloc ?_ _) | (with_reducible refine Kd.C_drewN ?_ _) | (with_reducible refine Kd.C_drew ?_))); (case side2 => exact (Kd.R_reads' HO_273001.out).2.1); (case side3 => repeat (first | exact (Kd.S_reads' HO_273002.out).2.2 | (with_reducible refine Kd.C_alloc ?_ _) | (with_reducible refine Kd.C_drewN ?_ _) | (with_reducible refine Kd.C_drew ?_))); (case side4 => exact (Kd.S_reads' HO_273002.out).2.1); (case side5 => repeat (first | exact (Kd.R_reads' HO_261001.out).2.2 | (with_reducible refine Kd.C_alloc ?_ _) | (with_reducible refine Kd.C_drewN ?_ _) | (with_reducible refine Kd.C_drew ?_))); (case side6 => exact (Kd.R_reads' HO_261001.out).2.1); (case side7 => repeat (first | exact (Kd.S_reads' HO_261002.out).2.2 | (with_reducible refine Kd.C_alloc ?_ _) | (with_reducible refine Kd.C_drewN ?_ _) | (with_reducible refine Kd.C_drew ?_))); (case side8 => exact (Kd.S_reads' HO_261002.out).2.1); rintro e w49 ⟨rfl, hb⟩; have n0_ := Aside0.mk (Kd.R_below (by (with_reducible repeat (first | apply Kd.R_alloc | apply Kd.R_drewN | apply Kd.R_drew)); exact HO_5.out) hb); have n1_ := Aside0.mk (Kd.R_below (by (with_reducible repeat (first | apply Kd.R_alloc | apply Kd.R_drewN | apply Kd.R_drew)); exact HO_261001.out) hb); have n2_ := Aside0.mk (Kd.S_below (by (with_reducible repeat (first | apply Kd.S_alloc | apply Kd.S_drewN | apply Kd.S_drew)); exact HO_261002.out) hb); have n3_ := Aside0.mk (Kd.R_below (by (with_reducible repeat (first | apply Kd.R_alloc | apply Kd.R_drewN | apply Kd.R_drew)); exact HO_273001.out) hb); have n4_ := Aside0.mk (Kd.S_below (by (with_reducible repeat (first | apply Kd.S_alloc | apply Kd.S_drewN | apply Kd.S_drew)); exact HO_273002.out) hb); have n5_ := Aside0.mk (Kd.R_below (by (with_reducible repeat (first | apply Kd.R_alloc | apply Kd.R_drewN | apply Kd.R_drew)); exact HO276.out) hb); have n6_ := Aside0.mk (blk_below (g := gb260) (o := .cells #[.int .i64 t252, .slice Ao13 t253.length co13, .slice Ao14 t256.length co14] 58 (0, 0)) (by (with_reducible repeat (first | refine blk_drewN ?_ _ | refine blk_drew ?_ | refine blk_alloc ?_ _)); exact BK260.out) hb); have n7_ := Aside0.mk (blk_below (g := gb272) (o := .cells #[.int .i64 t264, .slice Ao22 t265.length co22, .slice Ao23 t268.length co23] 58 (0, 0)) (by (with_reducible repeat (first | refine blk_drewN ?_ _ | refine blk_drew ?_ | refine blk_alloc ?_ _)); exact BK272.out) hb); have n8_ := Aside0.mk (below_step (by repeat (first | (with_reducible first | exact HB.out | apply below_alloc | apply pw_below_drewN | apply below_drew1 | refine below_set ?_ GE260.out | refine below_set ?_ GE272.out) | exact HB.out)) hb); clear HO_5; clear HO_261001; clear HO_261002; clear HO_273001; clear HO_273002; clear HO276; clear BK260; clear BK272; clear HB; have HO_5 := n0_; have HO_261001 := n1_; have HO_261002 := n2_; have HO_273001 := n3_; have HO_273002 := n4_; have HO276 := n5_; have BK260 := n6_; have BK272 := n7_; have HB := n8_; clear n0_ n1_ n2_ n3_ n4_ n5_ n6_ n7_ n8_; (try clear hb); (try clear hb2); (try clear hk); (try clear hi)))
         go_meet
         case rel => exact ⟨_, ((t271 != t259)), (by first | rfl | (simp; done) | (simp [*]; done)), H', ⟨by have := HJ6.out; first | omega | exact Nat.le_refl _⟩, ⟨by (with_reducible repeat (first | apply Kd.R_alloc | apply Kd.R_drewN | apply Kd.R_drew)); exact Kd.R_mono HO_261001.out (fun _ hk => hk.2.1)⟩, ⟨by (with_reducible repeat (first | apply Kd.S_alloc | apply Kd.S_drewN | apply Kd.S_drew)); exact HO_261002.out⟩, ⟨by (with_reducible repeat (first | apply Kd.R_alloc | apply Kd.R_drewN | apply Kd.R_drew)); exact Kd.R_mono HO_273001.out (fun _ hk => hk.2.1)⟩, ⟨by (with_reducible repeat (first | apply Kd.S_alloc | apply Kd.S_drewN | apply Kd.S_drew)); exact HO_273002.out⟩, ⟨by (with_reducible repeat (first | refine blk_drewN ?_ _ | refine blk_drew ?_ | refine blk_alloc ?_ _)); exact BK260.out⟩, ⟨by (with_reducible repeat (first | refine blk_drewN ?_ _ | refine blk_drew ?_ | refine blk_alloc ?_ _)); exact BK272.out⟩, ⟨by repeat (first | (with_reducible first | exact HB.out | apply below_alloc | apply pw_below_drewN | apply below_drew1 | refine below_set ?_ GE260.out | refine below_set ?_ GE272.out) | exact HB.out)⟩⟩
        ·replace c45 := Bool.eq_false_iff.mpr c45
         subst c45
         have H1 : (laws_FnExactWaveOf.j1 kj6 l0 t259 true t252 t253 t256 t264 t265 t268) = some r := by rw [if_neg (show ¬ (false = true) by decide)] at H; exact H
         clear H
         have H := H1
         clear H1
         have H' := Aside0.mk H
         clear H
         have hnb50 := NB272_260.out
         have hnc50 := NB260_272.out
         have hcz51_0 : w42.cell? ⟨gb272, 0, none⟩ = some (.int .i64 t264) := (blk_cell BK272.out 0).trans rfl
         have hcz51_1 : w42.cell? ⟨gb272, 1, none⟩ = some (.slice Ao22 t265.length co22) := (blk_cell BK272.out 1).trans rfl
         have hcz51_2 : w42.cell? ⟨gb272, 2, none⟩ = some (.slice Ao23 t268.length co23) := (blk_cell BK272.out 2).trans rfl
         have hfz51_0 := blk_frozen BK272.out 0
         have hfz51_1 := blk_frozen BK272.out 1
         have hfz51_2 := blk_frozen BK272.out 2
         have hcz52_0 : w42.cell? ⟨gb260, 0, none⟩ = some (.int .i64 t252) := (blk_cell BK260.out 0).trans rfl
         have hcz52_1 : w42.cell? ⟨gb260, 1, none⟩ = some (.slice Ao13 t253.length co13) := (blk_cell BK260.out 1).trans rfl
         have hcz52_2 : w42.cell? ⟨gb260, 2, none⟩ = some (.slice Ao14 t256.length co14) := (blk_cell BK260.out 2).trans rfl
         have hfz52_0 := blk_frozen BK260.out 0
         have hfz52_1 := blk_frozen BK260.out 1
         have hfz52_2 := blk_frozen BK260.out 2
         go_wp2_with (first | (go_at_call 38; (with_reducible refine (laws_eqWave.calls kj6 t264 _ _ t265 _ _ t268 t252 _ _ t253 _ _ t256 false _ ?side1 ?side2 ?side3 ?side4 ?side5 ?side6 ?side7 ?side8 A44.out).mono ?_); (case side1 => repeat (first | exact (Kd.R_reads' HO_273001.out).2.2 | (with_reducible refine Kd.C_alloc ?_ _) | (with_reducible refine Kd.C_drewN ?_ _) | (with_reducible refine Kd.C_drew ?_))); (case side2 => exact (Kd.R_reads' HO_273001.out).2.1); (case side3 => repeat (first | exact (Kd.S_reads' HO_273002.out).2.2 | (with_reducible refine Kd.C_alloc ?_ _) | (with_reducible refine Kd.C_drewN ?_ _) | (with_reducible refine Kd.C_drew ?_))); (case side4 => exact (Kd.S_reads' HO_273002.out).2.1); (case side5 => repeat (first | exact (Kd.R_reads' HO_261001.out).2.2 | (with_reducible refine Kd.C_alloc ?_ _) | (with_reducible refine Kd.C_drewN ?_ _) | (with_reducible refine Kd.C_drew ?_))); (case side6 => exact (Kd.R_reads' HO_261001.out).2.1); (case side7 => repeat (first | exact (Kd.S_reads' HO_261002.out).2.2 | (with_reducible refine Kd.C_alloc ?_ _) | (with_reducible refine Kd.C_drewN ?_ _) | (with_reducible refine Kd.C_drew ?_))); (case side8 => exact (Kd.S_reads' HO_261002.out).2.1); rintro e w53 ⟨rfl, hb⟩; have n0_ := Aside0.mk (Kd.R_below (by (with_reducible repeat (first | apply Kd.R_alloc | apply Kd.R_drewN | apply Kd.R_drew)); exact HO_5.out) hb); have n1_ := Aside0.mk (Kd.R_below (by (with_reducible repeat (first | apply Kd.R_alloc | apply Kd.R_drewN | apply Kd.R_drew)); exact HO_261001.out) hb); have n2_ := Aside0.mk (Kd.S_below (by (with_reducible repeat (first | apply Kd.S_alloc | apply Kd.S_drewN | apply Kd.S_drew)); exact HO_261002.out) hb); have n3_ := Aside0.mk (Kd.R_below (by (with_reducible repeat (first | apply Kd.R_alloc | apply Kd.R_drewN | apply Kd.R_drew)); exact HO_273001.out) hb); have n4_ := Aside0.mk (Kd.S_below (by (with_reducible repeat (first | apply Kd.S_alloc | apply Kd.S_drewN | apply Kd.S_drew)); exact HO_273002.out) hb); have n5_ := Aside0.mk (Kd.R_below (by (with_reducible repeat (first | apply Kd.R_alloc | apply Kd.R_drewN | apply Kd.R_drew)); exact HO276.out) hb); have n6_ := Aside0.mk (blk_below (g := gb260) (o := .cells #[.int .i64 t252, .slice Ao13 t253.length co13, .slice Ao14 t256.length co14] 58 (0, 0)) (by (with_reducible repeat (first | refine blk_drewN ?_ _ | refine blk_drew ?_ | refine blk_alloc ?_ _)); exact BK260.out) hb); have n7_ := Aside0.mk (blk_below (g := gb272) (o := .cells #[.int .i64 t264, .slice Ao22 t265.length co22, .slice Ao23 t268.length co23] 58 (0, 0)) (by (with_reducible repeat (first | refine blk_drewN ?_ _ | refine blk_drew ?_ | refine blk_alloc ?_ _)); exact BK272.out) hb); have n8_ := Aside0.mk (below_step (by repeat (first | (with_reducible first | exact HB.out | apply below_alloc | apply pw_below_drewN | apply below_drew1 | refine below_set ?_ GE260.out | refine below_set ?_ GE272.out) | exact HB.out)) hb); clear HO_5; clear HO_261001; clear HO_261002; clear HO_273001; clear HO_273002; clear HO276; clear BK260; clear BK272; clear HB; have HO_5 := n0_; have HO_261001 := n1_; have HO_261002 := n2_; have HO_273001 := n3_; have HO_273002 := n4_; have HO276 := n5_; have BK260 := n6_; have BK272 := n7_; have HB := n8_; clear n0_ n1_ n2_ n3_ n4_ n5_ n6_ n7_ n8_; (try clear hb); (try clear hb2); (try clear hk); (try clear hi)))
         go_meet
         case rel => exact ⟨_, (true), (by first | rfl | (simp; done) | (simp [*]; done)), H', ⟨by have := HJ6.out; first | omega | exact Nat.le_refl _⟩, ⟨by (with_reducible repeat (first | apply Kd.R_alloc | apply Kd.R_drewN | apply Kd.R_drew)); exact Kd.R_mono HO_261001.out (fun _ hk => hk.2.1)⟩, ⟨by (with_reducible repeat (first | apply Kd.S_alloc | apply Kd.S_drewN | apply Kd.S_drew)); exact HO_261002.out⟩, ⟨by (with_reducible repeat (first | apply Kd.R_alloc | apply Kd.R_drewN | apply Kd.R_drew)); exact Kd.R_mono HO_273001.out (fun _ hk => hk.2.1)⟩, ⟨by (with_reducible repeat (first | apply Kd.S_alloc | apply Kd.S_drewN | apply Kd.S_drew)); exact HO_273002.out⟩, ⟨by (with_reducible repeat (first | refine blk_drewN ?_ _ | refine blk_drew ?_ | refine blk_alloc ?_ _)); exact BK260.out⟩, ⟨by (with_reducible repeat (first | refine blk_drewN ?_ _ | refine blk_drew ?_ | refine blk_alloc ?_ _)); exact BK272.out⟩, ⟨by repeat (first | (with_reducible first | exact HB.out | apply below_alloc | apply pw_below_drewN | apply below_drew1 | refine below_set ?_ GE260.out | refine below_set ?_ GE272.out) | exact HB.out)⟩⟩
      case rest =>
       clear HC39
       try clear c1
       try clear c2
       try clear c2b0
       try clear c2b1
       try clear p2
       try clear c3
       try clear c4
       try clear c5
       try clear c9
       try clear c18
       try clear c20
       try clear c21
       try clear c25
       try clear c26
       try clear c30
       try clear c34
       try clear c36
       try clear c37
       try clear c38
       try clear c43
       try clear c43b0
       try clear c45
       try clear c46
       try clear c50
       try clear hcz12_0
       try clear hcz12_1
       try clear hcz12_2
       try clear hcz21_0
       try clear hcz21_1
       try clear hcz21_2
       try clear hcz27_0
       try clear hcz27_1
       try clear hcz27_2
       try clear hcz28_0
       try clear hcz28_1
       try clear hcz28_2
       try clear hcz31_0
       try clear hcz31_1
       try clear hcz31_2
       try clear hcz32_0
       try clear hcz32_1
       try clear hcz32_2
       try clear hcz47_0
       try clear hcz47_1
       try clear hcz47_2
       try clear hcz48_0
       try clear hcz48_1
       try clear hcz48_2
       try clear hcz51_0
       try clear hcz51_1
       try clear hcz51_2
       try clear hcz52_0
       try clear hcz52_1
       try clear hcz52_2
       try clear hfz12_0
       try clear hfz12_1
       try clear hfz12_2
       try clear hfz21_0
       try clear hfz21_1
       try clear hfz21_2
       try clear hfz27_0
       try clear hfz27_1
       try clear hfz27_2
       try clear hfz28_0
       try clear hfz28_1
       try clear hfz28_2
       try clear hfz31_0
       try clear hfz31_1
       try clear hfz31_2
       try clear hfz32_0
       try clear hfz32_1
       try clear hfz32_2
       try clear hfz47_0
       try clear hfz47_1
       try clear hfz47_2
       try clear hfz48_0
       try clear hfz48_1
       try clear hfz48_2
       try clear hfz51_0
       try clear hfz51_1
       try clear hfz51_2
       try clear hfz52_0
       try clear hfz52_1
       try clear hfz52_2
       try clear p2
       obtain ⟨kq, x58_38, rfl, HA, HJ38, HO_261001, HO_261002, HO_273001, HO_273002, BK260, BK272, HB⟩ := hcut
       cases kq with
       | zero => exact absurd HA.out (by simp [laws_FnExactWaveOf.j1])
       | succ kj38 =>
        have H := HA.out
        clear HA
        simp only [laws_FnExactWaveOf.j1] at H
        by_cases c54 : x58_38 = true
        ·subst c54
         have H1 : (some false) = some r := by rw [if_pos rfl] at H; exact H
         clear H
         have H := H1
         clear H1
         exact absurd ((Option.some.inj H).trans HRT_.out) (by decide)
        ·replace c54 := Bool.eq_false_iff.mpr c54
         subst c54
         have H1 : ((laws_markWave.f kj38 t264 t265 t268 1).bind fun bt281 => ((laws_heldWave.f kj38 t264 bt281.2.1 bt281.2.2 1).bind fun t284 => (if t284 < 0 then (some false) else (if t284 = bt281.1 then ((laws_toIntS.f kj38 l0).bind fun t285 => ((impl_WaveOf.f kj38 t285).bind fun bt288 => ((laws_eqWave.f kj38 bt288.1 bt288.2.1 bt288.2.2.1 t252 t253 t256).bind fun t297 => (if t297 = true then (laws_FnExactWaveOf.j2 kj38 bt281.1 (bt288.2.2.2 != t259) t264 bt281.2.1 bt281.2.2) else (laws_FnExactWaveOf.j2 kj38 bt281.1 true t264 bt281.2.1 bt281.2.2))))) else (some false))))) = some r := by rw [if_neg (show ¬ (false = true) by decide)] at H; exact H
         clear H
         have H := H1
         clear H1
         replace H := Option.bind_eq_some_iff.mp H
         obtain ⟨⟨t281, t282, t283⟩, A550, H⟩ := H
         replace H : ((laws_heldWave.f kj38 t264 t282 t283 1).bind fun t284 => (if t284 < 0 then (some false) else (if t284 = t281 then ((laws_toIntS.f kj38 l0).bind fun t285 => ((impl_WaveOf.f kj38 t285).bind fun bt288 => ((laws_eqWave.f kj38 bt288.1 bt288.2.1 bt288.2.2.1 t252 t253 t256).bind fun t297 => (if t297 = true then (laws_FnExactWaveOf.j2 kj38 t281 (bt288.2.2.2 != t259) t264 t282 t283) else (laws_FnExactWaveOf.j2 kj38 t281 true t264 t282 t283))))) else (some false)))) = some r := H
         have A55 := Aside0.mk A550
         clear A550
         replace H := Option.bind_eq_some_iff.mp H
         obtain ⟨t284, A560, H⟩ := H
         replace H : (if t284 < 0 then (some false) else (if t284 = t281 then ((laws_toIntS.f kj38 l0).bind fun t285 => ((impl_WaveOf.f kj38 t285).bind fun bt288 => ((laws_eqWave.f kj38 bt288.1 bt288.2.1 bt288.2.2.1 t252 t253 t256).bind fun t297 => (if t297 = true then (laws_FnExactWaveOf.j2 kj38 t281 (bt288.2.2.2 != t259) t264 t282 t283) else (laws_FnExactWaveOf.j2 kj38 t281 true t264 t282 t283))))) else (some false))) = some r := H
         have A56 := Aside0.mk A560
         clear A560
         by_cases c57 : t284 < 0
         ·rw [if_pos c57] at H
          have c57b0 : decide (t284 < 0) = true := decide_eq_true c57
          clear c57
          exact absurd ((Option.some.inj H).trans HRT_.out) (by decide)
         ·rw [if_neg c57] at H
          have c57b0 : decide (t284 < 0) = false := decide_eq_false c57
          clear c57
          by_cases c63 : t284 = t281
          ·rw [if_pos c63] at H
           have c63b0 : (t284 == t281) = true := beq_iff_eq.mpr c63
           have c63b1 : (t284 != t281) = false := bne_eq_false_iff_eq.mpr c63
           clear c63
           replace H := Option.bind_eq_some_iff.mp H
           obtain ⟨t285, A640, H⟩ := H
           replace H : ((impl_WaveOf.f kj38 t285).bind fun bt288 => ((laws_eqWave.f kj38 bt288.1 bt288.2.1 bt288.2.2.1 t252 t253 t256).bind fun t297 => (if t297 = true then (laws_FnExactWaveOf.j2 kj38 t281 (bt288.2.2.2 != t259) t264 t282 t283) else (laws_FnExactWaveOf.j2 kj38 t281 true t264 t282 t283)))) = some r := H
           have A64 := Aside0.mk A640
           clear A640
           replace H := Option.bind_eq_some_iff.mp H
           obtain ⟨⟨t288, t289, t292, t295⟩, A650, H⟩ := H
           replace H : ((laws_eqWave.f kj38 t288 t289 t292 t252 t253 t256).bind fun t297 => (if t297 = true then (laws_FnExactWaveOf.j2 kj38 t281 (t295 != t259) t264 t282 t283) else (laws_FnExactWaveOf.j2 kj38 t281 true t264 t282 t283))) = some r := H
           have A65 := Aside0.mk A650
           clear A650
           have HC66 := Aside0.mk H
           clear H
           have hnb67 := NB272_260.out
           have hnc67 := NB260_272.out
           have hcz68_0 : wc.cell? ⟨gb272, 0, none⟩ = some (.int .i64 t264) := (blk_cell BK272.out 0).trans rfl
           have hcz68_1 : wc.cell? ⟨gb272, 1, none⟩ = some (.slice Ao22 t265.length co22) := (blk_cell BK272.out 1).trans rfl
           have hcz68_2 : wc.cell? ⟨gb272, 2, none⟩ = some (.slice Ao23 t268.length co23) := (blk_cell BK272.out 2).trans rfl
           have hfz68_0 := blk_frozen BK272.out 0
           have hfz68_1 := blk_frozen BK272.out 1
           have hfz68_2 := blk_frozen BK272.out 2
           go_upto_region 23 with (first | ((with_reducible refine gate_callee (f := 39) rfl ?_); refine goesL_ (some 61) rfl rfl Try.func39 (by kernel_rfl) rfl #[.agg #[.int .i64 t264, .slice Ao22 t265.length co22, .slice Ao23 t268.length co23], .int .i64 1] rfl (by (try simp only [List.map_toArray, List.map_cons, List.map_nil]); first | done | rfl | (simp only [List.length_drop, List.length_take]; rfl)) ?_; (with_reducible refine (laws_markWave.calls kj38 t264 (fun k_ => some k_ = (.slice Ao22 t265.length co22 : Value).ownBlock) (.slice Ao22 t265.length co22) t265 (fun k_ => N_ ≤ k_ ∧ some k_ ≠ (.slice Ao13 t253.length co13 : Value).ownBlock ∧ some k_ ≠ (.slice Ao22 t265.length co22 : Value).ownBlock ∧ k_ ≠ gb260 ∧ k_ ≠ gb272) (.slice Ao23 t268.length co23) t268 1 t281 t282 t283 w _ ?side1 ?side2 ?side3 A55.out).mono ?_); (case side1 => repeat (first | (with_reducible first | exact HB.out | apply below_alloc | apply pw_below_drewN | apply below_drew1 | refine below_set ?_ GE260.out | refine below_set ?_ GE272.out) | exact HB.out)); (case side2 => exact Kd.R_tight rfl HO_273001.out); (case side3 => exact Kd.S_mono (Kd.S_types (Kd.S_types (Kd.S_apart' (Kd.S_apart' HO_273002.out (Kd.R_typed HO_261001.out) (by decide)) (Kd.R_typed HO_273001.out) (by decide)) BK260.out (by decide)) BK272.out (by decide)) (by (intro k_ hk_; (repeat' (with_reducible apply And.intro)) <;> with_reducible first | exact trivial | exact hk_ | exact hk_.1 | exact hk_.2 | exact hk_.1.1 | exact hk_.1.2 | exact hk_.2.1 | exact hk_.2.2 | exact hk_.1.1.1 | exact hk_.1.1.2 | exact hk_.1.2.1 | exact hk_.1.2.2 | exact hk_.2.1.1 | exact hk_.2.1.2 | exact hk_.2.2.1 | exact hk_.2.2.2 | exact hk_.1.1.1.1 | exact hk_.1.1.1.2 | exact hk_.1.1.2.1 | exact hk_.1.1.2.2 | exact hk_.1.2.1.1 | exact hk_.1.2.1.2 | exact hk_.1.2.2.1 | exact hk_.1.2.2.2 | exact hk_.2.1.1.1 | exact hk_.2.1.1.2 | exact hk_.2.1.2.1 | exact hk_.2.1.2.2 | exact hk_.2.2.1.1 | exact hk_.2.2.1.2 | exact hk_.2.2.2.1 | exact hk_.2.2.2.2 | exact hk_.1.1.1.1.1 | exact hk_.1.1.1.1.2 | exact hk_.1.1.1.2.1 | exact hk_.1.1.1.2.2 | exact hk_.1.1.2.1.1 | exact hk_.1.1.2.1.2 | exact hk_.1.1.2.2.1 | exact hk_.1.1.2.2.2 | exact hk_.1.2.1.1.1 | exact hk_.1.2.1.1.2 | exact hk_.1.2.1.2.1 | exact hk_.1.2.1.2.2 | exact hk_.1.2.2.1.1 | exact hk_.1.2.2.1.2 | exact hk_.1.2.2.2.1 | exact hk_.1.2.2.2.2 | exact hk_.2.1.1.1.1 | exact hk_.2.1.1.1.2 | exact hk_.2.1.1.2.1 | exact hk_.2.1.1.2.2 | exact hk_.2.1.2.1.1 | exact hk_.2.1.2.1.2 | exact hk_.2.1.2.2.1 | exact hk_.2.1.2.2.2 | exact hk_.2.2.1.1.1 | exact hk_.2.2.1.1.2 | exact hk_.2.2.1.2.1 | exact hk_.2.2.1.2.2 | exact hk_.2.2.2.1.1 | exact hk_.2.2.2.1.2 | exact hk_.2.2.2.2.1 | exact hk_.2.2.2.2.2 | exact hk_.1.1.1.1.1.1 | exact hk_.1.1.1.1.1.2 | exact hk_.1.1.1.1.2.1 | exact hk_.1.1.1.1.2.2 | exact hk_.1.1.1.2.1.1 | exact hk_.1.1.1.2.1.2 | exact hk_.1.1.1.2.2.1 | exact hk_.1.1.1.2.2.2 | exact hk_.1.1.2.1.1.1 | exact hk_.1.1.2.1.1.2 | exact hk_.1.1.2.1.2.1 | exact hk_.1.1.2.1.2.2 | exact hk_.1.1.2.2.1.1 | exact hk_.1.1.2.2.1.2 | exact hk_.1.1.2.2.2.1 | exact hk_.1.1.2.2.2.2 | exact hk_.1.2.1.1.1.1 | exact hk_.1.2.1.1.1.2 | exact hk_.1.2.1.1.2.1 | exact hk_.1.2.1.1.2.2 | exact hk_.1.2.1.2.1.1 | exact hk_.1.2.1.2.1.2 | exact hk_.1.2.1.2.2.1 | exact hk_.1.2.1.2.2.2 | exact hk_.1.2.2.1.1.1 | exact hk_.1.2.2.1.1.2 | exact hk_.1.2.2.1.2.1 | exact hk_.1.2.2.1.2.2 | exact hk_.1.2.2.2.1.1 | exact hk_.1.2.2.2.1.2 | exact hk_.1.2.2.2.2.1 | exact hk_.1.2.2.2.2.2 | exact hk_.2.1.1.1.1.1 | exact hk_.2.1.1.1.1.2 | exact hk_.2.1.1.1.2.1 | exact hk_.2.1.1.1.2.2 | exact hk_.2.1.1.2.1.1 | exact hk_.2.1.1.2.1.2 | exact hk_.2.1.1.2.2.1 | exact hk_.2.1.1.2.2.2 | exact hk_.2.1.2.1.1.1 | exact hk_.2.1.2.1.1.2 | exact hk_.2.1.2.1.2.1 | exact hk_.2.1.2.1.2.2 | exact hk_.2.1.2.2.1.1 | exact hk_.2.1.2.2.1.2 | exact hk_.2.1.2.2.2.1 | exact hk_.2.1.2.2.2.2 | exact hk_.2.2.1.1.1.1 | exact hk_.2.2.1.1.1.2 | exact hk_.2.2.1.1.2.1 | exact hk_.2.2.1.1.2.2 | exact hk_.2.2.1.2.1.1 | exact hk_.2.2.1.2.1.2 | exact hk_.2.2.1.2.2.1 | exact hk_.2.2.1.2.2.2 | exact hk_.2.2.2.1.1.1 | exact hk_.2.2.2.1.1.2 | exact hk_.2.2.2.1.2.1 | exact hk_.2.2.2.1.2.2 | exact hk_.2.2.2.2.1.1 | exact hk_.2.2.2.2.1.2 | exact hk_.2.2.2.2.2.1 | exact hk_.2.2.2.2.2.2))); rintro e w69 ⟨rfl, hy0, hy1, hb, hkp⟩; refine ⟨_, rfl, ?_⟩; have n0_ := Aside0.mk (Kd.R_mono (ok' := fun k_ => some k_ ≠ (.slice Ao22 t265.length co22 : Value).ownBlock) (Kd.R_keptB (Kd.R_tight2 rfl HO_261001.out) hkp (fun k_ hk_ hs_ => hs_.elim (fun e_ => hk_.2 e_) (fun h_ => h_.2.1 hk_.1))) (fun k_ hk_ => hk_.1.2)); have n1_ := Aside0.mk (Kd.S_mono (ok' := fun k_ => some k_ ≠ (.slice Ao23 t268.length co23 : Value).ownBlock) (Kd.S_keptB (Kd.S_apart' HO_261002.out (Kd.R_typed HO_273001.out) (by decide)) hkp (fun k_ hk_ hs_ => hs_.elim (fun e_ => hk_.2 e_) (fun h_ => Nat.lt_irrefl _ (Nat.lt_of_lt_of_le hk_.1.2 h_.1)))) (fun k_ hk_ => hk_.1.1.1)); have n2_ := Aside0.mk (Kd.R_reok rfl hy0 (fun k_ e_ => HO_273001.out.1 k_ e_)); have n3_ := Aside0.mk (Kd.S_mono (ok' := fun k_ => some k_ ≠ (.slice Ao14 t256.length co14 : Value).ownBlock) (Kd.S_apart' hy1 (Kd.R_typed hy0) (by decide)) (fun k_ hk_ e_ => hk_.1.elim (fun h_ => h_.elim (fun h2_ => hk_.2 h2_) (fun h2_ => Nat.lt_irrefl _ (Nat.lt_of_lt_of_le ((Kd.S_R HO_261002.out).1 k_ e_.symm).2 h2_.1))) (fun h_ => Nat.lt_irrefl _ (Nat.lt_of_lt_of_le (Kd.S_lt HO_261002.out k_ e_.symm) h_)))); have n4_ := Aside0.mk (blk_kept (by (with_reducible repeat (first | refine blk_drewN ?_ _ | refine blk_drew ?_ | refine blk_alloc ?_ _)); exact BK260.out) hkp (fun hs_ => hs_.elim (fun e_ => (Kd.R_ne HO_273001.out BK260.out (by decide)) e_) (fun h_ => h_.2.2.2.1 rfl))); have n5_ := Aside0.mk (blk_kept (by (with_reducible repeat (first | refine blk_drewN ?_ _ | refine blk_drew ?_ | refine blk_alloc ?_ _)); exact BK272.out) hkp (fun hs_ => hs_.elim (fun e_ => (Kd.R_ne HO_273001.out BK272.out (by decide)) e_) (fun h_ => h_.2.2.2.2 rfl))); have n6_ := Aside0.mk (hb); clear HO_261001; clear HO_261002; clear HO_273001; clear HO_273002; clear BK260; clear BK272; clear HB; have HO_261001 := n0_; have HO_261002 := n1_; have HO_273001 := n2_; have HO_273002 := n3_; have BK260 := n4_; have BK272 := n5_; have HB := n6_; clear n0_ n1_ n2_ n3_ n4_ n5_ n6_; (try clear hb); (try clear hkp); (try clear hy0); (try clear hy1); have hcz70_0 : w69.cell? ⟨gb272, 0, none⟩ = some (.int .i64 t264) := (blk_cell BK272.out 0).trans rfl; have hcz70_1 : w69.cell? ⟨gb272, 1, none⟩ = some (.slice Ao22 t265.length co22) := (blk_cell BK272.out 1).trans rfl; have hcz70_2 : w69.cell? ⟨gb272, 2, none⟩ = some (.slice Ao23 t268.length co23) := (blk_cell BK272.out 2).trans rfl; have hfz70_0 := blk_frozen BK272.out 0; have hfz70_1 := blk_frozen BK272.out 1; have hfz70_2 := blk_frozen BK272.out 2) | ((with_reducible refine gate_callee (f := 40) rfl ?_); refine goesL_ (some 64) rfl rfl Try.func40 (by kernel_rfl) rfl #[.agg #[.int .i64 t264, .slice Ao22 t282.length co22, .slice Ao23 t283.length co23], .int .i64 1] rfl (by (try simp only [List.map_toArray, List.map_cons, List.map_nil]); first | done | (rw [show t282.length = t265.length from (Kd.R_reads' HO_273001.out).1.symm, show t283.length = t268.length from (Kd.S_reads' HO_273002.out).1.symm] <;> rfl) | rfl | (simp only [List.length_drop, List.length_take]; rfl)) ?_; (with_reducible refine (laws_heldWave.calls kj38 t264 _ _ t282 _ _ t283 1 t284 _ ?side1 ?side2 ?side3 ?side4 A56.out).mono ?_); (case side1 => repeat (first | exact (Kd.R_reads' HO_273001.out).2.2 | (with_reducible refine Kd.C_alloc ?_ _) | (with_reducible refine Kd.C_drewN ?_ _) | (with_reducible refine Kd.C_drew ?_))); (case side2 => rw [show t282.length = t265.length from (Kd.R_reads' HO_273001.out).1.symm]; exact (Kd.R_reads' HO_273001.out).2.1); (case side3 => repeat (first | exact (Kd.S_reads' HO_273002.out).2.2 | (with_reducible refine Kd.C_alloc ?_ _) | (with_reducible refine Kd.C_drewN ?_ _) | (with_reducible refine Kd.C_drew ?_))); (case side4 => rw [show t283.length = t268.length from (Kd.S_reads' HO_273002.out).1.symm]; exact (Kd.S_reads' HO_273002.out).2.1); rintro e w71 ⟨rfl, hb⟩; refine ⟨_, rfl, ?_⟩; have n0_ := Aside0.mk (Kd.R_below (by (with_reducible repeat (first | apply Kd.R_alloc | apply Kd.R_drewN | apply Kd.R_drew)); exact HO_261001.out) hb); have n1_ := Aside0.mk (Kd.S_below (by (with_reducible repeat (first | apply Kd.S_alloc | apply Kd.S_drewN | apply Kd.S_drew)); exact HO_261002.out) hb); have n2_ := Aside0.mk (Kd.R_below (by (with_reducible repeat (first | apply Kd.R_alloc | apply Kd.R_drewN | apply Kd.R_drew)); exact HO_273001.out) hb); have n3_ := Aside0.mk (Kd.S_below (by (with_reducible repeat (first | apply Kd.S_alloc | apply Kd.S_drewN | apply Kd.S_drew)); exact HO_273002.out) hb); have n4_ := Aside0.mk (blk_below (g := gb260) (o := .cells #[.int .i64 t252, .slice Ao13 t253.length co13, .slice Ao14 t256.length co14] 58 (0, 0)) (by (with_reducible repeat (first | refine blk_drewN ?_ _ | refine blk_drew ?_ | refine blk_alloc ?_ _)); exact BK260.out) hb); have n5_ := Aside0.mk (blk_below (g := gb272) (o := .cells #[.int .i64 t264, .slice Ao22 t265.length co22, .slice Ao23 t268.length co23] 58 (0, 0)) (by (with_reducible repeat (first | refine blk_drewN ?_ _ | refine blk_drew ?_ | refine blk_alloc ?_ _)); exact BK272.out) hb); have n6_ := Aside0.mk (below_step (by repeat (first | (with_reducible first | exact HB.out | apply below_alloc | apply pw_below_drewN | apply below_drew1 | refine below_set ?_ GE260.out | refine below_set ?_ GE272.out) | exact HB.out)) hb); clear HO_261001; clear HO_261002; clear HO_273001; clear HO_273002; clear BK260; clear BK272; clear HB; have HO_261001 := n0_; have HO_261002 := n1_; have HO_273001 := n2_; have HO_273002 := n3_; have BK260 := n4_; have BK272 := n5_; have HB := n6_; clear n0_ n1_ n2_ n3_ n4_ n5_ n6_; (try clear hb); (try clear hb2); (try clear hk); (try clear hi)) | ((with_reducible refine gate_callee (f := 18) rfl ?_); refine goesL_ (some 72) rfl rfl Try.func18 (by kernel_rfl) rfl #[.slice A0 l0.length c0] rfl (by (try simp only [List.map_toArray, List.map_cons, List.map_nil]); first | done | rfl | (simp only [List.length_drop, List.length_take]; rfl)) ?_; (with_reducible refine (laws_toIntS.calls kj38 _ _ l0 t285 _ ?side1 ?side2 A64.out).mono ?_); (case side1 => repeat (first | exact (Kd.C_below HR0.out HB.out) | (with_reducible refine Kd.C_alloc ?_ _) | (with_reducible refine Kd.C_drewN ?_ _) | (with_reducible refine Kd.C_drew ?_))); (case side2 => exact HC0.out); rintro e w72 ⟨v286, rfl, ho0, hb⟩; refine ⟨_, rfl, ?_⟩; have n0_ := Aside0.mk (Kd.R_elder' (by (with_reducible repeat (first | apply Kd.R_alloc | apply Kd.R_drewN | apply Kd.R_drew)); exact HO_261001.out) (Kd.R_base ho0) hb); have n1_ := Aside0.mk (Kd.S_below (by (with_reducible repeat (first | apply Kd.S_alloc | apply Kd.S_drewN | apply Kd.S_drew)); exact HO_261002.out) hb); have n2_ := Aside0.mk (Kd.R_elder' (by (with_reducible repeat (first | apply Kd.R_alloc | apply Kd.R_drewN | apply Kd.R_drew)); exact HO_273001.out) (Kd.R_base ho0) hb); have n3_ := Aside0.mk (Kd.S_below (by (with_reducible repeat (first | apply Kd.S_alloc | apply Kd.S_drewN | apply Kd.S_drew)); exact HO_273002.out) hb); have n4_ := Aside0.mk (Kd.R_lower (Kd.R_new' (Kd.R_new' ho0 (Kd.R_lt (by (with_reducible repeat (first | apply Kd.R_alloc | apply Kd.R_drewN | apply Kd.R_drew)); exact HO_261001.out))) (Kd.R_lt (by (with_reducible repeat (first | apply Kd.R_alloc | apply Kd.R_drewN | apply Kd.R_drew)); exact HO_273001.out))) (below_size (by repeat (first | (with_reducible first | exact HB.out | apply below_alloc | apply pw_below_drewN | apply below_drew1 | refine below_set ?_ GE260.out | refine below_set ?_ GE272.out) | exact HB.out)))); have n5_ := Aside0.mk (blk_below (g := gb260) (o := .cells #[.int .i64 t252, .slice Ao13 t253.length co13, .slice Ao14 t256.length co14] 58 (0, 0)) (by (with_reducible repeat (first | refine blk_drewN ?_ _ | refine blk_drew ?_ | refine blk_alloc ?_ _)); exact BK260.out) hb); have n6_ := Aside0.mk (blk_below (g := gb272) (o := .cells #[.int .i64 t264, .slice Ao22 t265.length co22, .slice Ao23 t268.length co23] 58 (0, 0)) (by (with_reducible repeat (first | refine blk_drewN ?_ _ | refine blk_drew ?_ | refine blk_alloc ?_ _)); exact BK272.out) hb); have n7_ := Aside0.mk (below_step (by repeat (first | (with_reducible first | exact HB.out | apply below_alloc | apply pw_below_drewN | apply below_drew1 | refine below_set ?_ GE260.out | refine below_set ?_ GE272.out) | exact HB.out)) hb); clear HO_261001; clear HO_261002; clear HO_273001; clear HO_273002; clear BK260; clear BK272; clear HB; have HO_261001 := n0_; have HO_261002 := n1_; have HO_273001 := n2_; have HO_273002 := n3_; have HO287 := n4_; have BK260 := n5_; have BK272 := n6_; have HB := n7_; clear n0_ n1_ n2_ n3_ n4_ n5_ n6_ n7_; (try clear hb); (try clear hb2); (try clear hk); (try clear hi); (try clear ho0); obtain ⟨Ao73, co73, eo73⟩ := Kd.R_slice HO287.out; subst eo73) | ((with_reducible refine gate_callee (f := 37) rfl ?_); refine goesL_ (some 73) rfl rfl Try.func37 (by kernel_rfl) rfl #[.slice Ao73 t285.length co73] rfl (by (try simp only [List.map_toArray, List.map_cons, List.map_nil]); first | done | rfl | (simp only [List.length_drop, List.length_take]; rfl)) ?_; (with_reducible refine (impl_WaveOf.calls kj38 (fun k_ => some k_ = (.slice Ao73 t285.length co73 : Value).ownBlock) _ _ t285 t288 t289 t292 t295 _ ?side1 A65.out).mono ?_); (case side1 => exact Kd.R_V (Kd.R_tight rfl (Kd.R_types (Kd.R_types (Kd.R_apart' (Kd.R_apart' (HO287.out) (Kd.S_typed HO_261002.out) (by decide)) (Kd.S_typed HO_273002.out) (by decide)) BK260.out (by decide)) BK272.out (by decide)))); rintro e w74 ⟨v290, v293, rfl, ho0, ho1, hb⟩; refine ⟨_, rfl, ?_⟩; have n0_ := Aside0.mk (Kd.R_elder' (by (with_reducible repeat (first | apply Kd.R_alloc | apply Kd.R_drewN | apply Kd.R_drew)); exact HO_261001.out) (Kd.R_base ho0) hb); have n1_ := Aside0.mk (Kd.S_elder' (by (with_reducible repeat (first | apply Kd.S_alloc | apply Kd.S_drewN | apply Kd.S_drew)); exact HO_261002.out) (Kd.S_base ho1) hb); have n2_ := Aside0.mk (Kd.R_elder' (by (with_reducible repeat (first | apply Kd.R_alloc | apply Kd.R_drewN | apply Kd.R_drew)); exact HO_273001.out) (Kd.R_base ho0) hb); have n3_ := Aside0.mk (Kd.S_elder' (by (with_reducible repeat (first | apply Kd.S_alloc | apply Kd.S_drewN | apply Kd.S_drew)); exact HO_273002.out) (Kd.S_base ho1) hb); have n4_ := Aside0.mk (Kd.R_elder' (by (with_reducible repeat (first | apply Kd.R_alloc | apply Kd.R_drewN | apply Kd.R_drew)); exact HO287.out) (Kd.R_base ho0) hb); have n5_ := Aside0.mk (Kd.R_lower (Kd.R_new' (Kd.R_new' (Kd.R_new' (Kd.R_mono (ok' := fun k_ => True) ho0 (fun _ hk_ => trivial)) (Kd.R_lt (by (with_reducible repeat (first | apply Kd.R_alloc | apply Kd.R_drewN | apply Kd.R_drew)); exact HO_261001.out))) (Kd.R_lt (by (with_reducible repeat (first | apply Kd.R_alloc | apply Kd.R_drewN | apply Kd.R_drew)); exact HO_273001.out))) (Kd.R_lt (by (with_reducible repeat (first | apply Kd.R_alloc | apply Kd.R_drewN | apply Kd.R_drew)); exact HO287.out))) (below_size (by repeat (first | (with_reducible first | exact HB.out | apply below_alloc | apply pw_below_drewN | apply below_drew1 | refine below_set ?_ GE260.out | refine below_set ?_ GE272.out) | exact HB.out)))); have n6_ := Aside0.mk (Kd.S_lower (Kd.S_new' (Kd.S_new' (Kd.S_mono (ok' := fun k_ => True) ho1 (fun _ hk_ => trivial)) (Kd.S_lt (by (with_reducible repeat (first | apply Kd.S_alloc | apply Kd.S_drewN | apply Kd.S_drew)); exact HO_261002.out))) (Kd.S_lt (by (with_reducible repeat (first | apply Kd.S_alloc | apply Kd.S_drewN | apply Kd.S_drew)); exact HO_273002.out))) (below_size (by repeat (first | (with_reducible first | exact HB.out | apply below_alloc | apply pw_below_drewN | apply below_drew1 | refine below_set ?_ GE260.out | refine below_set ?_ GE272.out) | exact HB.out)))); have n7_ := Aside0.mk (blk_below (g := gb260) (o := .cells #[.int .i64 t252, .slice Ao13 t253.length co13, .slice Ao14 t256.length co14] 58 (0, 0)) (by (with_reducible repeat (first | refine blk_drewN ?_ _ | refine blk_drew ?_ | refine blk_alloc ?_ _)); exact BK260.out) hb); have n8_ := Aside0.mk (blk_below (g := gb272) (o := .cells #[.int .i64 t264, .slice Ao22 t265.length co22, .slice Ao23 t268.length co23] 58 (0, 0)) (by (with_reducible repeat (first | refine blk_drewN ?_ _ | refine blk_drew ?_ | refine blk_alloc ?_ _)); exact BK272.out) hb); have n9_ := Aside0.mk (below_step (by repeat (first | (with_reducible first | exact HB.out | apply below_alloc | apply pw_below_drewN | apply below_drew1 | refine below_set ?_ GE260.out | refine below_set ?_ GE272.out) | exact HB.out)) hb); clear HO_261001; clear HO_261002; clear HO_273001; clear HO_273002; clear HO287; clear BK260; clear BK272; clear HB; have HO_261001 := n0_; have HO_261002 := n1_; have HO_273001 := n2_; have HO_273002 := n3_; have HO287 := n4_; have HO291 := n5_; have HO294 := n6_; have BK260 := n7_; have BK272 := n8_; have HB := n9_; clear n0_ n1_ n2_ n3_ n4_ n5_ n6_ n7_ n8_ n9_; (try clear hb); (try clear hb2); (try clear hk); (try clear hi); (try clear ho0); (try clear ho1)) | ((with_reducible refine gate_dst (N := 11) rfl ?_); refine box_event ?hg (N := 11) ?hd (cs := #[.int .i64 0, .slice none 0 0, .slice none 0 0]) (t := 58) ?hr ?_; (case hd => rfl); (case hg => rfl); (case hr => first | (go_simp; done) | (go_simp; rfl)); intro gb296 hg w75 hbox hb; have n0_ := Aside0.mk (Kd.R_below (by (with_reducible repeat (first | apply Kd.R_alloc | apply Kd.R_drewN | apply Kd.R_drew)); exact HO_261001.out) hb); have n1_ := Aside0.mk (Kd.S_below (by (with_reducible repeat (first | apply Kd.S_alloc | apply Kd.S_drewN | apply Kd.S_drew)); exact HO_261002.out) hb); have n2_ := Aside0.mk (Kd.R_below (by (with_reducible repeat (first | apply Kd.R_alloc | apply Kd.R_drewN | apply Kd.R_drew)); exact HO_273001.out) hb); have n3_ := Aside0.mk (Kd.S_below (by (with_reducible repeat (first | apply Kd.S_alloc | apply Kd.S_drewN | apply Kd.S_drew)); exact HO_273002.out) hb); have n4_ := Aside0.mk (Kd.R_below (by (with_reducible repeat (first | apply Kd.R_alloc | apply Kd.R_drewN | apply Kd.R_drew)); exact HO287.out) hb); have n5_ := Aside0.mk (Kd.R_below (by (with_reducible repeat (first | apply Kd.R_alloc | apply Kd.R_drewN | apply Kd.R_drew)); exact HO291.out) hb); have n6_ := Aside0.mk (Kd.S_below (by (with_reducible repeat (first | apply Kd.S_alloc | apply Kd.S_drewN | apply Kd.S_drew)); exact HO294.out) hb); have n7_ := Aside0.mk (blk_below (g := gb260) (o := .cells #[.int .i64 t252, .slice Ao13 t253.length co13, .slice Ao14 t256.length co14] 58 (0, 0)) (by (with_reducible repeat (first | refine blk_drewN ?_ _ | refine blk_drew ?_ | refine blk_alloc ?_ _)); exact BK260.out) hb); have n8_ := Aside0.mk (blk_below (g := gb272) (o := .cells #[.int .i64 t264, .slice Ao22 t265.length co22, .slice Ao23 t268.length co23] 58 (0, 0)) (by (with_reducible repeat (first | refine blk_drewN ?_ _ | refine blk_drew ?_ | refine blk_alloc ?_ _)); exact BK272.out) hb); have n9_ := Aside0.mk (below_step (by repeat (first | (with_reducible first | exact HB.out | apply below_alloc | apply pw_below_drewN | apply below_drew1 | refine below_set ?_ GE260.out | refine below_set ?_ GE272.out) | exact HB.out)) hb); have n10_ := Aside0.mk (hbox); have n11_ := Aside0.mk ((by rw [hg]; exact (below_size (by repeat (first | (with_reducible first | exact HB.out | apply below_alloc | apply pw_below_drewN | apply below_drew1 | refine below_set ?_ GE260.out | refine below_set ?_ GE272.out) | exact HB.out))) : w.heap.size ≤ gb296)); have n12_ := Aside0.mk ((by rw [hg]; exact (below_size (by repeat (first | (with_reducible first | exact HB.out | apply below_alloc | apply pw_below_drewN | apply below_drew1 | refine below_set ?_ GE260.out | refine below_set ?_ GE272.out) | exact HB.out))) : w.heap.size ≤ gb296)); have n13_ := Aside0.mk ((by rw [hg]; exact Nat.ne_of_lt (blk_lt (g := gb260) (o := .cells #[.int .i64 t252, .slice Ao13 t253.length co13, .slice Ao14 t256.length co14] 58 (0, 0)) (by (with_reducible repeat (first | refine blk_drewN ?_ _ | refine blk_drew ?_ | refine blk_alloc ?_ _)); exact BK260.out)) : gb260 ≠ gb296)); have n14_ := Aside0.mk ((by rw [hg]; exact Nat.ne_of_gt (blk_lt (g := gb260) (o := .cells #[.int .i64 t252, .slice Ao13 t253.length co13, .slice Ao14 t256.length co14] 58 (0, 0)) (by (with_reducible repeat (first | refine blk_drewN ?_ _ | refine blk_drew ?_ | refine blk_alloc ?_ _)); exact BK260.out)) : gb296 ≠ gb260)); have n15_ := Aside0.mk ((by rw [hg]; exact Nat.ne_of_lt (blk_lt (g := gb272) (o := .cells #[.int .i64 t264, .slice Ao22 t265.length co22, .slice Ao23 t268.length co23] 58 (0, 0)) (by (with_reducible repeat (first | refine blk_drewN ?_ _ | refine blk_drew ?_ | refine blk_alloc ?_ _)); exact BK272.out)) : gb272 ≠ gb296)); have n16_ := Aside0.mk ((by rw [hg]; exact Nat.ne_of_gt (blk_lt (g := gb272) (o := .cells #[.int .i64 t264, .slice Ao22 t265.length co22, .slice Ao23 t268.length co23] 58 (0, 0)) (by (with_reducible repeat (first | refine blk_drewN ?_ _ | refine blk_drew ?_ | refine blk_alloc ?_ _)); exact BK272.out)) : gb296 ≠ gb272)); clear HO_261001; clear HO_261002; clear HO_273001; clear HO_273002; clear HO287; clear HO291; clear HO294; clear BK260; clear BK272; clear HB; have HO_261001 := n0_; have HO_261002 := n1_; have HO_273001 := n2_; have HO_273002 := n3_; have HO287 := n4_; have HO291 := n5_; have HO294 := n6_; have BK260 := n7_; have BK272 := n8_; have HB := n9_; have BK296 := n10_; have GW296 := n11_; have GE296 := n12_; have NB260_296 := n13_; have NB296_260 := n14_; have NB272_296 := n15_; have NB296_272 := n16_; clear n0_ n1_ n2_ n3_ n4_ n5_ n6_ n7_ n8_ n9_ n10_ n11_ n12_ n13_ n14_ n15_ n16_; clear hb hbox hg; have hnb76 := NB296_260.out; have hnc76 := NB260_296.out; have hnb77 := NB296_272.out; have hnc77 := NB272_296.out; have hcz78_0 : w75.cell? ⟨gb296, 0, none⟩ = some (.int .i64 0) := (blk_cell BK296.out 0).trans rfl; have hcz78_1 : w75.cell? ⟨gb296, 1, none⟩ = some (.slice none 0 0) := (blk_cell BK296.out 1).trans rfl; have hcz78_2 : w75.cell? ⟨gb296, 2, none⟩ = some (.slice none 0 0) := (blk_cell BK296.out 2).trans rfl; have hfz78_0 := blk_frozen BK296.out 0; have hfz78_1 := blk_frozen BK296.out 1; have hfz78_2 := blk_frozen BK296.out 2; obtain ⟨Ao79, co79, eo79⟩ := Kd.R_slice HO291.out; subst eo79; obtain ⟨Ao80, co80, eo80⟩ := Kd.S_slice HO294.out; subst eo80))
           (try simp only [Act.put, List.setIfInBounds_toArray, List.set_cons_zero, List.set_cons_succ])
           go_cut [84] (fun v84 wc => ∃ (kq : Nat) (x84_65 : Bool), v84 = .bool x84_65 ∧ Aside0 (laws_FnExactWaveOf.j2 kq t281 x84_65 t264 t282 t283 = some r) ∧ Aside0 (kq ≤ kj38) ∧ Aside0 (Kd.R (Kd.int .i64) 3 wc w.heap.size (fun k_ => some k_ ≠ ((.slice Ao22 t265.length co22) : Value).ownBlock ∧ some k_ ≠ ((.slice Ao79 t289.length co79) : Value).ownBlock) (.slice Ao13 t253.length co13) t253) ∧ Aside0 (Kd.S k29 29 wc w.heap.size (fun k_ => some k_ ≠ ((.slice Ao23 t268.length co23) : Value).ownBlock ∧ some k_ ≠ ((.slice Ao80 t292.length co80) : Value).ownBlock) (.slice Ao14 t256.length co14) t256) ∧ Aside0 (Kd.R (Kd.int .i64) 3 wc w.heap.size (fun k_ => some k_ ≠ ((.slice Ao13 t253.length co13) : Value).ownBlock ∧ some k_ ≠ ((.slice Ao79 t289.length co79) : Value).ownBlock) (.slice Ao22 t265.length co22) t282) ∧ Aside0 (Kd.S k29 29 wc w.heap.size (fun k_ => some k_ ≠ ((.slice Ao14 t256.length co14) : Value).ownBlock ∧ some k_ ≠ ((.slice Ao80 t292.length co80) : Value).ownBlock) (.slice Ao23 t268.length co23) t283) ∧ Aside0 (Kd.R (Kd.int .i64) 3 wc w.heap.size (fun k_ => some k_ ≠ ((.slice Ao13 t253.length co13) : Value).ownBlock ∧ some k_ ≠ ((.slice Ao22 t265.length co22) : Value).ownBlock) (.slice Ao79 t289.length co79) t289) ∧ Aside0 (Kd.S k29 29 wc w.heap.size (fun k_ => some k_ ≠ ((.slice Ao14 t256.length co14) : Value).ownBlock ∧ some k_ ≠ ((.slice Ao23 t268.length co23) : Value).ownBlock) (.slice Ao80 t292.length co80) t292) ∧ Aside0 (wc.heap[gb260]? = some (.cells #[.int .i64 t252, (.slice Ao13 t253.length co13), (.slice Ao14 t256.length co14)] 58 (0, 0))) ∧ Aside0 (wc.heap[gb272]? = some (.cells #[.int .i64 t264, (.slice Ao22 t265.length co22), (.slice Ao23 t268.length co23)] 58 (0, 0))) ∧ Aside0 (wc.heap[gb296]? = some (.cells #[.int .i64 t288, (.slice Ao79 t289.length co79), (.slice Ao80 t292.length co80)] 58 (0, 0))) ∧ Aside0 (Below w.heap.size w wc))
           case first =>
            have H := HC66.out
            clear HC66
            replace H := Option.bind_eq_some_iff.mp H
            obtain ⟨t297, A810, H⟩ := H
            replace H : (if t297 = true then (laws_FnExactWaveOf.j2 kj38 t281 (t295 != t259) t264 t282 t283) else (laws_FnExactWaveOf.j2 kj38 t281 true t264 t282 t283)) = some r := H
            have A81 := Aside0.mk A810
            clear A810
            by_cases c82 : t297 = true
            ·subst c82
             have H1 : (laws_FnExactWaveOf.j2 kj38 t281 (t295 != t259) t264 t282 t283) = some r := by rw [if_pos rfl] at H; exact H
             clear H
             have H := H1
             clear H1
             have H' := Aside0.mk H
             clear H
             have hnb83 := NB296_260.out
             have hnc83 := NB260_296.out
             have hnb84 := NB296_272.out
             have hnc84 := NB272_296.out
             have hcz85_0 : w75.cell? ⟨gb296, 0, none⟩ = some (.int .i64 0) := (blk_cell BK296.out 0).trans rfl
             have hcz85_1 : w75.cell? ⟨gb296, 1, none⟩ = some (.slice none 0 0) := (blk_cell BK296.out 1).trans rfl
             have hcz85_2 : w75.cell? ⟨gb296, 2, none⟩ = some (.slice none 0 0) := (blk_cell BK296.out 2).trans rfl
             have hfz85_0 := blk_frozen BK296.out 0
             have hfz85_1 := blk_frozen BK296.out 1
             have hfz85_2 := blk_frozen BK296.out 2
             have hnb86 := NB260_272.out
             have hnc86 := NB272_260.out
             have hcz87_0 : w75.cell? ⟨gb260, 0, none⟩ = some (.int .i64 t252) := (blk_cell BK260.out 0).trans rfl
             have hcz87_1 : w75.cell? ⟨gb260, 1, none⟩ = some (.slice Ao13 t253.length co13) := (blk_cell BK260.out 1).trans rfl
             have hcz87_2 : w75.cell? ⟨gb260, 2, none⟩ = some (.slice Ao14 t256.length co14) := (blk_cell BK260.out 2).trans rfl
             have hfz87_0 := blk_frozen BK260.out 0
             have hfz87_1 := blk_frozen BK260.out 1
             have hfz87_2 := blk_frozen BK260.out 2
             go_wp2_with (first | ((with_reducible refine gate_callee (f := 38) rfl ?_); refine goesL_ (some 78) rfl rfl Try.func38 (by kernel_rfl) rfl #[.agg #[.int .i64 t288, .slice Ao79 t289.length co79, .slice Ao80 t292.length co80], .agg #[.int .i64 t252, .slice Ao13 t253.length co13, .slice Ao14 t256.length co14]] rfl (by (try simp only [List.map_toArray, List.map_cons, List.map_nil]); first | done | rfl | (simp only [List.length_drop, List.length_take]; rfl)) ?_; (with_reducible refine (laws_eqWave.calls kj38 t288 _ _ t289 _ _ t292 t252 _ _ t253 _ _ t256 true _ ?side1 ?side2 ?side3 ?side4 ?side5 ?side6 ?side7 ?side8 A81.out).mono ?_); (case side1 => refine (Kd.R_reads' (e := 3) (base := w.heap.size) (ok := fun k_ => (((True ∧ some k_ ≠ (.slice Ao13 t253.length co13 : Value).ownBlock) ∧ some k_ ≠ (.slice Ao22 t265.length co22 : Value).ownBlock) ∧ some k_ ≠ (.slice Ao73 t285.length co73 : Value).ownBlock)) (n := t289.length) (c := co79) ?_).2.2; exact (by (with_reducible repeat (first | apply Kd.R_alloc | apply Kd.R_drewN | apply Kd.R_drew)); exact (Kd.R_mono (Kd.R_far (p := ⟨gb296, 2, none⟩) (Kd.R_far (p := ⟨gb296, 1, none⟩) (Kd.R_far (p := ⟨gb296, 0, none⟩) (Kd.R_types HO291.out BK296.out (by decide)) (fun _ hk => hk.2) (.int .i64 t288)) (fun _ hk => hk.2) (.slice Ao79 t289.length co79)) (fun _ hk => hk.2) (.slice Ao80 t292.length co80)) (fun _ h_ => h_.1)))); (case side2 => exact (Kd.R_reads' HO291.out).2.1); (case side3 => refine (Kd.S_reads' (e := 29) (base := w.heap.size) (ok := fun k_ => ((True ∧ some k_ ≠ (.slice Ao14 t256.length co14 : Value).ownBlock) ∧ some k_ ≠ (.slice Ao23 t268.length co23 : Value).ownBlock)) (n := t292.length) (c := co80) ?_).2.2; exact (by (with_reducible repeat (first | apply Kd.S_alloc | apply Kd.S_drewN | apply Kd.S_drew)); exact (Kd.S_mono (Kd.S_far (p := ⟨gb296, 2, none⟩) (Kd.S_far (p := ⟨gb296, 1, none⟩) (Kd.S_far (p := ⟨gb296, 0, none⟩) (Kd.S_types HO294.out BK296.out (by decide)) (fun _ hk => hk.2) (.int .i64 t288)) (fun _ hk => hk.2) (.slice Ao79 t289.length co79)) (fun _ hk => hk.2) (.slice Ao80 t292.length co80)) (fun _ h_ => h_.1)))); (case side4 => exact (Kd.S_reads' HO294.out).2.1); (case side5 => refine (Kd.R_reads' (e := 3) (base := w.heap.size) (ok := fun k_ => ((some k_ ≠ (.slice Ao22 t265.length co22 : Value).ownBlock ∧ some k_ ≠ (.slice Ao73 t285.length co73 : Value).ownBlock) ∧ some k_ ≠ (.slice Ao79 t289.length co79 : Value).ownBlock)) (n := t253.length) (c := co13) ?_).2.2; exact (by (with_reducible repeat (first | apply Kd.R_alloc | apply Kd.R_drewN | apply Kd.R_drew)); exact (Kd.R_mono (Kd.R_far (p := ⟨gb296, 2, none⟩) (Kd.R_far (p := ⟨gb296, 1, none⟩) (Kd.R_far (p := ⟨gb296, 0, none⟩) (Kd.R_types HO_261001.out BK296.out (by decide)) (fun _ hk => hk.2) (.int .i64 t288)) (fun _ hk => hk.2) (.slice Ao79 t289.length co79)) (fun _ hk => hk.2) (.slice Ao80 t292.length co80)) (fun _ h_ => h_.1)))); (case side6 => exact (Kd.R_reads' HO_261001.out).2.1); (case side7 => refine (Kd.S_reads' (e := 29) (base := w.heap.size) (ok := fun k_ => (some k_ ≠ (.slice Ao23 t268.length co23 : Value).ownBlock ∧ some k_ ≠ (.slice Ao80 t292.length co80 : Value).ownBlock)) (n := t256.length) (c := co14) ?_).2.2; exact (by (with_reducible repeat (first | apply Kd.S_alloc | apply Kd.S_drewN | apply Kd.S_drew)); exact (Kd.S_mono (Kd.S_far (p := ⟨gb296, 2, none⟩) (Kd.S_far (p := ⟨gb296, 1, none⟩) (Kd.S_far (p := ⟨gb296, 0, none⟩) (Kd.S_types HO_261002.out BK296.out (by decide)) (fun _ hk => hk.2) (.int .i64 t288)) (fun _ hk => hk.2) (.slice Ao79 t289.length co79)) (fun _ hk => hk.2) (.slice Ao80 t292.length co80)) (fun _ h_ => h_.1)))); (case side8 => exact (Kd.S_reads' HO_261002.out).2.1); rintro e w88 ⟨rfl, hb⟩; refine ⟨_, rfl, ?_⟩; have n0_ := Aside0.mk (Kd.R_below (by (with_reducible repeat (first | apply Kd.R_alloc | apply Kd.R_drewN | apply Kd.R_drew)); exact (Kd.R_mono (Kd.R_far (p := ⟨gb296, 2, none⟩) (Kd.R_far (p := ⟨gb296, 1, none⟩) (Kd.R_far (p := ⟨gb296, 0, none⟩) (Kd.R_types HO_261001.out BK296.out (by decide)) (fun _ hk => hk.2) (.int .i64 t288)) (fun _ hk => hk.2) (.slice Ao79 t289.length co79)) (fun _ hk => hk.2) (.slice Ao80 t292.length co80)) (fun _ h_ => h_.1))) hb); have n1_ := Aside0.mk (Kd.S_below (by (with_reducible repeat (first | apply Kd.S_alloc | apply Kd.S_drewN | apply Kd.S_drew)); exact (Kd.S_mono (Kd.S_far (p := ⟨gb296, 2, none⟩) (Kd.S_far (p := ⟨gb296, 1, none⟩) (Kd.S_far (p := ⟨gb296, 0, none⟩) (Kd.S_types HO_261002.out BK296.out (by decide)) (fun _ hk => hk.2) (.int .i64 t288)) (fun _ hk => hk.2) (.slice Ao79 t289.length co79)) (fun _ hk => hk.2) (.slice Ao80 t292.length co80)) (fun _ h_ => h_.1))) hb); have n2_ := Aside0.mk (Kd.R_below (by (with_reducible repeat (first | apply Kd.R_alloc | apply Kd.R_drewN | apply Kd.R_drew)); exact (Kd.R_mono (Kd.R_far (p := ⟨gb296, 2, none⟩) (Kd.R_far (p := ⟨gb296, 1, none⟩) (Kd.R_far (p := ⟨gb296, 0, none⟩) (Kd.R_types HO_273001.out BK296.out (by decide)) (fun _ hk => hk.2) (.int .i64 t288)) (fun _ hk => hk.2) (.slice Ao79 t289.length co79)) (fun _ hk => hk.2) (.slice Ao80 t292.length co80)) (fun _ h_ => h_.1))) hb); have n3_ := Aside0.mk (Kd.S_below (by (with_reducible repeat (first | apply Kd.S_alloc | apply Kd.S_drewN | apply Kd.S_drew)); exact (Kd.S_mono (Kd.S_far (p := ⟨gb296, 2, none⟩) (Kd.S_far (p := ⟨gb296, 1, none⟩) (Kd.S_far (p := ⟨gb296, 0, none⟩) (Kd.S_types HO_273002.out BK296.out (by decide)) (fun _ hk => hk.2) (.int .i64 t288)) (fun _ hk => hk.2) (.slice Ao79 t289.length co79)) (fun _ hk => hk.2) (.slice Ao80 t292.length co80)) (fun _ h_ => h_.1))) hb); have n4_ := Aside0.mk (Kd.R_below (by (with_reducible repeat (first | apply Kd.R_alloc | apply Kd.R_drewN | apply Kd.R_drew)); exact (Kd.R_mono (Kd.R_far (p := ⟨gb296, 2, none⟩) (Kd.R_far (p := ⟨gb296, 1, none⟩) (Kd.R_far (p := ⟨gb296, 0, none⟩) (Kd.R_types HO287.out BK296.out (by decide)) (fun _ hk => hk.2) (.int .i64 t288)) (fun _ hk => hk.2) (.slice Ao79 t289.length co79)) (fun _ hk => hk.2) (.slice Ao80 t292.length co80)) (fun _ h_ => h_.1))) hb); have n5_ := Aside0.mk (Kd.R_below (by (with_reducible repeat (first | apply Kd.R_alloc | apply Kd.R_drewN | apply Kd.R_drew)); exact (Kd.R_mono (Kd.R_far (p := ⟨gb296, 2, none⟩) (Kd.R_far (p := ⟨gb296, 1, none⟩) (Kd.R_far (p := ⟨gb296, 0, none⟩) (Kd.R_types HO291.out BK296.out (by decide)) (fun _ hk => hk.2) (.int .i64 t288)) (fun _ hk => hk.2) (.slice Ao79 t289.length co79)) (fun _ hk => hk.2) (.slice Ao80 t292.length co80)) (fun _ h_ => h_.1))) hb); have n6_ := Aside0.mk (Kd.S_below (by (with_reducible repeat (first | apply Kd.S_alloc | apply Kd.S_drewN | apply Kd.S_drew)); exact (Kd.S_mono (Kd.S_far (p := ⟨gb296, 2, none⟩) (Kd.S_far (p := ⟨gb296, 1, none⟩) (Kd.S_far (p := ⟨gb296, 0, none⟩) (Kd.S_types HO294.out BK296.out (by decide)) (fun _ hk => hk.2) (.int .i64 t288)) (fun _ hk => hk.2) (.slice Ao79 t289.length co79)) (fun _ hk => hk.2) (.slice Ao80 t292.length co80)) (fun _ h_ => h_.1))) hb); have n7_ := Aside0.mk (blk_below (g := gb260) (o := .cells #[.int .i64 t252, .slice Ao13 t253.length co13, .slice Ao14 t256.length co14] 58 (0, 0)) (by (with_reducible repeat (first | refine blk_drewN ?_ _ | refine blk_drew ?_ | refine blk_alloc ?_ _)); refine blk_far ?_ NB260_296.out _; (with_reducible repeat (first | refine blk_drewN ?_ _ | refine blk_drew ?_ | refine blk_alloc ?_ _)); refine blk_far ?_ NB260_296.out _; (with_reducible repeat (first | refine blk_drewN ?_ _ | refine blk_drew ?_ | refine blk_alloc ?_ _)); refine blk_far ?_ NB260_296.out _; (with_reducible repeat (first | refine blk_drewN ?_ _ | refine blk_drew ?_ | refine blk_alloc ?_ _)); exact BK260.out) hb); have n8_ := Aside0.mk (blk_below (g := gb272) (o := .cells #[.int .i64 t264, .slice Ao22 t265.length co22, .slice Ao23 t268.length co23] 58 (0, 0)) (by (with_reducible repeat (first | refine blk_drewN ?_ _ | refine blk_drew ?_ | refine blk_alloc ?_ _)); refine blk_far ?_ NB272_296.out _; (with_reducible repeat (first | refine blk_drewN ?_ _ | refine blk_drew ?_ | refine blk_alloc ?_ _)); refine blk_far ?_ NB272_296.out _; (with_reducible repeat (first | refine blk_drewN ?_ _ | refine blk_drew ?_ | refine blk_alloc ?_ _)); refine blk_far ?_ NB272_296.out _; (with_reducible repeat (first | refine blk_drewN ?_ _ | refine blk_drew ?_ | refine blk_alloc ?_ _)); exact BK272.out) hb); have n9_ := Aside0.mk (blk_below (g := gb296) (o := .cells #[.int .i64 t288, .slice Ao79 t289.length co79, .slice Ao80 t292.length co80] 58 (0, 0)) (by (with_reducible repeat (first | refine blk_drewN ?_ _ | refine blk_drew ?_ | refine blk_alloc ?_ _)); refine blk_put (cs := #[.int .i64 t288, .slice Ao79 t289.length co79, .slice none 0 0]) ?_ 2 _ rfl; (with_reducible repeat (first | refine blk_drewN ?_ _ | refine blk_drew ?_ | refine blk_alloc ?_ _)); refine blk_put (cs := #[.int .i64 t288, .slice none 0 0, .slice none 0 0]) ?_ 1 _ rfl; (with_reducible repeat (first | refine blk_drewN ?_ _ | refine blk_drew ?_ | refine blk_alloc ?_ _)); refine blk_put (cs := #[.int .i64 0, .slice none 0 0, .slice none 0 0]) ?_ 0 _ rfl; (with_reducible repeat (first | refine blk_drewN ?_ _ | refine blk_drew ?_ | refine blk_alloc ?_ _)); exact BK296.out) hb); have n10_ := Aside0.mk (below_step (by repeat (first | (with_reducible first | exact HB.out | apply below_alloc | apply pw_below_drewN | apply below_drew1 | refine below_set ?_ GE260.out | refine below_set ?_ GE272.out | refine below_set ?_ GE296.out) | exact HB.out)) hb); clear HO_261001; clear HO_261002; clear HO_273001; clear HO_273002; clear HO287; clear HO291; clear HO294; clear BK260; clear BK272; clear BK296; clear HB; have HO_261001 := n0_; have HO_261002 := n1_; have HO_273001 := n2_; have HO_273002 := n3_; have HO287 := n4_; have HO291 := n5_; have HO294 := n6_; have BK260 := n7_; have BK272 := n8_; have BK296 := n9_; have HB := n10_; clear n0_ n1_ n2_ n3_ n4_ n5_ n6_ n7_ n8_ n9_ n10_; (try clear hb); (try clear hb2); (try clear hk); (try clear hi)))
             go_meet
             case rel => exact ⟨_, ((t295 != t259)), (by first | rfl | (simp; done) | (simp [*]; done)), H', ⟨by have := HJ6.out; have := HJ38.out; first | omega | exact Nat.le_refl _⟩, ⟨by (with_reducible repeat (first | apply Kd.R_alloc | apply Kd.R_drewN | apply Kd.R_drew)); exact Kd.R_mono HO_261001.out (by first | exact (fun _ hk => ⟨hk.1.1, hk.2⟩) | (intro k_ hk_; simp [hk_]; done) | (intro k_ hk_; simp_all))⟩, ⟨by (with_reducible repeat (first | apply Kd.S_alloc | apply Kd.S_drewN | apply Kd.S_drew)); exact HO_261002.out⟩, ⟨by (with_reducible repeat (first | apply Kd.R_alloc | apply Kd.R_drewN | apply Kd.R_drew)); exact Kd.R_mono HO_273001.out (by first | exact (fun _ hk => ⟨hk.1.1, hk.2⟩) | (intro k_ hk_; simp [hk_]; done) | (intro k_ hk_; simp_all))⟩, ⟨by (with_reducible repeat (first | apply Kd.S_alloc | apply Kd.S_drewN | apply Kd.S_drew)); exact HO_273002.out⟩, ⟨by (with_reducible repeat (first | apply Kd.R_alloc | apply Kd.R_drewN | apply Kd.R_drew)); exact Kd.R_mono HO291.out (by first | exact (fun _ hk => ⟨hk.1.1.2, hk.1.2⟩) | (intro k_ hk_; simp [hk_]; done) | (intro k_ hk_; simp_all))⟩, ⟨by (with_reducible repeat (first | apply Kd.S_alloc | apply Kd.S_drewN | apply Kd.S_drew)); exact Kd.S_mono HO294.out (by first | exact (fun _ hk => ⟨hk.1.2, hk.2⟩) | (intro k_ hk_; simp [hk_]; done) | (intro k_ hk_; simp_all))⟩, ⟨by (with_reducible repeat (first | refine blk_drewN ?_ _ | refine blk_drew ?_ | refine blk_alloc ?_ _)); exact BK260.out⟩, ⟨by (with_reducible repeat (first | refine blk_drewN ?_ _ | refine blk_drew ?_ | refine blk_alloc ?_ _)); exact BK272.out⟩, ⟨by (with_reducible repeat (first | refine blk_drewN ?_ _ | refine blk_drew ?_ | refine blk_alloc ?_ _)); exact BK296.out⟩, ⟨by repeat (first | (with_reducible first | exact HB.out | apply below_alloc | apply pw_below_drewN | apply below_drew1 | refine below_set ?_ GE260.out | refine below_set ?_ GE272.out | refine below_set ?_ GE296.out) | exact HB.out)⟩⟩
            ·replace c82 := Bool.eq_false_iff.mpr c82
             subst c82
             have H1 : (laws_FnExactWaveOf.j2 kj38 t281 true t264 t282 t283) = some r := by rw [if_neg (show ¬ (false = true) by decide)] at H; exact H
             clear H
             have H := H1
             clear H1
             have H' := Aside0.mk H
             clear H
             have hnb89 := NB296_260.out
             have hnc89 := NB260_296.out
             have hnb90 := NB296_272.out
             have hnc90 := NB272_296.out
             have hcz91_0 : w75.cell? ⟨gb296, 0, none⟩ = some (.int .i64 0) := (blk_cell BK296.out 0).trans rfl
             have hcz91_1 : w75.cell? ⟨gb296, 1, none⟩ = some (.slice none 0 0) := (blk_cell BK296.out 1).trans rfl
             have hcz91_2 : w75.cell? ⟨gb296, 2, none⟩ = some (.slice none 0 0) := (blk_cell BK296.out 2).trans rfl
             have hfz91_0 := blk_frozen BK296.out 0
             have hfz91_1 := blk_frozen BK296.out 1
             have hfz91_2 := blk_frozen BK296.out 2
             have hnb92 := NB260_272.out
             have hnc92 := NB272_260.out
             have hcz93_0 : w75.cell? ⟨gb260, 0, none⟩ = some (.int .i64 t252) := (blk_cell BK260.out 0).trans rfl
             have hcz93_1 : w75.cell? ⟨gb260, 1, none⟩ = some (.slice Ao13 t253.length co13) := (blk_cell BK260.out 1).trans rfl
             have hcz93_2 : w75.cell? ⟨gb260, 2, none⟩ = some (.slice Ao14 t256.length co14) := (blk_cell BK260.out 2).trans rfl
             have hfz93_0 := blk_frozen BK260.out 0
             have hfz93_1 := blk_frozen BK260.out 1
             have hfz93_2 := blk_frozen BK260.out 2
             go_wp2_with (first | ((with_reducible refine gate_callee (f := 38) rfl ?_); refine goesL_ (some 78) rfl rfl Try.func38 (by kernel_rfl) rfl #[.agg #[.int .i64 t288, .slice Ao79 t289.length co79, .slice Ao80 t292.length co80], .agg #[.int .i64 t252, .slice Ao13 t253.length co13, .slice Ao14 t256.length co14]] rfl (by (try simp only [List.map_toArray, List.map_cons, List.map_nil]); first | done | rfl | (simp only [List.length_drop, List.length_take]; rfl)) ?_; (with_reducible refine (laws_eqWave.calls kj38 t288 _ _ t289 _ _ t292 t252 _ _ t253 _ _ t256 false _ ?side1 ?side2 ?side3 ?side4 ?side5 ?side6 ?side7 ?side8 A81.out).mono ?_); (case side1 => refine (Kd.R_reads' (e := 3) (base := w.heap.size) (ok := fun k_ => (((True ∧ some k_ ≠ (.slice Ao13 t253.length co13 : Value).ownBlock) ∧ some k_ ≠ (.slice Ao22 t265.length co22 : Value).ownBlock) ∧ some k_ ≠ (.slice Ao73 t285.length co73 : Value).ownBlock)) (n := t289.length) (c := co79) ?_).2.2; exact (by (with_reducible repeat (first | apply Kd.R_alloc | apply Kd.R_drewN | apply Kd.R_drew)); exact (Kd.R_mono (Kd.R_far (p := ⟨gb296, 2, none⟩) (Kd.R_far (p := ⟨gb296, 1, none⟩) (Kd.R_far (p := ⟨gb296, 0, none⟩) (Kd.R_types HO291.out BK296.out (by decide)) (fun _ hk => hk.2) (.int .i64 t288)) (fun _ hk => hk.2) (.slice Ao79 t289.length co79)) (fun _ hk => hk.2) (.slice Ao80 t292.length co80)) (fun _ h_ => h_.1)))); (case side2 => exact (Kd.R_reads' HO291.out).2.1); (case side3 => refine (Kd.S_reads' (e := 29) (base := w.heap.size) (ok := fun k_ => ((True ∧ some k_ ≠ (.slice Ao14 t256.length co14 : Value).ownBlock) ∧ some k_ ≠ (.slice Ao23 t268.length co23 : Value).ownBlock)) (n := t292.length) (c := co80) ?_).2.2; exact (by (with_reducible repeat (first | apply Kd.S_alloc | apply Kd.S_drewN | apply Kd.S_drew)); exact (Kd.S_mono (Kd.S_far (p := ⟨gb296, 2, none⟩) (Kd.S_far (p := ⟨gb296, 1, none⟩) (Kd.S_far (p := ⟨gb296, 0, none⟩) (Kd.S_types HO294.out BK296.out (by decide)) (fun _ hk => hk.2) (.int .i64 t288)) (fun _ hk => hk.2) (.slice Ao79 t289.length co79)) (fun _ hk => hk.2) (.slice Ao80 t292.length co80)) (fun _ h_ => h_.1)))); (case side4 => exact (Kd.S_reads' HO294.out).2.1); (case side5 => refine (Kd.R_reads' (e := 3) (base := w.heap.size) (ok := fun k_ => ((some k_ ≠ (.slice Ao22 t265.length co22 : Value).ownBlock ∧ some k_ ≠ (.slice Ao73 t285.length co73 : Value).ownBlock) ∧ some k_ ≠ (.slice Ao79 t289.length co79 : Value).ownBlock)) (n := t253.length) (c := co13) ?_).2.2; exact (by (with_reducible repeat (first | apply Kd.R_alloc | apply Kd.R_drewN | apply Kd.R_drew)); exact (Kd.R_mono (Kd.R_far (p := ⟨gb296, 2, none⟩) (Kd.R_far (p := ⟨gb296, 1, none⟩) (Kd.R_far (p := ⟨gb296, 0, none⟩) (Kd.R_types HO_261001.out BK296.out (by decide)) (fun _ hk => hk.2) (.int .i64 t288)) (fun _ hk => hk.2) (.slice Ao79 t289.length co79)) (fun _ hk => hk.2) (.slice Ao80 t292.length co80)) (fun _ h_ => h_.1)))); (case side6 => exact (Kd.R_reads' HO_261001.out).2.1); (case side7 => refine (Kd.S_reads' (e := 29) (base := w.heap.size) (ok := fun k_ => (some k_ ≠ (.slice Ao23 t268.length co23 : Value).ownBlock ∧ some k_ ≠ (.slice Ao80 t292.length co80 : Value).ownBlock)) (n := t256.length) (c := co14) ?_).2.2; exact (by (with_reducible repeat (first | apply Kd.S_alloc | apply Kd.S_drewN | apply Kd.S_drew)); exact (Kd.S_mono (Kd.S_far (p := ⟨gb296, 2, none⟩) (Kd.S_far (p := ⟨gb296, 1, none⟩) (Kd.S_far (p := ⟨gb296, 0, none⟩) (Kd.S_types HO_261002.out BK296.out (by decide)) (fun _ hk => hk.2) (.int .i64 t288)) (fun _ hk => hk.2) (.slice Ao79 t289.length co79)) (fun _ hk => hk.2) (.slice Ao80 t292.length co80)) (fun _ h_ => h_.1)))); (case side8 => exact (Kd.S_reads' HO_261002.out).2.1); rintro e w94 ⟨rfl, hb⟩; refine ⟨_, rfl, ?_⟩; have n0_ := Aside0.mk (Kd.R_below (by (with_reducible repeat (first | apply Kd.R_alloc | apply Kd.R_drewN | apply Kd.R_drew)); exact (Kd.R_mono (Kd.R_far (p := ⟨gb296, 2, none⟩) (Kd.R_far (p := ⟨gb296, 1, none⟩) (Kd.R_far (p := ⟨gb296, 0, none⟩) (Kd.R_types HO_261001.out BK296.out (by decide)) (fun _ hk => hk.2) (.int .i64 t288)) (fun _ hk => hk.2) (.slice Ao79 t289.length co79)) (fun _ hk => hk.2) (.slice Ao80 t292.length co80)) (fun _ h_ => h_.1))) hb); have n1_ := Aside0.mk (Kd.S_below (by (with_reducible repeat (first | apply Kd.S_alloc | apply Kd.S_drewN | apply Kd.S_drew)); exact (Kd.S_mono (Kd.S_far (p := ⟨gb296, 2, none⟩) (Kd.S_far (p := ⟨gb296, 1, none⟩) (Kd.S_far (p := ⟨gb296, 0, none⟩) (Kd.S_types HO_261002.out BK296.out (by decide)) (fun _ hk => hk.2) (.int .i64 t288)) (fun _ hk => hk.2) (.slice Ao79 t289.length co79)) (fun _ hk => hk.2) (.slice Ao80 t292.length co80)) (fun _ h_ => h_.1))) hb); have n2_ := Aside0.mk (Kd.R_below (by (with_reducible repeat (first | apply Kd.R_alloc | apply Kd.R_drewN | apply Kd.R_drew)); exact (Kd.R_mono (Kd.R_far (p := ⟨gb296, 2, none⟩) (Kd.R_far (p := ⟨gb296, 1, none⟩) (Kd.R_far (p := ⟨gb296, 0, none⟩) (Kd.R_types HO_273001.out BK296.out (by decide)) (fun _ hk => hk.2) (.int .i64 t288)) (fun _ hk => hk.2) (.slice Ao79 t289.length co79)) (fun _ hk => hk.2) (.slice Ao80 t292.length co80)) (fun _ h_ => h_.1))) hb); have n3_ := Aside0.mk (Kd.S_below (by (with_reducible repeat (first | apply Kd.S_alloc | apply Kd.S_drewN | apply Kd.S_drew)); exact (Kd.S_mono (Kd.S_far (p := ⟨gb296, 2, none⟩) (Kd.S_far (p := ⟨gb296, 1, none⟩) (Kd.S_far (p := ⟨gb296, 0, none⟩) (Kd.S_types HO_273002.out BK296.out (by decide)) (fun _ hk => hk.2) (.int .i64 t288)) (fun _ hk => hk.2) (.slice Ao79 t289.length co79)) (fun _ hk => hk.2) (.slice Ao80 t292.length co80)) (fun _ h_ => h_.1))) hb); have n4_ := Aside0.mk (Kd.R_below (by (with_reducible repeat (first | apply Kd.R_alloc | apply Kd.R_drewN | apply Kd.R_drew)); exact (Kd.R_mono (Kd.R_far (p := ⟨gb296, 2, none⟩) (Kd.R_far (p := ⟨gb296, 1, none⟩) (Kd.R_far (p := ⟨gb296, 0, none⟩) (Kd.R_types HO287.out BK296.out (by decide)) (fun _ hk => hk.2) (.int .i64 t288)) (fun _ hk => hk.2) (.slice Ao79 t289.length co79)) (fun _ hk => hk.2) (.slice Ao80 t292.length co80)) (fun _ h_ => h_.1))) hb); have n5_ := Aside0.mk (Kd.R_below (by (with_reducible repeat (first | apply Kd.R_alloc | apply Kd.R_drewN | apply Kd.R_drew)); exact (Kd.R_mono (Kd.R_far (p := ⟨gb296, 2, none⟩) (Kd.R_far (p := ⟨gb296, 1, none⟩) (Kd.R_far (p := ⟨gb296, 0, none⟩) (Kd.R_types HO291.out BK296.out (by decide)) (fun _ hk => hk.2) (.int .i64 t288)) (fun _ hk => hk.2) (.slice Ao79 t289.length co79)) (fun _ hk => hk.2) (.slice Ao80 t292.length co80)) (fun _ h_ => h_.1))) hb); have n6_ := Aside0.mk (Kd.S_below (by (with_reducible repeat (first | apply Kd.S_alloc | apply Kd.S_drewN | apply Kd.S_drew)); exact (Kd.S_mono (Kd.S_far (p := ⟨gb296, 2, none⟩) (Kd.S_far (p := ⟨gb296, 1, none⟩) (Kd.S_far (p := ⟨gb296, 0, none⟩) (Kd.S_types HO294.out BK296.out (by decide)) (fun _ hk => hk.2) (.int .i64 t288)) (fun _ hk => hk.2) (.slice Ao79 t289.length co79)) (fun _ hk => hk.2) (.slice Ao80 t292.length co80)) (fun _ h_ => h_.1))) hb); have n7_ := Aside0.mk (blk_below (g := gb260) (o := .cells #[.int .i64 t252, .slice Ao13 t253.length co13, .slice Ao14 t256.length co14] 58 (0, 0)) (by (with_reducible repeat (first | refine blk_drewN ?_ _ | refine blk_drew ?_ | refine blk_alloc ?_ _)); refine blk_far ?_ NB260_296.out _; (with_reducible repeat (first | refine blk_drewN ?_ _ | refine blk_drew ?_ | refine blk_alloc ?_ _)); refine blk_far ?_ NB260_296.out _; (with_reducible repeat (first | refine blk_drewN ?_ _ | refine blk_drew ?_ | refine blk_alloc ?_ _)); refine blk_far ?_ NB260_296.out _; (with_reducible repeat (first | refine blk_drewN ?_ _ | refine blk_drew ?_ | refine blk_alloc ?_ _)); exact BK260.out) hb); have n8_ := Aside0.mk (blk_below (g := gb272) (o := .cells #[.int .i64 t264, .slice Ao22 t265.length co22, .slice Ao23 t268.length co23] 58 (0, 0)) (by (with_reducible repeat (first | refine blk_drewN ?_ _ | refine blk_drew ?_ | refine blk_alloc ?_ _)); refine blk_far ?_ NB272_296.out _; (with_reducible repeat (first | refine blk_drewN ?_ _ | refine blk_drew ?_ | refine blk_alloc ?_ _)); refine blk_far ?_ NB272_296.out _; (with_reducible repeat (first | refine blk_drewN ?_ _ | refine blk_drew ?_ | refine blk_alloc ?_ _)); refine blk_far ?_ NB272_296.out _; (with_reducible repeat (first | refine blk_drewN ?_ _ | refine blk_drew ?_ | refine blk_alloc ?_ _)); exact BK272.out) hb); have n9_ := Aside0.mk (blk_below (g := gb296) (o := .cells #[.int .i64 t288, .slice Ao79 t289.length co79, .slice Ao80 t292.length co80] 58 (0, 0)) (by (with_reducible repeat (first | refine blk_drewN ?_ _ | refine blk_drew ?_ | refine blk_alloc ?_ _)); refine blk_put (cs := #[.int .i64 t288, .slice Ao79 t289.length co79, .slice none 0 0]) ?_ 2 _ rfl; (with_reducible repeat (first | refine blk_drewN ?_ _ | refine blk_drew ?_ | refine blk_alloc ?_ _)); refine blk_put (cs := #[.int .i64 t288, .slice none 0 0, .slice none 0 0]) ?_ 1 _ rfl; (with_reducible repeat (first | refine blk_drewN ?_ _ | refine blk_drew ?_ | refine blk_alloc ?_ _)); refine blk_put (cs := #[.int .i64 0, .slice none 0 0, .slice none 0 0]) ?_ 0 _ rfl; (with_reducible repeat (first | refine blk_drewN ?_ _ | refine blk_drew ?_ | refine blk_alloc ?_ _)); exact BK296.out) hb); have n10_ := Aside0.mk (below_step (by repeat (first | (with_reducible first | exact HB.out | apply below_alloc | apply pw_below_drewN | apply below_drew1 | refine below_set ?_ GE260.out | refine below_set ?_ GE272.out | refine below_set ?_ GE296.out) | exact HB.out)) hb); clear HO_261001; clear HO_261002; clear HO_273001; clear HO_273002; clear HO287; clear HO291; clear HO294; clear BK260; clear BK272; clear BK296; clear HB; have HO_261001 := n0_; have HO_261002 := n1_; have HO_273001 := n2_; have HO_273002 := n3_; have HO287 := n4_; have HO291 := n5_; have HO294 := n6_; have BK260 := n7_; have BK272 := n8_; have BK296 := n9_; have HB := n10_; clear n0_ n1_ n2_ n3_ n4_ n5_ n6_ n7_ n8_ n9_ n10_; (try clear hb); (try clear hb2); (try clear hk); (try clear hi)))
             go_meet
             case rel => exact ⟨_, (true), (by first | rfl | (simp; done) | (simp [*]; done)), H', ⟨by have := HJ6.out; have := HJ38.out; first | omega | exact Nat.le_refl _⟩, ⟨by (with_reducible repeat (first | apply Kd.R_alloc | apply Kd.R_drewN | apply Kd.R_drew)); exact Kd.R_mono HO_261001.out (by first | exact (fun _ hk => ⟨hk.1.1, hk.2⟩) | (intro k_ hk_; simp [hk_]; done) | (intro k_ hk_; simp_all))⟩, ⟨by (with_reducible repeat (first | apply Kd.S_alloc | apply Kd.S_drewN | apply Kd.S_drew)); exact HO_261002.out⟩, ⟨by (with_reducible repeat (first | apply Kd.R_alloc | apply Kd.R_drewN | apply Kd.R_drew)); exact Kd.R_mono HO_273001.out (by first | exact (fun _ hk => ⟨hk.1.1, hk.2⟩) | (intro k_ hk_; simp [hk_]; done) | (intro k_ hk_; simp_all))⟩, ⟨by (with_reducible repeat (first | apply Kd.S_alloc | apply Kd.S_drewN | apply Kd.S_drew)); exact HO_273002.out⟩, ⟨by (with_reducible repeat (first | apply Kd.R_alloc | apply Kd.R_drewN | apply Kd.R_drew)); exact Kd.R_mono HO291.out (by first | exact (fun _ hk => ⟨hk.1.1.2, hk.1.2⟩) | (intro k_ hk_; simp [hk_]; done) | (intro k_ hk_; simp_all))⟩, ⟨by (with_reducible repeat (first | apply Kd.S_alloc | apply Kd.S_drewN | apply Kd.S_drew)); exact Kd.S_mono HO294.out (by first | exact (fun _ hk => ⟨hk.1.2, hk.2⟩) | (intro k_ hk_; simp [hk_]; done) | (intro k_ hk_; simp_all))⟩, ⟨by (with_reducible repeat (first | refine blk_drewN ?_ _ | refine blk_drew ?_ | refine blk_alloc ?_ _)); exact BK260.out⟩, ⟨by (with_reducible repeat (first | refine blk_drewN ?_ _ | refine blk_drew ?_ | refine blk_alloc ?_ _)); exact BK272.out⟩, ⟨by (with_reducible repeat (first | refine blk_drewN ?_ _ | refine blk_drew ?_ | refine blk_alloc ?_ _)); exact BK296.out⟩, ⟨by repeat (first | (with_reducible first | exact HB.out | apply below_alloc | apply pw_below_drewN | apply below_drew1 | refine below_set ?_ GE260.out | refine below_set ?_ GE272.out | refine below_set ?_ GE296.out) | exact HB.out)⟩⟩
           case rest =>
            clear HC66
            try clear c1
            try clear c2
            try clear c2b0
            try clear c2b1
            try clear p2
            try clear c3
            try clear c4
            try clear c5
            try clear c6
            try clear c7
            try clear c8
            try clear c9
            try clear c18
            try clear c20
            try clear c21
            try clear c25
            try clear c26
            try clear c30
            try clear c34
            try clear c36
            try clear c37
            try clear c38
            try clear c39
            try clear c40
            try clear c43
            try clear c43b0
            try clear c45
            try clear c46
            try clear c50
            try clear c54
            try clear c57
            try clear c57b0
            try clear c58
            try clear c63
            try clear c63b0
            try clear c63b1
            try clear c67
            try clear c76
            try clear c77
            try clear c82
            try clear c83
            try clear c84
            try clear c86
            try clear c89
            try clear c90
            try clear c92
            try clear hcz12_0
            try clear hcz12_1
            try clear hcz12_2
            try clear hcz21_0
            try clear hcz21_1
            try clear hcz21_2
            try clear hcz27_0
            try clear hcz27_1
            try clear hcz27_2
            try clear hcz28_0
            try clear hcz28_1
            try clear hcz28_2
            try clear hcz31_0
            try clear hcz31_1
            try clear hcz31_2
            try clear hcz32_0
            try clear hcz32_1
            try clear hcz32_2
            try clear hcz47_0
            try clear hcz47_1
            try clear hcz47_2
            try clear hcz48_0
            try clear hcz48_1
            try clear hcz48_2
            try clear hcz51_0
            try clear hcz51_1
            try clear hcz51_2
            try clear hcz52_0
            try clear hcz52_1
            try clear hcz52_2
            try clear hcz59_0
            try clear hcz59_1
            try clear hcz59_2
            try clear hcz61_0
            try clear hcz61_1
            try clear hcz61_2
            try clear hcz68_0
            try clear hcz68_1
            try clear hcz68_2
            try clear hcz70_0
            try clear hcz70_1
            try clear hcz70_2
            try clear hcz78_0
            try clear hcz78_1
            try clear hcz78_2
            try clear hcz85_0
            try clear hcz85_1
            try clear hcz85_2
            try clear hcz87_0
            try clear hcz87_1
            try clear hcz87_2
            try clear hcz91_0
            try clear hcz91_1
            try clear hcz91_2
            try clear hcz93_0
            try clear hcz93_1
            try clear hcz93_2
            try clear hfz12_0
            try clear hfz12_1
            try clear hfz12_2
            try clear hfz21_0
            try clear hfz21_1
            try clear hfz21_2
            try clear hfz27_0
            try clear hfz27_1
            try clear hfz27_2
            try clear hfz28_0
            try clear hfz28_1
            try clear hfz28_2
            try clear hfz31_0
            try clear hfz31_1
            try clear hfz31_2
            try clear hfz32_0
            try clear hfz32_1
            try clear hfz32_2
            try clear hfz47_0
            try clear hfz47_1
            try clear hfz47_2
            try clear hfz48_0
            try clear hfz48_1
            try clear hfz48_2
            try clear hfz51_0
            try clear hfz51_1
            try clear hfz51_2
            try clear hfz52_0
            try clear hfz52_1
            try clear hfz52_2
            try clear hfz59_0
            try clear hfz59_1
            try clear hfz59_2
            try clear hfz61_0
            try clear hfz61_1
            try clear hfz61_2
            try clear hfz68_0
            try clear hfz68_1
            try clear hfz68_2
            try clear hfz70_0
            try clear hfz70_1
            try clear hfz70_2
            try clear hfz78_0
            try clear hfz78_1
            try clear hfz78_2
            try clear hfz85_0
            try clear hfz85_1
            try clear hfz85_2
            try clear hfz87_0
            try clear hfz87_1
            try clear hfz87_2
            try clear hfz91_0
            try clear hfz91_1
            try clear hfz91_2
            try clear hfz93_0
            try clear hfz93_1
            try clear hfz93_2
            try clear p2
            obtain ⟨kq, x84_65, rfl, HA, HJ65, HO_261001, HO_261002, HO_273001, HO_273002, HO_297001, HO_297002, BK260, BK272, BK296, HB⟩ := hcut
            have hl273001_65 := (Kd.R_reads' HO_273001.out).1
            rw [hl273001_65] at HO_273001
            (try simp only [hl273001_65])
            (try simp only [hl273001_65] at BK260)
            (try simp only [hl273001_65] at BK272)
            (try simp only [hl273001_65] at BK296)
            (try simp only [hl273001_65] at HO_261001)
            (try simp only [hl273001_65] at HO_261002)
            (try simp only [hl273001_65] at HO_273002)
            (try simp only [hl273001_65] at HO_297001)
            (try simp only [hl273001_65] at HO_297002)
            have hl273002_65 := (Kd.S_reads' HO_273002.out).1
            rw [hl273002_65] at HO_273002
            (try simp only [hl273002_65])
            (try simp only [hl273002_65] at BK260)
            (try simp only [hl273002_65] at BK272)
            (try simp only [hl273002_65] at BK296)
            (try simp only [hl273002_65] at HO_261001)
            (try simp only [hl273002_65] at HO_261002)
            (try simp only [hl273002_65] at HO_273001)
            (try simp only [hl273002_65] at HO_297001)
            (try simp only [hl273002_65] at HO_297002)
            cases kq with
            | zero => exact absurd HA.out (by simp [laws_FnExactWaveOf.j2])
            | succ kj65 =>
             have H := HA.out
             clear HA
             simp only [laws_FnExactWaveOf.j2] at H
             by_cases c95 : x84_65 = true
             ·subst c95
              have H1 : (some false) = some r := by rw [if_pos rfl] at H; exact H
              clear H
              have H := H1
              clear H1
              exact absurd ((Option.some.inj H).trans HRT_.out) (by decide)
             ·replace c95 := Bool.eq_false_iff.mpr c95
              subst c95
              have H1 : ((laws_heldWave.f kj65 t264 t282 t283 1).bind fun t298 => (if t298 < 0 then (some false) else (if t298 = t281 then (some true) else (some false)))) = some r := by rw [if_neg (show ¬ (false = true) by decide)] at H; exact H
              clear H
              have H := H1
              clear H1
              replace H := Option.bind_eq_some_iff.mp H
              obtain ⟨t298, A960, H⟩ := H
              replace H : (if t298 < 0 then (some false) else (if t298 = t281 then (some true) else (some false))) = some r := H
              have A96 := Aside0.mk A960
              clear A960
              by_cases c97 : t298 < 0
              ·rw [if_pos c97] at H
               have c97b0 : decide (t298 < 0) = true := decide_eq_true c97
               clear c97
               exact absurd ((Option.some.inj H).trans HRT_.out) (by decide)
              ·rw [if_neg c97] at H
               have c97b0 : decide (t298 < 0) = false := decide_eq_false c97
               clear c97
               by_cases c102 : t298 = t281
               ·rw [if_pos c102] at H
                have c102b0 : (t298 == t281) = true := beq_iff_eq.mpr c102
                have c102b1 : (t298 != t281) = false := bne_eq_false_iff_eq.mpr c102
                clear c102
                obtain rfl := Option.some.inj H
                have hnb103 := NB272_260.out
                have hnc103 := NB260_272.out
                have hnb104 := NB272_296.out
                have hnc104 := NB296_272.out
                have hcz105_0 : wc.cell? ⟨gb272, 0, none⟩ = some (.int .i64 t264) := (blk_cell BK272.out 0).trans rfl
                have hcz105_1 : wc.cell? ⟨gb272, 1, none⟩ = some (.slice Ao22 t282.length co22) := (blk_cell BK272.out 1).trans rfl
                have hcz105_2 : wc.cell? ⟨gb272, 2, none⟩ = some (.slice Ao23 t283.length co23) := (blk_cell BK272.out 2).trans rfl
                have hfz105_0 := blk_frozen BK272.out 0
                have hfz105_1 := blk_frozen BK272.out 1
                have hfz105_2 := blk_frozen BK272.out 2
                go_wp2_with (first | ((with_reducible refine gate_callee (f := 40) rfl ?_); refine goesL_ (some 87) rfl rfl Try.func40 (by kernel_rfl) rfl #[.agg #[.int .i64 t264, .slice Ao22 t282.length co22, .slice Ao23 t283.length co23], .int .i64 1] rfl (by (try simp only [List.map_toArray, List.map_cons, List.map_nil]); first | done | rfl | (simp only [List.length_drop, List.length_take]; rfl)) ?_; (with_reducible refine (laws_heldWave.calls kj65 t264 _ _ t282 _ _ t283 1 t298 _ ?side1 ?side2 ?side3 ?side4 A96.out).mono ?_); (case side1 => repeat (first | exact (Kd.R_reads' HO_273001.out).2.2 | (with_reducible refine Kd.C_alloc ?_ _) | (with_reducible refine Kd.C_drewN ?_ _) | (with_reducible refine Kd.C_drew ?_))); (case side2 => exact (Kd.R_reads' HO_273001.out).2.1); (case side3 => repeat (first | exact (Kd.S_reads' HO_273002.out).2.2 | (with_reducible refine Kd.C_alloc ?_ _) | (with_reducible refine Kd.C_drewN ?_ _) | (with_reducible refine Kd.C_drew ?_))); (case side4 => exact (Kd.S_reads' HO_273002.out).2.1); rintro e w106 ⟨rfl, hb⟩; refine ⟨_, rfl, ?_⟩; have n0_ := Aside0.mk (Kd.R_below (by (with_reducible repeat (first | apply Kd.R_alloc | apply Kd.R_drewN | apply Kd.R_drew)); exact HO_261001.out) hb); have n1_ := Aside0.mk (Kd.S_below (by (with_reducible repeat (first | apply Kd.S_alloc | apply Kd.S_drewN | apply Kd.S_drew)); exact HO_261002.out) hb); have n2_ := Aside0.mk (Kd.R_below (by (with_reducible repeat (first | apply Kd.R_alloc | apply Kd.R_drewN | apply Kd.R_drew)); exact HO_273001.out) hb); have n3_ := Aside0.mk (Kd.S_below (by (with_reducible repeat (first | apply Kd.S_alloc | apply Kd.S_drewN | apply Kd.S_drew)); exact HO_273002.out) hb); have n4_ := Aside0.mk (Kd.R_below (by (with_reducible repeat (first | apply Kd.R_alloc | apply Kd.R_drewN | apply Kd.R_drew)); exact HO_297001.out) hb); have n5_ := Aside0.mk (Kd.S_below (by (with_reducible repeat (first | apply Kd.S_alloc | apply Kd.S_drewN | apply Kd.S_drew)); exact HO_297002.out) hb); have n6_ := Aside0.mk (blk_below (g := gb260) (o := .cells #[.int .i64 t252, .slice Ao13 t253.length co13, .slice Ao14 t256.length co14] 58 (0, 0)) (by (with_reducible repeat (first | refine blk_drewN ?_ _ | refine blk_drew ?_ | refine blk_alloc ?_ _)); exact BK260.out) hb); have n7_ := Aside0.mk (blk_below (g := gb272) (o := .cells #[.int .i64 t264, .slice Ao22 t282.length co22, .slice Ao23 t283.length co23] 58 (0, 0)) (by (with_reducible repeat (first | refine blk_drewN ?_ _ | refine blk_drew ?_ | refine blk_alloc ?_ _)); exact BK272.out) hb); have n8_ := Aside0.mk (blk_below (g := gb296) (o := .cells #[.int .i64 t288, .slice Ao79 t289.length co79, .slice Ao80 t292.length co80] 58 (0, 0)) (by (with_reducible repeat (first | refine blk_drewN ?_ _ | refine blk_drew ?_ | refine blk_alloc ?_ _)); exact BK296.out) hb); have n9_ := Aside0.mk (below_step (by repeat (first | (with_reducible first | exact HB.out | apply below_alloc | apply pw_below_drewN | apply below_drew1 | refine below_set ?_ GE260.out | refine below_set ?_ GE272.out | refine below_set ?_ GE296.out) | exact HB.out)) hb); clear HO_261001; clear HO_261002; clear HO_273001; clear HO_273002; clear HO_297001; clear HO_297002; clear BK260; clear BK272; clear BK296; clear HB; have HO_261001 := n0_; have HO_261002 := n1_; have HO_273001 := n2_; have HO_273002 := n3_; have HO_297001 := n4_; have HO_297002 := n5_; have BK260 := n6_; have BK272 := n7_; have BK296 := n8_; have HB := n9_; clear n0_ n1_ n2_ n3_ n4_ n5_ n6_ n7_ n8_ n9_; (try clear hb); (try clear hb2); (try clear hk); (try clear hi)))
                go_ret
                exact ⟨by first | rfl | (simp [errW_none, errW_some] <;> rfl) | (simp [*, errW_none, errW_some] <;> rfl), by repeat (first | (with_reducible first | exact HB.out | apply below_alloc | apply pw_below_drewN | apply below_drew1 | refine below_set ?_ GE260.out | refine below_set ?_ GE272.out | refine below_set ?_ GE296.out) | exact HB.out)⟩
               ·rw [if_neg c102] at H
                have c102b0 : (t298 == t281) = false := beq_eq_false_iff_ne.mpr c102
                have c102b1 : (t298 != t281) = true := bne_iff_ne.mpr c102
                exact absurd ((Option.some.inj H).trans HRT_.out) (by decide)
          ·rw [if_neg c63] at H
           have c63b0 : (t284 == t281) = false := beq_eq_false_iff_ne.mpr c63
           have c63b1 : (t284 != t281) = true := bne_iff_ne.mpr c63
           exact absurd ((Option.some.inj H).trans HRT_.out) (by decide)
     ·replace c37 := Bool.eq_false_iff.mpr c37
      subst c37
      have H1 : (some false) = some r := by rw [if_neg (show ¬ (false = true) by decide)] at H; exact H
      clear H
      have H := H1
      clear H1
      exact absurd ((Option.some.inj H).trans HRT_.out) (by decide)

/-- THE ONE PURE STATEMENT of laws_FnExactWaveOf: yours. -/
def laws_FnExactWaveOf.Pure : Prop := ∀ (l0 : List Int), l0.length ≤ maxLen → l0.length * 8 ≤ 140737488351232 → (∀ x ∈ l0, (Lit.int .i64 x).wf = true) → ∃ k, laws_FnExactWaveOf.f k l0 = some true
theorem laws_FnExactWaveOf.walk (P : laws_FnExactWaveOf.Pure) (a0 : Option Addr) (len0 cap0 : Nat) (z0 : List Int) (w : World) (w0 : (a0 = none ∧ len0 = 0 ∧ cap0 = 0 ∧ z0 = []) ∨ ∃ x, a0 = some x ∧ len0 ≤ cap0 ∧ cap0 ≤ maxLen ∧ z0.length = cap0 ∧ (∀ i, i < z0.length → w.cell? (x.add i) = some (.int .i64 (z0.getD i 0))) ∧ ∀ n ∈ z0, (Lit.int .i64 n).wf = true) (y0 : len0 * 8 ≤ 140737488351232) :
  Calls Try.prog 9 #[.slice a0 len0 cap0] w fun e w' => e = .returned (.bool true) ∧ Below w.heap.size w w' := by
 obtain ⟨l0, rfl, hr0, hm0, hw0, hc0⟩ := ReadsInt.ofRowC w0
 obtain ⟨k, h⟩ := P l0 hm0 y0 hw0
 refine (laws_FnExactWaveOf.calls k _ _ l0 true w (Kd.C_of_reads (d := (0 : Int)) (h1 := fun _ => rfl) hr0) hc0 rfl h).mono ?_
 rintro e w' ⟨rfl, hd⟩
 exact ⟨rfl, hd⟩

end Go.Proofs.Yteckcjjkblkfkaa.QFnExactWaveOf
