-- WRITTEN BY A PROGRAM OF THIS SESSION (wip/tools/print2.py) out of Lean's own print of the loaded program; Lean checks every row.
import Derived.Test.YtcbhepghmmbdmaaQFnExactBitsJoinx0
import Derived.Test.YtcbhepghmmbdmaaQFnExactBitsJoinx1
import Derived.Test.YtcbhepghmmbdmaaQFnExactBitsJoinx4
import Derived.Test.YtcbhepghmmbdmaaQFnExactBitsJoinx6
namespace Go.Proofs.Ytcbhepghmmbdmaa.QFnExactBitsJoin
open Go.RowKit Go.Proofs.YtcbhepghmmbdmaaW.PrintWords Go.Proofs.YtcbhepghmmbdmaaW.PrintLast Go.Proofs.YtcbhepghmmbdmaaW.PrintMore
attribute [local go_sem] max2_int min2_int max_two min_two max_three min_three max_four min_four   -- for this text's walks alone
set_option linter.unusedVariables false
set_option linter.unusedSimpArgs false

/-! ### laws_FnExactBitsJoin: function 10 -/
mutual
def laws_FnExactBitsJoin.j0 : Nat → Bool → Bool → Bool → Int → List Int → Int → List Int → Int → List Int → Int → List Int → Int → List Int → Int → List Int → Option (Bool)
 | 0, _, _, _, _, _, _, _, _, _, _, _, _, _, _, _ => none
 | k + 1, x7, x11, x53, x241000, x241001, x242000, x242001, x258000, x258001, x263000, x263001, x268000, x268001, x274000, x274001 => if x53 = true then (some false) else ((laws_toBits.f k x241000 x241001).bind fun bt275 => ((laws_eqBits.f k x263000 x263001 bt275.1 bt275.2).bind fun t279 => (if t279 = true then ((laws_toBits.f k x242000 x242001).bind fun bt280 => ((laws_eqBits.f k x268000 x268001 bt280.1 bt280.2).bind fun t284 => (if t284 = true then ((laws_markBits.f k x263000 x263001 1).bind fun bt285 => ((laws_markBits.f k x268000 x268001 bt285.1).bind fun bt287 => (if bt287.1 < 0 then (laws_FnExactBitsJoin.j1 k x7 true x241000 x241001 x242000 x242001 x258000 x258001 x274000 x274001) else ((laws_eqBits.f k x274000 x274001 x258000 x258001).bind fun t289 => (if t289 = true then (laws_FnExactBitsJoin.j1 k x7 (x11 != x7) x241000 x241001 x242000 x242001 x258000 x258001 x274000 x274001) else (laws_FnExactBitsJoin.j1 k x7 true x241000 x241001 x242000 x242001 x258000 x258001 x274000 x274001)))))) else (some false)))) else (some false))))
def laws_FnExactBitsJoin.j1 : Nat → Bool → Bool → Int → List Int → Int → List Int → Int → List Int → Int → List Int → Option (Bool)
 | 0, _, _, _, _, _, _, _, _, _, _ => none
 | k + 1, x7, x82, x241000, x241001, x242000, x242001, x258000, x258001, x274000, x274001 => if x82 = true then (some false) else ((laws_markBits.f k x274000 x274001 1).bind fun bt290 => ((laws_heldBits.f k x274000 bt290.2 1).bind fun t292 => (if t292 < 0 then (some false) else (if t292 = bt290.1 then ((laws_toBits.f k x241000 x241001).bind fun bt293 => ((laws_toBits.f k x242000 x242001).bind fun bt297 => ((impl_BitsJoin.f k bt293.1 bt293.2 bt297.1 bt297.2).bind fun bt301 => ((laws_eqBits.f k bt301.1 bt301.2.1 x258000 x258001).bind fun t307 => (if t307 = true then (laws_FnExactBitsJoin.j2 k bt290.1 (bt301.2.2 != x7) x274000 bt290.2) else (laws_FnExactBitsJoin.j2 k bt290.1 true x274000 bt290.2)))))) else (some false)))))
def laws_FnExactBitsJoin.j2 : Nat → Int → Bool → Int → List Int → Option (Bool)
 | 0, _, _, _, _ => none
 | k + 1, x13, x110, x274000, x274001 => if x110 = true then (some false) else ((laws_heldBits.f k x274000 x274001 1).bind fun t308 => (if t308 < 0 then (some false) else (if t308 = x13 then (some true) else (some false))))
end
def laws_FnExactBitsJoin.f (k : Nat) (a0_0 : Int) (l0_1 : List Int) (a1_0 : Int) (l1_1 : List Int) : Option (Bool) := (laws_szBits.f a0_0 l0_1 1048576).bind fun t242 => (if t242 < 0 then (some true) else ((laws_szBits.f a1_0 l1_1 t242).bind fun t243 => (if t243 < 0 then (some true) else ((laws_toBits.f k a0_0 l0_1).bind fun bt244 => ((laws_toBits.f k a1_0 l1_1).bind fun bt248 => ((spec_BitsJoin.f k bt244.1 bt244.2 bt248.1 bt248.2).bind fun bt252 => ((laws_toBits.f k a0_0 l0_1).bind fun bt258 => ((laws_toBits.f k a1_0 l1_1).bind fun bt263 => ((impl_BitsJoin.f k bt258.1 bt258.2 bt263.1 bt263.2).bind fun bt268 => ((laws_eqBits.f k bt268.1 bt268.2.1 bt252.1 bt252.2.1).bind fun t274 => (if t274 = true then (laws_FnExactBitsJoin.j0 k bt252.2.2 bt268.2.2 (bt268.2.2 != bt252.2.2) a0_0 l0_1 a1_0 l1_1 bt252.1 bt252.2.1 bt258.1 bt258.2 bt263.1 bt263.2 bt268.1 bt268.2.1) else (laws_FnExactBitsJoin.j0 k bt252.2.2 bt268.2.2 true a0_0 l0_1 a1_0 l1_1 bt252.1 bt252.2.1 bt258.1 bt258.2 bt263.1 bt263.2 bt268.1 bt268.2.1))))))))))))
theorem laws_FnExactBitsJoin.mono_l : ∀ k, (∀ y0 y1 y2 y3 y4 y5 y6 y7 y8 y9 y10 y11 y12 y13 y14, LeO (laws_FnExactBitsJoin.j0 k y0 y1 y2 y3 y4 y5 y6 y7 y8 y9 y10 y11 y12 y13 y14) (laws_FnExactBitsJoin.j0 (k + 1) y0 y1 y2 y3 y4 y5 y6 y7 y8 y9 y10 y11 y12 y13 y14)) ∧ (∀ y0 y1 y2 y3 y4 y5 y6 y7 y8 y9, LeO (laws_FnExactBitsJoin.j1 k y0 y1 y2 y3 y4 y5 y6 y7 y8 y9) (laws_FnExactBitsJoin.j1 (k + 1) y0 y1 y2 y3 y4 y5 y6 y7 y8 y9)) ∧ (∀ y0 y1 y2 y3, LeO (laws_FnExactBitsJoin.j2 k y0 y1 y2 y3) (laws_FnExactBitsJoin.j2 (k + 1) y0 y1 y2 y3))
 | 0 => ⟨fun _ _ _ _ _ _ _ _ _ _ _ _ _ _ _ r h => by simp [laws_FnExactBitsJoin.j0] at h, fun _ _ _ _ _ _ _ _ _ _ r h => by simp [laws_FnExactBitsJoin.j1] at h, fun _ _ _ _ r h => by simp [laws_FnExactBitsJoin.j2] at h⟩
 | k + 1 => by
  obtain ⟨ih0, ih1, ih2⟩ := laws_FnExactBitsJoin.mono_l k
  refine ⟨?_, ?_, ?_⟩
  ·intro y0 y1 y2 y3 y4 y5 y6 y7 y8 y9 y10 y11 y12 y13 y14
   unfold laws_FnExactBitsJoin.j0
   repeat' first
   | (with_reducible exact ih0 _ _ _ _ _ _ _ _ _ _ _ _ _ _ _)
   | (with_reducible exact ih1 _ _ _ _ _ _ _ _ _ _)
   | (with_reducible exact ih2 _ _ _ _)
   | (with_reducible exact impl_BitsJoin.mono _ _ _ _ _)
   | (with_reducible exact laws_eqBits.mono _ _ _ _ _)
   | (with_reducible exact laws_heldBits.mono _ _ _ _)
   | (with_reducible exact laws_markBits.mono _ _ _ _)
   | (with_reducible exact laws_toBits.mono _ _ _)
   | (with_reducible exact spec_BitsJoin.mono _ _ _ _ _)
   | (with_reducible exact LeO.refl _)
   | (with_reducible exact LeO.none _)
   | (with_reducible refine LeO.ite ?_ ?_)
   | (with_reducible refine LeO.bind ?_ (fun _ => ?_))
   | exact ih0 _ _ _ _ _ _ _ _ _ _ _ _ _ _ _
   | exact ih1 _ _ _ _ _ _ _ _ _ _
   | exact ih2 _ _ _ _
   | exact impl_BitsJoin.mono _ _ _ _ _
   | exact laws_eqBits.mono _ _ _ _ _
   | exact laws_heldBits.mono _ _ _ _
   | exact laws_markBits.mono _ _ _ _
   | exact laws_toBits.mono _ _ _
   | exact spec_BitsJoin.mono _ _ _ _ _
   | exact LeO.none _
   | refine LeO.ite ?_ ?_
   | refine LeO.bind ?_ (fun _ => ?_)
  ·intro y0 y1 y2 y3 y4 y5 y6 y7 y8 y9
   unfold laws_FnExactBitsJoin.j1
   repeat' first
   | (with_reducible exact ih0 _ _ _ _ _ _ _ _ _ _ _ _ _ _ _)
   | (with_reducible exact ih1 _ _ _ _ _ _ _ _ _ _)
   | (with_reducible exact ih2 _ _ _ _)
   | (with_reducible exact impl_BitsJoin.mono _ _ _ _ _)
   | (with_reducible exact laws_eqBits.mono _ _ _ _ _)
   | (with_reducible exact laws_heldBits.mono _ _ _ _)
   | (with_reducible exact laws_markBits.mono _ _ _ _)
   | (with_reducible exact laws_toBits.mono _ _ _)
   | (with_reducible exact spec_BitsJoin.mono _ _ _ _ _)
   | (with_reducible exact LeO.refl _)
   | (with_reducible exact LeO.none _)
   | (with_reducible refine LeO.ite ?_ ?_)
   | (with_reducible refine LeO.bind ?_ (fun _ => ?_))
   | exact ih0 _ _ _ _ _ _ _ _ _ _ _ _ _ _ _
   | exact ih1 _ _ _ _ _ _ _ _ _ _
   | exact ih2 _ _ _ _
   | exact impl_BitsJoin.mono _ _ _ _ _
   | exact laws_eqBits.mono _ _ _ _ _
   | exact laws_heldBits.mono _ _ _ _
   | exact laws_markBits.mono _ _ _ _
   | exact laws_toBits.mono _ _ _
   | exact spec_BitsJoin.mono _ _ _ _ _
   | exact LeO.none _
   | refine LeO.ite ?_ ?_
   | refine LeO.bind ?_ (fun _ => ?_)
  ·intro y0 y1 y2 y3
   unfold laws_FnExactBitsJoin.j2
   repeat' first
   | (with_reducible exact ih0 _ _ _ _ _ _ _ _ _ _ _ _ _ _ _)
   | (with_reducible exact ih1 _ _ _ _ _ _ _ _ _ _)
   | (with_reducible exact ih2 _ _ _ _)
   | (with_reducible exact impl_BitsJoin.mono _ _ _ _ _)
   | (with_reducible exact laws_eqBits.mono _ _ _ _ _)
   | (with_reducible exact laws_heldBits.mono _ _ _ _)
   | (with_reducible exact laws_markBits.mono _ _ _ _)
   | (with_reducible exact laws_toBits.mono _ _ _)
   | (with_reducible exact spec_BitsJoin.mono _ _ _ _ _)
   | (with_reducible exact LeO.refl _)
   | (with_reducible exact LeO.none _)
   | (with_reducible refine LeO.ite ?_ ?_)
   | (with_reducible refine LeO.bind ?_ (fun _ => ?_))
   | exact ih0 _ _ _ _ _ _ _ _ _ _ _ _ _ _ _
   | exact ih1 _ _ _ _ _ _ _ _ _ _
   | exact ih2 _ _ _ _
   | exact impl_BitsJoin.mono _ _ _ _ _
   | exact laws_eqBits.mono _ _ _ _ _
   | exact laws_heldBits.mono _ _ _ _
   | exact laws_markBits.mono _ _ _ _
   | exact laws_toBits.mono _ _ _
   | exact spec_BitsJoin.mono _ _ _ _ _
   | exact LeO.none _
   | refine LeO.ite ?_ ?_
   | refine LeO.bind ?_ (fun _ => ?_)
theorem laws_FnExactBitsJoin.mono : ∀ a0 a1 a2 a3 k, LeO (laws_FnExactBitsJoin.f k a0 a1 a2 a3) (laws_FnExactBitsJoin.f (k + 1) a0 a1 a2 a3) := by
 intro a0 a1 a2 a3 k
 obtain ⟨ih0, ih1, ih2⟩ := laws_FnExactBitsJoin.mono_l k
 unfold laws_FnExactBitsJoin.f
 repeat' first
   | (with_reducible exact ih0 _ _ _ _ _ _ _ _ _ _ _ _ _ _ _)
   | (with_reducible exact ih1 _ _ _ _ _ _ _ _ _ _)
   | (with_reducible exact ih2 _ _ _ _)
   | (with_reducible exact impl_BitsJoin.mono _ _ _ _ _)
   | (with_reducible exact laws_eqBits.mono _ _ _ _ _)
   | (with_reducible exact laws_heldBits.mono _ _ _ _)
   | (with_reducible exact laws_markBits.mono _ _ _ _)
   | (with_reducible exact laws_toBits.mono _ _ _)
   | (with_reducible exact spec_BitsJoin.mono _ _ _ _ _)
   | (with_reducible exact LeO.refl _)
   | (with_reducible exact LeO.none _)
   | (with_reducible refine LeO.ite ?_ ?_)
   | (with_reducible refine LeO.bind ?_ (fun _ => ?_))
   | exact ih0 _ _ _ _ _ _ _ _ _ _ _ _ _ _ _
   | exact ih1 _ _ _ _ _ _ _ _ _ _
   | exact ih2 _ _ _ _
   | exact impl_BitsJoin.mono _ _ _ _ _
   | exact laws_eqBits.mono _ _ _ _ _
   | exact laws_heldBits.mono _ _ _ _
   | exact laws_markBits.mono _ _ _ _
   | exact laws_toBits.mono _ _ _
   | exact spec_BitsJoin.mono _ _ _ _ _
   | exact LeO.none _
   | refine LeO.ite ?_ ?_
   | refine LeO.bind ?_ (fun _ => ?_)
def laws_FnExactBitsJoin.T8 : Bool × List (List Nat × List Nat) := (true, [([], []), ([0], [0]), ([], []), ([2, 1], [2]), ([1, 3, 3], [1, 3]), ([4], [4]), ([5], [5]), ([5], [5]), ([], []), ([8, 6, 4, 0, 1, 2, 3, 4, 5, 6, 8], [6, 8]), ([7, 9, 0, 1, 2, 3, 4, 5, 6, 7, 8, 9], [7])])
def laws_FnExactBitsJoin.B8 : List Nat := [0, 1, 0, 7, 15, 31, 63, 63, 0, 383, 1023]
theorem laws_FnExactBitsJoin.tab8 : rtab .any (opsOf Try.f10 8) = laws_FnExactBitsJoin.T8 := by kernel_rfl
theorem laws_FnExactBitsJoin.bits8 : waitsOk laws_FnExactBitsJoin.T8.2 laws_FnExactBitsJoin.B8 = true := by kernel_rfl
def laws_FnExactBitsJoin.T31 : Bool × List (List Nat × List Nat) := (true, [([], []), ([0], [0]), ([], []), ([2, 1], [2]), ([1, 3, 3], [1, 3]), ([4], [4]), ([5], [5]), ([5], [5]), ([], []), ([8, 6, 4, 0, 1, 2, 3, 4, 5, 6, 8], [6, 8]), ([7, 9, 0, 1, 2, 3, 4, 5, 6, 7, 8, 9], [7])])
def laws_FnExactBitsJoin.B31 : List Nat := [0, 1, 0, 7, 15, 31, 63, 63, 0, 383, 1023]
theorem laws_FnExactBitsJoin.tab31 : rtab .any (opsOf Try.f10 31) = laws_FnExactBitsJoin.T31 := by kernel_rfl
theorem laws_FnExactBitsJoin.bits31 : waitsOk laws_FnExactBitsJoin.T31.2 laws_FnExactBitsJoin.B31 = true := by kernel_rfl
/-- what of a text stands behind its first n statements; a sequence's head; what stands behind it -/
def cdN : Nat → Code → Code
 | 0, c => c
 | n + 1, .seq _ b => cdN n b
 | _ + 1, c => c
def cdH : Code → Code
 | .seq a _ => a
 | c => c
def cdT : Code → Code
 | .seq _ b => b
 | c => c
set_option maxHeartbeats 8000000 in
set_option maxRecDepth 100000 in
theorem laws_FnExactBitsJoin.rest82 {k : Nat} {a0_0 : Int} {A0_1 : Option Addr} {c0_1 : Nat} {l0_1 : List Int} {a1_0 : Int} {A1_1 : Option Addr} {c1_1 : Nat} {l1_1 : List Int} {r : Bool} {w : World} {gb240 gb241 : Nat} {t243 t252 : Int} {t253 : List Int} {t256 : Bool} {t258 : Int} {t259 : List Int} {t263 : Int} {t264 : List Int} {t268 : Int} {t269 : List Int} {t272 : Bool} {gb257 : Nat} {Ao42 : Option Addr} {co42 gb262 : Nat} {Ao52 : Option Addr} {co52 gb267 : Nat} {Ao62 : Option Addr} {co62 gb273 : Nat} {Ao72 : Option Addr} {co72 kj24 : Nat} {t276 t281 t286 : List Int} {t287 : Int} {t288 : List Int} {Ao111 : Option Addr} {co111 : Nat} {Ao115 : Option Addr} {co115 : Nat} {w129 wc : World} {u17 u18 u19 u20 u21 u22 u23 u24 u25 u26 u27 u28 u29 u30 u31 u32 u33 u34 u35 u36 u37 u38 u39 u40 u41 u42 u43 u44 u45 u46 u47 u48 u49 u50 u51 u52 u53 u54 u55 u56 u57 u58 u59 u60 u61 u62 u63 u64 u65 u66 u67 u68 u69 u70 u71 u72 u73 u74 u75 u76 u77 u78 u79 u80 u81 u82 u83 u84 u85 u86 u87 u88 u89 u90 u91 u92 u93 u94 u95 u96 u97 u98 u99 u100 u101 u102 u103 u104 u105 u106 u107 u108 u109 u110 u111 u112 u113 u114 u115 u116 u117 u118 : Value} (HRT_ : Aside0 (r = true)) (hu34 : Program.underlying Try.prog 34 = some (TypeDesc.struct #[Field.mk "N" 3 0 false "" "" 0, Field.mk "Words" 23 1 false "" "" 8])) (hu25 : Program.underlying Try.prog 25 = some (TypeDesc.struct #[Field.mk "N" 3 0 false "" "" 0, Field.mk "Words" 23 1 false "" "" 8])) (HR0_1 : Aside0 (Kd.C (Kd.int IntKind.u64) w A0_1 (List.length l0_1) l0_1)) (HC0_1 : Aside0 (List.length l0_1 ≤ c0_1)) (HR1_1 : Aside0 (Kd.C (Kd.int IntKind.u64) w A1_1 (List.length l1_1) l1_1)) (HC1_1 : Aside0 (List.length l1_1 ≤ c1_1)) (GE240 : Aside0 (Array.size (World.heap w) ≤ gb240)) (GE241 : Aside0 (Array.size (World.heap w) ≤ gb241)) (GE257 : Aside0 (Array.size (World.heap w) ≤ gb257)) (NB240_257 : Aside0 (gb240 ≠ gb257)) (NB257_240 : Aside0 (gb257 ≠ gb240)) (NB241_257 : Aside0 (gb241 ≠ gb257)) (NB257_241 : Aside0 (gb257 ≠ gb241)) (GE262 : Aside0 (Array.size (World.heap w) ≤ gb262)) (NB257_262 : Aside0 (gb257 ≠ gb262)) (NB262_257 : Aside0 (gb262 ≠ gb257)) (GE267 : Aside0 (Array.size (World.heap w) ≤ gb267)) (NB257_267 : Aside0 (gb257 ≠ gb267)) (NB267_257 : Aside0 (gb267 ≠ gb257)) (GE273 : Aside0 (Array.size (World.heap w) ≤ gb273)) (NB240_273 : Aside0 (gb240 ≠ gb273)) (NB273_240 : Aside0 (gb273 ≠ gb240)) (NB241_273 : Aside0 (gb241 ≠ gb273)) (NB273_241 : Aside0 (gb273 ≠ gb241)) (NB257_273 : Aside0 (gb257 ≠ gb273)) (NB273_257 : Aside0 (gb273 ≠ gb257)) (NB262_273 : Aside0 (gb262 ≠ gb273)) (NB273_262 : Aside0 (gb273 ≠ gb262)) (NB267_273 : Aside0 (gb267 ≠ gb273)) (NB273_267 : Aside0 (gb273 ≠ gb267)) (HJ24 : Aside0 (kj24 + 1 ≤ k)) (HO_258001 : Aside0 (Kd.R (Kd.int IntKind.u64) 53 w129 (Array.size (World.heap w)) (fun k_ => some k_ ≠ Value.ownBlock (Value.slice Ao52 (List.length t259) co52) ∧ some k_ ≠ Value.ownBlock (Value.slice Ao62 (List.length t264) co62) ∧ some k_ ≠ Value.ownBlock (Value.slice Ao72 (List.length t269) co72) ∧ some k_ ≠ Value.ownBlock (Value.slice Ao111 (List.length t276) co111) ∧ some k_ ≠ Value.ownBlock (Value.slice Ao115 (List.length t281) co115)) (Value.slice Ao42 (List.length t253) co42) t253)) (HO_263001 : Aside0 (Kd.R (Kd.int IntKind.u64) 53 w129 (Array.size (World.heap w)) (fun k_ => some k_ ≠ Value.ownBlock (Value.slice Ao42 (List.length t253) co42) ∧ some k_ ≠ Value.ownBlock (Value.slice Ao62 (List.length t264) co62) ∧ some k_ ≠ Value.ownBlock (Value.slice Ao72 (List.length t269) co72) ∧ some k_ ≠ Value.ownBlock (Value.slice Ao111 (List.length t276) co111) ∧ some k_ ≠ Value.ownBlock (Value.slice Ao115 (List.length t281) co115)) (Value.slice Ao52 (List.length t259) co52) t286)) (HO_268001 : Aside0 (Kd.R (Kd.int IntKind.u64) 53 w129 (Array.size (World.heap w)) (fun k_ => some k_ ≠ Value.ownBlock (Value.slice Ao42 (List.length t253) co42) ∧ some k_ ≠ Value.ownBlock (Value.slice Ao52 (List.length t259) co52) ∧ some k_ ≠ Value.ownBlock (Value.slice Ao72 (List.length t269) co72) ∧ some k_ ≠ Value.ownBlock (Value.slice Ao111 (List.length t276) co111) ∧ some k_ ≠ Value.ownBlock (Value.slice Ao115 (List.length t281) co115)) (Value.slice Ao62 (List.length t264) co62) t288)) (HO_274001 : Aside0 (Kd.R (Kd.int IntKind.u64) 53 w129 (Array.size (World.heap w)) (fun k_ => some k_ ≠ Value.ownBlock (Value.slice Ao42 (List.length t253) co42) ∧ some k_ ≠ Value.ownBlock (Value.slice Ao52 (List.length t259) co52) ∧ some k_ ≠ Value.ownBlock (Value.slice Ao62 (List.length t264) co62) ∧ some k_ ≠ Value.ownBlock (Value.slice Ao111 (List.length t276) co111) ∧ some k_ ≠ Value.ownBlock (Value.slice Ao115 (List.length t281) co115)) (Value.slice Ao72 (List.length t269) co72) t269)) (BK240 : Aside0 ((World.heap w129)[gb240]? = some (Obj.cells #[Value.int IntKind.i64 a0_0, Value.slice A0_1 (List.length l0_1) c0_1] 34))) (BK241 : Aside0 ((World.heap w129)[gb241]? = some (Obj.cells #[Value.int IntKind.i64 a1_0, Value.slice A1_1 (List.length l1_1) c1_1] 34))) (BK257 : Aside0 ((World.heap w129)[gb257]? = some (Obj.cells #[Value.int IntKind.i64 t252, Value.slice Ao42 (List.length t253) co42] 25))) (BK262 : Aside0 ((World.heap w129)[gb262]? = some (Obj.cells #[Value.int IntKind.i64 t258, Value.slice Ao52 (List.length t259) co52] 25))) (BK267 : Aside0 ((World.heap w129)[gb267]? = some (Obj.cells #[Value.int IntKind.i64 t263, Value.slice Ao62 (List.length t264) co62] 25))) (BK273 : Aside0 ((World.heap w129)[gb273]? = some (Obj.cells #[Value.int IntKind.i64 t268, Value.slice Ao72 (List.length t269) co72] 25))) (HB : Aside0 (Below (Array.size (World.heap w)) w w129)) {K1 K : Act → World → Prop} (hK1 : ∀ a_ w_, Code.wp Try.prog (cdN 17 (Try.f10.body.getD .skip)) ( bodyPost Try.prog Try.f10 fun e w' => e = Ending.returned (Value.bool r) ∧ Below (Array.size (World.heap w)) w w') a_ w_ → K1 a_ w_) (hK : ∀ a_ w_, Code.wp Try.prog (cdT (cdH (cdN 16 (Try.f10.body.getD .skip)))) (Exit.then K1 ( bodyPost Try.prog Try.f10 fun e w' => e = Ending.returned (Value.bool r) ∧ Below (Array.size (World.heap w)) w w')) a_ w_ → K a_ w_) (hcut : ∃ kq x82_107, u82 = Value.bool x82_107 ∧ Aside0 (laws_FnExactBitsJoin.j1 kq t256 x82_107 a0_0 l0_1 a1_0 l1_1 t252 t253 t268 t269 = some r) ∧ Aside0 (kq ≤ kj24) ∧ Aside0 (Kd.R (Kd.int IntKind.u64) 53 wc (Array.size (World.heap w)) (fun k_ => some k_ ≠ Value.ownBlock (Value.slice Ao52 (List.length t259) co52) ∧ some k_ ≠ Value.ownBlock (Value.slice Ao62 (List.length t264) co62) ∧ some k_ ≠ Value.ownBlock (Value.slice Ao72 (List.length t269) co72)) (Value.slice Ao42 (List.length t253) co42) t253) ∧ Aside0 (Kd.R (Kd.int IntKind.u64) 53 wc (Array.size (World.heap w)) (fun k_ => some k_ ≠ Value.ownBlock (Value.slice Ao42 (List.length t253) co42) ∧ some k_ ≠ Value.ownBlock (Value.slice Ao62 (List.length t264) co62) ∧ some k_ ≠ Value.ownBlock (Value.slice Ao72 (List.length t269) co72)) (Value.slice Ao52 (List.length t259) co52) t286) ∧ Aside0 (Kd.R (Kd.int IntKind.u64) 53 wc (Array.size (World.heap w)) (fun k_ => some k_ ≠ Value.ownBlock (Value.slice Ao42 (List.length t253) co42) ∧ some k_ ≠ Value.ownBlock (Value.slice Ao52 (List.length t259) co52) ∧ some k_ ≠ Value.ownBlock (Value.slice Ao72 (List.length t269) co72)) (Value.slice Ao62 (List.length t264) co62) t288) ∧ Aside0 (Kd.R (Kd.int IntKind.u64) 53 wc (Array.size (World.heap w)) (fun k_ => some k_ ≠ Value.ownBlock (Value.slice Ao42 (List.length t253) co42) ∧ some k_ ≠ Value.ownBlock (Value.slice Ao52 (List.length t259) co52) ∧ some k_ ≠ Value.ownBlock (Value.slice Ao62 (List.length t264) co62)) (Value.slice Ao72 (List.length t269) co72) t269) ∧ Aside0 ((World.heap wc)[gb240]? = some (Obj.cells #[Value.int IntKind.i64 a0_0, Value.slice A0_1 (List.length l0_1) c0_1] 34)) ∧ Aside0 ((World.heap wc)[gb241]? = some (Obj.cells #[Value.int IntKind.i64 a1_0, Value.slice A1_1 (List.length l1_1) c1_1] 34)) ∧ Aside0 ((World.heap wc)[gb257]? = some (Obj.cells #[Value.int IntKind.i64 t252, Value.slice Ao42 (List.length t253) co42] 25)) ∧ Aside0 ((World.heap wc)[gb262]? = some (Obj.cells #[Value.int IntKind.i64 t258, Value.slice Ao52 (List.length t259) co52] 25)) ∧ Aside0 ((World.heap wc)[gb267]? = some (Obj.cells #[Value.int IntKind.i64 t263, Value.slice Ao62 (List.length t264) co62] 25)) ∧ Aside0 ((World.heap wc)[gb273]? = some (Obj.cells #[Value.int IntKind.i64 t268, Value.slice Ao72 (List.length t269) co72] 25)) ∧ Aside0 (Below (Array.size (World.heap w)) w wc)) : K (Act.mk #[Value.agg #[Value.int IntKind.i64 a0_0, Value.slice A0_1 (List.length l0_1) c0_1], Value.agg #[Value.int IntKind.i64 a1_0, Value.slice A1_1 (List.length l1_1) c1_1], Value.pointer (some (Addr.mk gb240 0 none)), Value.pointer (some (Addr.mk gb241 0 none)), Value.bool false, Value.int IntKind.i64 t243, Value.pointer (some (Addr.mk gb257 0 none)), Value.bool t256, Value.pointer (some (Addr.mk gb262 0 none)), Value.pointer (some (Addr.mk gb267 0 none)), Value.pointer (some (Addr.mk gb273 0 none)), Value.bool t272, Value.int IntKind.i64 t287, undef, undef, undef, undef, u17, u18, u19, u20, u21, u22, u23, u24, u25, u26, u27, u28, u29, u30, u31, u32, u33, u34, u35, u36, u37, u38, u39, u40, u41, u42, u43, u44, u45, u46, u47, u48, u49, u50, u51, u52, u53, u54, u55, u56, u57, u58, u59, u60, u61, u62, u63, u64, u65, u66, u67, u68, u69, u70, u71, u72, u73, u74, u75, u76, u77, u78, u79, u80, u81, u82, u83, u84, u85, u86, u87, u88, u89, u90, u91, u92, u93, u94, u95, u96, u97, u98, u99, u100, u101, u102, u103, u104, u105, u106, u107, u108, u109, u110, u111, u112, u113, u114, u115, u116, u117, u118] []) wc := by
 obtain ⟨Q_, hQ_⟩ : ∃ Q, Q =  bodyPost Try.prog Try.f10 fun e w' => e = Ending.returned (Value.bool r) ∧ Below (Array.size (World.heap w)) w w' := ⟨_, rfl⟩
 rw [← hQ_] at hK1 hK
 dsimp only [cdN, cdH, cdT, Try.f10, Option.getD] at hK1 hK
 subst hQ_
 obtain ⟨kq, x82_107, rfl, HA, HJ107, HO_258001, HO_263001, HO_268001, HO_274001, BK240, BK241, BK257, BK262, BK267, BK273, HB⟩ := hcut
 have hl263001_107 := (Kd.R_reads' HO_263001.out).1
 rw [hl263001_107] at HO_263001
 (try simp only [hl263001_107])
 (try simp only [hl263001_107] at BK240)
 (try simp only [hl263001_107] at BK241)
 (try simp only [hl263001_107] at BK257)
 (try simp only [hl263001_107] at BK262)
 (try simp only [hl263001_107] at BK267)
 (try simp only [hl263001_107] at BK273)
 (try simp only [hl263001_107] at HO_258001)
 (try simp only [hl263001_107] at HO_268001)
 (try simp only [hl263001_107] at HO_274001)
 have hl268001_107 := (Kd.R_reads' HO_268001.out).1
 rw [hl268001_107] at HO_268001
 (try simp only [hl268001_107])
 (try simp only [hl268001_107] at BK240)
 (try simp only [hl268001_107] at BK241)
 (try simp only [hl268001_107] at BK257)
 (try simp only [hl268001_107] at BK262)
 (try simp only [hl268001_107] at BK267)
 (try simp only [hl268001_107] at BK273)
 (try simp only [hl268001_107] at HO_258001)
 (try simp only [hl268001_107] at HO_263001)
 (try simp only [hl268001_107] at HO_274001)
 cases kq with
 | zero => exact absurd HA.out (by simp [laws_FnExactBitsJoin.j1])
 | succ kj107 =>
  have H := HA.out
  clear HA
  simp only [laws_FnExactBitsJoin.j1] at H
  by_cases c157 : x82_107 = true
  ·subst c157
   have H1 : (some false) = some r := by rw [if_pos rfl] at H; exact H
   clear H
   have H := H1
   clear H1
   exact absurd ((Option.some.inj H).trans HRT_.out) (by decide)
  ·replace c157 := Bool.eq_false_iff.mpr c157
   subst c157
   have H1 : ((laws_markBits.f kj107 t268 t269 1).bind fun bt290 => ((laws_heldBits.f kj107 t268 bt290.2 1).bind fun t292 => (if t292 < 0 then (some false) else (if t292 = bt290.1 then ((laws_toBits.f kj107 a0_0 l0_1).bind fun bt293 => ((laws_toBits.f kj107 a1_0 l1_1).bind fun bt297 => ((impl_BitsJoin.f kj107 bt293.1 bt293.2 bt297.1 bt297.2).bind fun bt301 => ((laws_eqBits.f kj107 bt301.1 bt301.2.1 t252 t253).bind fun t307 => (if t307 = true then (laws_FnExactBitsJoin.j2 kj107 bt290.1 (bt301.2.2 != t256) t268 bt290.2) else (laws_FnExactBitsJoin.j2 kj107 bt290.1 true t268 bt290.2)))))) else (some false))))) = some r := by rw [if_neg (show ¬ (false = true) by decide)] at H; exact H
   clear H
   have H := H1
   clear H1
   replace H := Option.bind_eq_some_iff.mp H
   obtain ⟨⟨t290, t291⟩, A1580, H⟩ := H
   replace H : ((laws_heldBits.f kj107 t268 t291 1).bind fun t292 => (if t292 < 0 then (some false) else (if t292 = t290 then ((laws_toBits.f kj107 a0_0 l0_1).bind fun bt293 => ((laws_toBits.f kj107 a1_0 l1_1).bind fun bt297 => ((impl_BitsJoin.f kj107 bt293.1 bt293.2 bt297.1 bt297.2).bind fun bt301 => ((laws_eqBits.f kj107 bt301.1 bt301.2.1 t252 t253).bind fun t307 => (if t307 = true then (laws_FnExactBitsJoin.j2 kj107 t290 (bt301.2.2 != t256) t268 t291) else (laws_FnExactBitsJoin.j2 kj107 t290 true t268 t291)))))) else (some false)))) = some r := H
   have A158 := Aside0.mk A1580
   clear A1580
   replace H := Option.bind_eq_some_iff.mp H
   obtain ⟨t292, A1590, H⟩ := H
   replace H : (if t292 < 0 then (some false) else (if t292 = t290 then ((laws_toBits.f kj107 a0_0 l0_1).bind fun bt293 => ((laws_toBits.f kj107 a1_0 l1_1).bind fun bt297 => ((impl_BitsJoin.f kj107 bt293.1 bt293.2 bt297.1 bt297.2).bind fun bt301 => ((laws_eqBits.f kj107 bt301.1 bt301.2.1 t252 t253).bind fun t307 => (if t307 = true then (laws_FnExactBitsJoin.j2 kj107 t290 (bt301.2.2 != t256) t268 t291) else (laws_FnExactBitsJoin.j2 kj107 t290 true t268 t291)))))) else (some false))) = some r := H
   have A159 := Aside0.mk A1590
   clear A1590
   by_cases c160 : t292 < 0
   ·rw [if_pos c160] at H
    have c160b0 : decide (t292 < 0) = true := decide_eq_true c160
    clear c160
    exact absurd ((Option.some.inj H).trans HRT_.out) (by decide)
   ·rw [if_neg c160] at H
    have c160b0 : decide (t292 < 0) = false := decide_eq_false c160
    clear c160
    by_cases c170 : t292 = t290
    ·rw [if_pos c170] at H
     have c170b0 : (t292 == t290) = true := beq_iff_eq.mpr c170
     have c170b1 : (t292 != t290) = false := bne_eq_false_iff_eq.mpr c170
     clear c170
     replace H := Option.bind_eq_some_iff.mp H
     obtain ⟨⟨t293, t294⟩, A1710, H⟩ := H
     replace H : ((laws_toBits.f kj107 a1_0 l1_1).bind fun bt297 => ((impl_BitsJoin.f kj107 t293 t294 bt297.1 bt297.2).bind fun bt301 => ((laws_eqBits.f kj107 bt301.1 bt301.2.1 t252 t253).bind fun t307 => (if t307 = true then (laws_FnExactBitsJoin.j2 kj107 t290 (bt301.2.2 != t256) t268 t291) else (laws_FnExactBitsJoin.j2 kj107 t290 true t268 t291))))) = some r := H
     have A171 := Aside0.mk A1710
     clear A1710
     replace H := Option.bind_eq_some_iff.mp H
     obtain ⟨⟨t297, t298⟩, A1720, H⟩ := H
     replace H : ((impl_BitsJoin.f kj107 t293 t294 t297 t298).bind fun bt301 => ((laws_eqBits.f kj107 bt301.1 bt301.2.1 t252 t253).bind fun t307 => (if t307 = true then (laws_FnExactBitsJoin.j2 kj107 t290 (bt301.2.2 != t256) t268 t291) else (laws_FnExactBitsJoin.j2 kj107 t290 true t268 t291)))) = some r := H
     have A172 := Aside0.mk A1720
     clear A1720
     replace H := Option.bind_eq_some_iff.mp H
     obtain ⟨⟨t301, t302, t305⟩, A1730, H⟩ := H
     replace H : ((laws_eqBits.f kj107 t301 t302 t252 t253).bind fun t307 => (if t307 = true then (laws_FnExactBitsJoin.j2 kj107 t290 (t305 != t256) t268 t291) else (laws_FnExactBitsJoin.j2 kj107 t290 true t268 t291))) = some r := H
     have A173 := Aside0.mk A1730
     clear A1730
     have HC174 := Aside0.mk H
     clear H
     have hnb175 := NB273_240.out
     have hnc175 := NB240_273.out
     have hnb176 := NB273_241.out
     have hnc176 := NB241_273.out
     have hnb177 := NB273_257.out
     have hnc177 := NB257_273.out
     have hnb178 := NB273_262.out
     have hnc178 := NB262_273.out
     have hnb179 := NB273_267.out
     have hnc179 := NB267_273.out
     have hcz180_0 : wc.cell? ⟨gb273, 0, none⟩ = some (.int .i64 t268) := (blk_cell BK273.out 0).trans rfl
     have hcz180_1 : wc.cell? ⟨gb273, 1, none⟩ = some (.slice Ao72 t269.length co72) := (blk_cell BK273.out 1).trans rfl
     have hfz180_0 := blk_frozen BK273.out 0
     have hfz180_1 := blk_frozen BK273.out 1
     try go_wp2_with (first | ((with_reducible refine gate_callee (f := 19) rfl ?_); refine goesL_ (some 85) rfl rfl Try.func19 (by kernel_rfl) rfl #[.agg #[.int .i64 t268, .slice Ao72 t269.length co72], .int .i64 1] rfl (by (try simp only [List.map_toArray, List.map_cons, List.map_nil]); first | done | rfl | (simp only [List.length_drop, List.length_take]; rfl)) ?_; (with_reducible refine (laws_markBits.calls kj107 t268 (fun k_ => some k_ = (.slice Ao72 t269.length co72 : Value).ownBlock) (.slice Ao72 t269.length co72) t269 1 t290 t291 w _ ?side1 ?side2 A158.out).mono ?_); (case side1 => repeat (first | (with_reducible first | exact HB.out | apply below_alloc | apply pw_below_drewN | apply below_drew1 | refine below_set ?_ GE240.out | refine below_set ?_ GE241.out | refine below_set ?_ GE257.out | refine below_set ?_ GE262.out | refine below_set ?_ GE267.out | refine below_set ?_ GE273.out) | exact HB.out)); (case side2 => exact Kd.R_tight rfl HO_274001.out); rintro e w181 ⟨rfl, hy0, hb, hkp⟩; refine ⟨_, rfl, ?_⟩; have n0_ := Aside0.mk (Kd.R_mono (ok' := fun k_ => some k_ ≠ (.slice Ao52 t286.length co52 : Value).ownBlock ∧ some k_ ≠ (.slice Ao62 t288.length co62 : Value).ownBlock ∧ some k_ ≠ (.slice Ao72 t269.length co72 : Value).ownBlock) (Kd.R_keptB (HO_258001.out) hkp (by first | exact (fun k_ hk_ hs_ => (hk_.2.2) hs_) | (intro k_ hk_ hs_; exact absurd hs_ (by simp [hk_])))) (by first | exact (fun k_ hk_ => ⟨hk_.1.1, hk_.1.2.1, hk_.1.2.2⟩) | (intro k_ hk_; simp [hk_]))); have n1_ := Aside0.mk (Kd.R_mono (ok' := fun k_ => some k_ ≠ (.slice Ao42 t253.length co42 : Value).ownBlock ∧ some k_ ≠ (.slice Ao62 t288.length co62 : Value).ownBlock ∧ some k_ ≠ (.slice Ao72 t269.length co72 : Value).ownBlock) (Kd.R_keptB (HO_263001.out) hkp (by first | exact (fun k_ hk_ hs_ => (hk_.2.2) hs_) | (intro k_ hk_ hs_; exact absurd hs_ (by simp [hk_])))) (by first | exact (fun k_ hk_ => ⟨hk_.1.1, hk_.1.2.1, hk_.1.2.2⟩) | (intro k_ hk_; simp [hk_]))); have n2_ := Aside0.mk (Kd.R_mono (ok' := fun k_ => some k_ ≠ (.slice Ao42 t253.length co42 : Value).ownBlock ∧ some k_ ≠ (.slice Ao52 t286.length co52 : Value).ownBlock ∧ some k_ ≠ (.slice Ao72 t269.length co72 : Value).ownBlock) (Kd.R_keptB (HO_268001.out) hkp (by first | exact (fun k_ hk_ hs_ => (hk_.2.2) hs_) | (intro k_ hk_ hs_; exact absurd hs_ (by simp [hk_])))) (by first | exact (fun k_ hk_ => ⟨hk_.1.1, hk_.1.2.1, hk_.1.2.2⟩) | (intro k_ hk_; simp [hk_]))); have n3_ := Aside0.mk (Kd.R_reok rfl hy0 (fun k_ e_ => HO_274001.out.1 k_ e_)); have n4_ := Aside0.mk (blk_kept (by (with_reducible repeat (first | refine blk_drewN ?_ _ | refine blk_drew ?_ | refine blk_alloc ?_ _)); exact BK240.out) hkp (fun hs_ => (fun e_ => (Kd.R_ne HO_274001.out BK240.out (by decide)) e_) hs_)); have n5_ := Aside0.mk (blk_kept (by (with_reducible repeat (first | refine blk_drewN ?_ _ | refine blk_drew ?_ | refine blk_alloc ?_ _)); exact BK241.out) hkp (fun hs_ => (fun e_ => (Kd.R_ne HO_274001.out BK241.out (by decide)) e_) hs_)); have n6_ := Aside0.mk (blk_kept (by (with_reducible repeat (first | refine blk_drewN ?_ _ | refine blk_drew ?_ | refine blk_alloc ?_ _)); exact BK257.out) hkp (fun hs_ => (fun e_ => (Kd.R_ne HO_274001.out BK257.out (by decide)) e_) hs_)); have n7_ := Aside0.mk (blk_kept (by (with_reducible repeat (first | refine blk_drewN ?_ _ | refine blk_drew ?_ | refine blk_alloc ?_ _)); exact BK262.out) hkp (fun hs_ => (fun e_ => (Kd.R_ne HO_274001.out BK262.out (by decide)) e_) hs_)); have n8_ := Aside0.mk (blk_kept (by (with_reducible repeat (first | refine blk_drewN ?_ _ | refine blk_drew ?_ | refine blk_alloc ?_ _)); exact BK267.out) hkp (fun hs_ => (fun e_ => (Kd.R_ne HO_274001.out BK267.out (by decide)) e_) hs_)); have n9_ := Aside0.mk (blk_kept (by (with_reducible repeat (first | refine blk_drewN ?_ _ | refine blk_drew ?_ | refine blk_alloc ?_ _)); exact BK273.out) hkp (fun hs_ => (fun e_ => (Kd.R_ne HO_274001.out BK273.out (by decide)) e_) hs_)); have n10_ := Aside0.mk (hb); clear HO_258001; clear HO_263001; clear HO_268001; clear HO_274001; clear BK240; clear BK241; clear BK257; clear BK262; clear BK267; clear BK273; clear HB; have HO_258001 := n0_; have HO_263001 := n1_; have HO_268001 := n2_; have HO_274001 := n3_; have BK240 := n4_; have BK241 := n5_; have BK257 := n6_; have BK262 := n7_; have BK267 := n8_; have BK273 := n9_; have HB := n10_; clear n0_ n1_ n2_ n3_ n4_ n5_ n6_ n7_ n8_ n9_ n10_; (try clear hb); (try clear hkp); (try clear hy0); have hcz182_0 : w181.cell? ⟨gb273, 0, none⟩ = some (.int .i64 t268) := (blk_cell BK273.out 0).trans rfl; have hcz182_1 : w181.cell? ⟨gb273, 1, none⟩ = some (.slice Ao72 t269.length co72) := (blk_cell BK273.out 1).trans rfl; have hfz182_0 := blk_frozen BK273.out 0; have hfz182_1 := blk_frozen BK273.out 1) | ((with_reducible refine gate_callee (f := 20) rfl ?_); refine goesL_ (some 88) rfl rfl Try.func20 (by kernel_rfl) rfl #[.agg #[.int .i64 t268, .slice Ao72 t291.length co72], .int .i64 1] rfl (by (try simp only [List.map_toArray, List.map_cons, List.map_nil]); first | done | (rw [show t291.length = t269.length from (Kd.R_reads' HO_274001.out).1.symm] <;> rfl) | rfl | (simp only [List.length_drop, List.length_take]; rfl)) ?_; (with_reducible refine (laws_heldBits.calls kj107 t268 _ _ t291 1 t292 _ ?side1 ?side2 A159.out).mono ?_); (case side1 => repeat (first | exact (Kd.R_reads' HO_274001.out).2.2 | (with_reducible refine Kd.C_alloc ?_ _) | (with_reducible refine Kd.C_drewN ?_ _) | (with_reducible refine Kd.C_drew ?_))); (case side2 => rw [show t291.length = t269.length from (Kd.R_reads' HO_274001.out).1.symm]; exact (Kd.R_reads' HO_274001.out).2.1); rintro e w183 ⟨rfl, hb⟩; refine ⟨_, rfl, ?_⟩; have n0_ := Aside0.mk (Kd.R_below (by (with_reducible repeat (first | apply Kd.R_alloc | apply Kd.R_drewN | apply Kd.R_drew)); exact HO_258001.out) hb); have n1_ := Aside0.mk (Kd.R_below (by (with_reducible repeat (first | apply Kd.R_alloc | apply Kd.R_drewN | apply Kd.R_drew)); exact HO_263001.out) hb); have n2_ := Aside0.mk (Kd.R_below (by (with_reducible repeat (first | apply Kd.R_alloc | apply Kd.R_drewN | apply Kd.R_drew)); exact HO_268001.out) hb); have n3_ := Aside0.mk (Kd.R_below (by (with_reducible repeat (first | apply Kd.R_alloc | apply Kd.R_drewN | apply Kd.R_drew)); exact HO_274001.out) hb); have n4_ := Aside0.mk (blk_below (g := gb240) (o := .cells #[.int .i64 a0_0, .slice A0_1 l0_1.length c0_1] 34 (0, 0)) (by (with_reducible repeat (first | refine blk_drewN ?_ _ | refine blk_drew ?_ | refine blk_alloc ?_ _)); exact BK240.out) hb); have n5_ := Aside0.mk (blk_below (g := gb241) (o := .cells #[.int .i64 a1_0, .slice A1_1 l1_1.length c1_1] 34 (0, 0)) (by (with_reducible repeat (first | refine blk_drewN ?_ _ | refine blk_drew ?_ | refine blk_alloc ?_ _)); exact BK241.out) hb); have n6_ := Aside0.mk (blk_below (g := gb257) (o := .cells #[.int .i64 t252, .slice Ao42 t253.length co42] 25 (0, 0)) (by (with_reducible repeat (first | refine blk_drewN ?_ _ | refine blk_drew ?_ | refine blk_alloc ?_ _)); exact BK257.out) hb); have n7_ := Aside0.mk (blk_below (g := gb262) (o := .cells #[.int .i64 t258, .slice Ao52 t286.length co52] 25 (0, 0)) (by (with_reducible repeat (first | refine blk_drewN ?_ _ | refine blk_drew ?_ | refine blk_alloc ?_ _)); exact BK262.out) hb); have n8_ := Aside0.mk (blk_below (g := gb267) (o := .cells #[.int .i64 t263, .slice Ao62 t288.length co62] 25 (0, 0)) (by (with_reducible repeat (first | refine blk_drewN ?_ _ | refine blk_drew ?_ | refine blk_alloc ?_ _)); exact BK267.out) hb); have n9_ := Aside0.mk (blk_below (g := gb273) (o := .cells #[.int .i64 t268, .slice Ao72 t269.length co72] 25 (0, 0)) (by (with_reducible repeat (first | refine blk_drewN ?_ _ | refine blk_drew ?_ | refine blk_alloc ?_ _)); exact BK273.out) hb); have n10_ := Aside0.mk (below_step (by repeat (first | (with_reducible first | exact HB.out | apply below_alloc | apply pw_below_drewN | apply below_drew1 | refine below_set ?_ GE240.out | refine below_set ?_ GE241.out | refine below_set ?_ GE257.out | refine below_set ?_ GE262.out | refine below_set ?_ GE267.out | refine below_set ?_ GE273.out) | exact HB.out)) hb); clear HO_258001; clear HO_263001; clear HO_268001; clear HO_274001; clear BK240; clear BK241; clear BK257; clear BK262; clear BK267; clear BK273; clear HB; have HO_258001 := n0_; have HO_263001 := n1_; have HO_268001 := n2_; have HO_274001 := n3_; have BK240 := n4_; have BK241 := n5_; have BK257 := n6_; have BK262 := n7_; have BK267 := n8_; have BK273 := n9_; have HB := n10_; clear n0_ n1_ n2_ n3_ n4_ n5_ n6_ n7_ n8_ n9_ n10_; (try clear hb); (try clear hb2); (try clear hk); (try clear hi)))
     have n0_ := Aside0.mk (Kd.R_drew HO_258001.out)
     have n1_ := Aside0.mk (Kd.R_drew HO_263001.out)
     have n2_ := Aside0.mk (Kd.R_drew HO_268001.out)
     have n3_ := Aside0.mk (Kd.R_drew HO_274001.out)
     have n4_ := Aside0.mk (blk_drew BK240.out)
     have n5_ := Aside0.mk (blk_drew BK241.out)
     have n6_ := Aside0.mk (blk_drew BK257.out)
     have n7_ := Aside0.mk (blk_drew BK262.out)
     have n8_ := Aside0.mk (blk_drew BK267.out)
     have n9_ := Aside0.mk (blk_drew BK273.out)
     have n10_ := Aside0.mk (below_drew1 HB.out)
     clear HO_258001
     clear HO_263001
     clear HO_268001
     clear HO_274001
     clear BK240
     clear BK241
     clear BK257
     clear BK262
     clear BK267
     clear BK273
     clear HB
     have HO_258001 := n0_
     have HO_263001 := n1_
     have HO_268001 := n2_
     have HO_274001 := n3_
     have BK240 := n4_
     have BK241 := n5_
     have BK257 := n6_
     have BK262 := n7_
     have BK267 := n8_
     have BK273 := n9_
     have HB := n10_
     clear n0_ n1_ n2_ n3_ n4_ n5_ n6_ n7_ n8_ n9_ n10_
     refine start_ (n := 11) (S := fun w' => w'.cell? ⟨gb240, 0, none⟩ = some (.int .i64 a0_0) ∧ w'.cell? ⟨gb240, 1, none⟩ = some (.slice A0_1 l0_1.length c0_1) ∧ w'.cell? ⟨gb241, 0, none⟩ = some (.int .i64 a1_0) ∧ w'.cell? ⟨gb241, 1, none⟩ = some (.slice A1_1 l1_1.length c1_1)) (ds := []) #[false, false, false, false, false, false, false, false, false, false, false] (by kernel_rfl) rfl rfl ⟨(blk_cell BK240.out 0).trans rfl, (blk_cell BK240.out 1).trans rfl, (blk_cell BK241.out 0).trans rfl, (blk_cell BK241.out 1).trans rfl⟩ (fun hHeld => ?_); refine with_tabW laws_FnExactBitsJoin.tab31 laws_FnExactBitsJoin.bits31 (fun HT_ HW_ => ?_)
     generalize w183.drew = w184 at HO_258001 HO_263001 HO_268001 HO_274001 BK240 BK241 BK257 BK262 BK267 BK273 HB hHeld ⊢
     refine take_ (i := 0) (N := some 95) (v := ?_) (a' := ?_) #[true, false, false, false, false, false, false, false, false, false, false] rfl rfl (take_ofW HT_.out HW_.out (by kernel_rfl)) (fun _ _ _ h => h) (Or.inl ⟨by rfl, ?_⟩) hHeld ?_ ?_
     rotate_left
     ·rintro w' ⟨s0, s1, s2, s3⟩
      go_simp
      with_reducible rfl
     rotate_left
     ·simp only [Act.put, List.setIfInBounds_toArray, List.set_cons_zero, List.set_cons_succ, i64_w, i32_w]
      rfl
     refine take_ (i := 2) (N := some 97) (v := ?_) (a' := ?_) #[true, false, true, false, false, false, false, false, false, false, false] rfl rfl (take_ofW HT_.out HW_.out (by kernel_rfl)) (fun _ _ _ h => h) (Or.inl ⟨by rfl, ?_⟩) hHeld ?_ ?_
     rotate_left
     ·rintro w' ⟨s0, s1, s2, s3⟩
      go_simp
      with_reducible rfl
     rotate_left
     ·simp only [Act.put, List.setIfInBounds_toArray, List.set_cons_zero, List.set_cons_succ, i64_w, i32_w]
      rfl
     refine join_ (σ := Value × Value × Value × Nat) 2 #[true, true, true, true, true, true, true, true, true, false, false] (fun s_ => [(96, .agg #[.int .i64 t293, s_.1]), (98, .agg #[.int .i64 t297, s_.2.1]), (99, .tuple #[.agg #[.int .i64 t301, s_.2.2.1], .bool t305]), (15, .pointer (some ⟨s_.2.2.2, 0, none⟩)), (94, .tuple #[.agg #[.int .i64 t301, s_.2.2.1], .bool t305]), (100, .agg #[.int .i64 t301, s_.2.2.1]), (101, .bool t305)]) (fun s_ w' => (w'.cell? ⟨gb240, 0, none⟩ = some (.int .i64 a0_0) ∧ w'.cell? ⟨gb240, 1, none⟩ = some (.slice A0_1 l0_1.length c0_1) ∧ w'.cell? ⟨gb241, 0, none⟩ = some (.int .i64 a1_0) ∧ w'.cell? ⟨gb241, 1, none⟩ = some (.slice A1_1 l1_1.length c1_1)) ∧ (Kd.R (Kd.int .u64) 53 w' w.heap.size (fun k_ => some k_ ≠ (s_.2.1 : Value).ownBlock ∧ some k_ ≠ (s_.2.2.1 : Value).ownBlock ∧ some k_ ≠ (.slice Ao42 t253.length co42 : Value).ownBlock ∧ some k_ ≠ (.slice Ao52 t286.length co52 : Value).ownBlock ∧ some k_ ≠ (.slice Ao62 t288.length co62 : Value).ownBlock ∧ some k_ ≠ (.slice Ao72 t269.length co72 : Value).ownBlock) s_.1 t294) ∧ (Kd.R (Kd.int .u64) 53 w' w.heap.size (fun k_ => some k_ ≠ (s_.1 : Value).ownBlock ∧ some k_ ≠ (s_.2.2.1 : Value).ownBlock ∧ some k_ ≠ (.slice Ao42 t253.length co42 : Value).ownBlock ∧ some k_ ≠ (.slice Ao52 t286.length co52 : Value).ownBlock ∧ some k_ ≠ (.slice Ao62 t288.length co62 : Value).ownBlock ∧ some k_ ≠ (.slice Ao72 t269.length co72 : Value).ownBlock) s_.2.1 t298) ∧ (Kd.R (Kd.int .u64) 53 w' w.heap.size (fun k_ => some k_ ≠ (s_.1 : Value).ownBlock ∧ some k_ ≠ (s_.2.1 : Value).ownBlock ∧ some k_ ≠ (.slice Ao42 t253.length co42 : Value).ownBlock ∧ some k_ ≠ (.slice Ao52 t286.length co52 : Value).ownBlock ∧ some k_ ≠ (.slice Ao62 t288.length co62 : Value).ownBlock ∧ some k_ ≠ (.slice Ao72 t269.length co72 : Value).ownBlock) s_.2.2.1 t302) ∧ (Kd.R (Kd.int .u64) 53 w' w.heap.size (fun k_ => some k_ ≠ (s_.1 : Value).ownBlock ∧ some k_ ≠ (s_.2.1 : Value).ownBlock ∧ some k_ ≠ (s_.2.2.1 : Value).ownBlock ∧ some k_ ≠ (.slice Ao52 t286.length co52 : Value).ownBlock ∧ some k_ ≠ (.slice Ao62 t288.length co62 : Value).ownBlock ∧ some k_ ≠ (.slice Ao72 t269.length co72 : Value).ownBlock) (.slice Ao42 t253.length co42) t253) ∧ (Kd.R (Kd.int .u64) 53 w' w.heap.size (fun k_ => some k_ ≠ (s_.1 : Value).ownBlock ∧ some k_ ≠ (s_.2.1 : Value).ownBlock ∧ some k_ ≠ (s_.2.2.1 : Value).ownBlock ∧ some k_ ≠ (.slice Ao42 t253.length co42 : Value).ownBlock ∧ some k_ ≠ (.slice Ao62 t288.length co62 : Value).ownBlock ∧ some k_ ≠ (.slice Ao72 t269.length co72 : Value).ownBlock) (.slice Ao52 t286.length co52) t286) ∧ (Kd.R (Kd.int .u64) 53 w' w.heap.size (fun k_ => some k_ ≠ (s_.1 : Value).ownBlock ∧ some k_ ≠ (s_.2.1 : Value).ownBlock ∧ some k_ ≠ (s_.2.2.1 : Value).ownBlock ∧ some k_ ≠ (.slice Ao42 t253.length co42 : Value).ownBlock ∧ some k_ ≠ (.slice Ao52 t286.length co52 : Value).ownBlock ∧ some k_ ≠ (.slice Ao72 t269.length co72 : Value).ownBlock) (.slice Ao62 t288.length co62) t288) ∧ (Kd.R (Kd.int .u64) 53 w' w.heap.size (fun k_ => some k_ ≠ (s_.1 : Value).ownBlock ∧ some k_ ≠ (s_.2.1 : Value).ownBlock ∧ some k_ ≠ (s_.2.2.1 : Value).ownBlock ∧ some k_ ≠ (.slice Ao42 t253.length co42 : Value).ownBlock ∧ some k_ ≠ (.slice Ao52 t286.length co52 : Value).ownBlock ∧ some k_ ≠ (.slice Ao62 t288.length co62 : Value).ownBlock) (.slice Ao72 t269.length co72) t291) ∧ (w'.heap[gb240]? = some (.cells #[.int .i64 a0_0, .slice A0_1 l0_1.length c0_1] 34 (0, 0))) ∧ (w'.heap[gb241]? = some (.cells #[.int .i64 a1_0, .slice A1_1 l1_1.length c1_1] 34 (0, 0))) ∧ (w'.heap[gb257]? = some (.cells #[.int .i64 t252, .slice Ao42 t253.length co42] 25 (0, 0))) ∧ (w'.heap[gb262]? = some (.cells #[.int .i64 t258, .slice Ao52 t286.length co52] 25 (0, 0))) ∧ (w'.heap[gb267]? = some (.cells #[.int .i64 t263, .slice Ao62 t288.length co62] 25 (0, 0))) ∧ (w'.heap[gb273]? = some (.cells #[.int .i64 t268, .slice Ao72 t269.length co72] 25 (0, 0))) ∧ (w'.heap[s_.2.2.2]? = some (.cells #[.int .i64 0, .slice none 0 0] 25 (0, 0))) ∧ (w.heap.size ≤ s_.2.2.2) ∧ (w.heap.size ≤ s_.2.2.2) ∧ (gb240 ≠ s_.2.2.2) ∧ (s_.2.2.2 ≠ gb240) ∧ (gb241 ≠ s_.2.2.2) ∧ (s_.2.2.2 ≠ gb241) ∧ (gb257 ≠ s_.2.2.2) ∧ (s_.2.2.2 ≠ gb257) ∧ (gb262 ≠ s_.2.2.2) ∧ (s_.2.2.2 ≠ gb262) ∧ (gb267 ≠ s_.2.2.2) ∧ (s_.2.2.2 ≠ gb267) ∧ (gb273 ≠ s_.2.2.2) ∧ (s_.2.2.2 ≠ gb273) ∧ (Below w.heap.size w w')) ?_ ?_
     rotate_left
     ·intro hCont
      refine two_ (i := 1) (j := 8) (Ni := some 96) (Nj := some 15) #[true, true, true, false, false, false, false, false, false, false, false] #[true, false, true, false, false, false, false, false, true, false, false] rfl rfl rfl rfl (two_of HT_.out (by kernel_rfl)) (by decide) (by decide) (fun K hK => ?_) (fun K hK => ?_)
      ·skip
       refine goes_ Try.func23 (by kernel_rfl) rfl #[.agg #[.int .i64 a0_0, .slice A0_1 l0_1.length c0_1]] (by rfl) rfl rfl (by (try simp only [List.map_toArray, List.map_cons, List.map_nil]); first | done | rfl | (simp only [List.length_drop, List.length_take]; rfl)) ?_
       with_reducible refine (laws_toBits.calls kj107 a0_0 _ _ l0_1 t293 t294 _ ?side1 ?side2 A171.out).mono ?_
       (case side1 => repeat (first | exact (Kd.C_below HR0_1.out HB.out) | (with_reducible refine Kd.C_alloc ?_ _) | (with_reducible refine Kd.C_drewN ?_ _) | (with_reducible refine Kd.C_drew ?_)))
       (case side2 => exact HC0_1.out)
       rintro e w185 ⟨v295, rfl, ho0, hb⟩
       refine ⟨_, rfl, ?_⟩
       have n0_ := Aside0.mk (Kd.R_elder' (by (with_reducible repeat (first | apply Kd.R_alloc | apply Kd.R_drewN | apply Kd.R_drew)); exact HO_258001.out) (Kd.R_base ho0) hb)
       have n1_ := Aside0.mk (Kd.R_elder' (by (with_reducible repeat (first | apply Kd.R_alloc | apply Kd.R_drewN | apply Kd.R_drew)); exact HO_263001.out) (Kd.R_base ho0) hb)
       have n2_ := Aside0.mk (Kd.R_elder' (by (with_reducible repeat (first | apply Kd.R_alloc | apply Kd.R_drewN | apply Kd.R_drew)); exact HO_268001.out) (Kd.R_base ho0) hb)
       have n3_ := Aside0.mk (Kd.R_elder' (by (with_reducible repeat (first | apply Kd.R_alloc | apply Kd.R_drewN | apply Kd.R_drew)); exact HO_274001.out) (Kd.R_base ho0) hb)
       have n4_ := Aside0.mk (Kd.R_lower (Kd.R_new' (Kd.R_new' (Kd.R_new' (Kd.R_new' ho0 (Kd.R_lt (by (with_reducible repeat (first | apply Kd.R_alloc | apply Kd.R_drewN | apply Kd.R_drew)); exact HO_258001.out))) (Kd.R_lt (by (with_reducible repeat (first | apply Kd.R_alloc | apply Kd.R_drewN | apply Kd.R_drew)); exact HO_263001.out))) (Kd.R_lt (by (with_reducible repeat (first | apply Kd.R_alloc | apply Kd.R_drewN | apply Kd.R_drew)); exact HO_268001.out))) (Kd.R_lt (by (with_reducible repeat (first | apply Kd.R_alloc | apply Kd.R_drewN | apply Kd.R_drew)); exact HO_274001.out))) (below_size (by repeat (first | (with_reducible first | exact HB.out | apply below_alloc | apply pw_below_drewN | apply below_drew1 | refine below_set ?_ GE240.out | refine below_set ?_ GE241.out | refine below_set ?_ GE257.out | refine below_set ?_ GE262.out | refine below_set ?_ GE267.out | refine below_set ?_ GE273.out) | exact HB.out))))
       have n5_ := Aside0.mk (blk_below (g := gb240) (o := .cells #[.int .i64 a0_0, .slice A0_1 l0_1.length c0_1] 34 (0, 0)) (by (with_reducible repeat (first | refine blk_drewN ?_ _ | refine blk_drew ?_ | refine blk_alloc ?_ _)); exact BK240.out) hb)
       have n6_ := Aside0.mk (blk_below (g := gb241) (o := .cells #[.int .i64 a1_0, .slice A1_1 l1_1.length c1_1] 34 (0, 0)) (by (with_reducible repeat (first | refine blk_drewN ?_ _ | refine blk_drew ?_ | refine blk_alloc ?_ _)); exact BK241.out) hb)
       have n7_ := Aside0.mk (blk_below (g := gb257) (o := .cells #[.int .i64 t252, .slice Ao42 t253.length co42] 25 (0, 0)) (by (with_reducible repeat (first | refine blk_drewN ?_ _ | refine blk_drew ?_ | refine blk_alloc ?_ _)); exact BK257.out) hb)
       have n8_ := Aside0.mk (blk_below (g := gb262) (o := .cells #[.int .i64 t258, .slice Ao52 t286.length co52] 25 (0, 0)) (by (with_reducible repeat (first | refine blk_drewN ?_ _ | refine blk_drew ?_ | refine blk_alloc ?_ _)); exact BK262.out) hb)
       have n9_ := Aside0.mk (blk_below (g := gb267) (o := .cells #[.int .i64 t263, .slice Ao62 t288.length co62] 25 (0, 0)) (by (with_reducible repeat (first | refine blk_drewN ?_ _ | refine blk_drew ?_ | refine blk_alloc ?_ _)); exact BK267.out) hb)
       have n10_ := Aside0.mk (blk_below (g := gb273) (o := .cells #[.int .i64 t268, .slice Ao72 t269.length co72] 25 (0, 0)) (by (with_reducible repeat (first | refine blk_drewN ?_ _ | refine blk_drew ?_ | refine blk_alloc ?_ _)); exact BK273.out) hb)
       have n11_ := Aside0.mk (below_step (by repeat (first | (with_reducible first | exact HB.out | apply below_alloc | apply pw_below_drewN | apply below_drew1 | refine below_set ?_ GE240.out | refine below_set ?_ GE241.out | refine below_set ?_ GE257.out | refine below_set ?_ GE262.out | refine below_set ?_ GE267.out | refine below_set ?_ GE273.out) | exact HB.out)) hb)
       clear HO_258001
       clear HO_263001
       clear HO_268001
       clear HO_274001
       clear BK240
       clear BK241
       clear BK257
       clear BK262
       clear BK267
       clear BK273
       clear HB
       have HO_258001 := n0_
       have HO_263001 := n1_
       have HO_268001 := n2_
       have HO_274001 := n3_
       have HO296 := n4_
       have BK240 := n5_
       have BK241 := n6_
       have BK257 := n7_
       have BK262 := n8_
       have BK267 := n9_
       have BK273 := n10_
       have HB := n11_
       clear n0_ n1_ n2_ n3_ n4_ n5_ n6_ n7_ n8_ n9_ n10_ n11_
       (try clear hb)
       (try clear hb2)
       (try clear hk)
       (try clear hi)
       (try clear ho0)
       refine hK.out _ _ ⟨(blk_cell BK240.out 0).trans rfl, (blk_cell BK240.out 1).trans rfl, (blk_cell BK241.out 0).trans rfl, (blk_cell BK241.out 1).trans rfl⟩ (fun hHeld => ?_)
       clear hK K
       refine norm_ (a' := ?_) ?_ ?_
       rotate_left
       ·show Act.put _ (some 96) _ = _
        simp only [Act.put, List.setIfInBounds_toArray, List.set_cons_zero, List.set_cons_succ, i64_w, i32_w]
        rfl
       refine two_ (i := 3) (j := 8) (Ni := some 98) (Nj := some 15) #[true, true, true, true, false, false, false, false, false, false, false] #[true, true, true, false, false, false, false, false, true, false, false] rfl rfl rfl rfl (two_of HT_.out (by kernel_rfl)) (by decide) (by decide) (fun K hK => ?_) (fun K hK => ?_)
       ·skip
        refine goes_ Try.func23 (by kernel_rfl) rfl #[.agg #[.int .i64 a1_0, .slice A1_1 l1_1.length c1_1]] (by rfl) rfl rfl (by (try simp only [List.map_toArray, List.map_cons, List.map_nil]); first | done | rfl | (simp only [List.length_drop, List.length_take]; rfl)) ?_
        with_reducible refine (laws_toBits.calls kj107 a1_0 _ _ l1_1 t297 t298 _ ?side1 ?side2 A172.out).mono ?_
        (case side1 => repeat (first | exact (Kd.C_below HR1_1.out HB.out) | (with_reducible refine Kd.C_alloc ?_ _) | (with_reducible refine Kd.C_drewN ?_ _) | (with_reducible refine Kd.C_drew ?_)))
        (case side2 => exact HC1_1.out)
        rintro e w186 ⟨v299, rfl, ho0, hb⟩
        refine ⟨_, rfl, ?_⟩
        have n0_ := Aside0.mk (Kd.R_elder' (by (with_reducible repeat (first | apply Kd.R_alloc | apply Kd.R_drewN | apply Kd.R_drew)); exact HO_258001.out) (Kd.R_base ho0) hb)
        have n1_ := Aside0.mk (Kd.R_elder' (by (with_reducible repeat (first | apply Kd.R_alloc | apply Kd.R_drewN | apply Kd.R_drew)); exact HO_263001.out) (Kd.R_base ho0) hb)
        have n2_ := Aside0.mk (Kd.R_elder' (by (with_reducible repeat (first | apply Kd.R_alloc | apply Kd.R_drewN | apply Kd.R_drew)); exact HO_268001.out) (Kd.R_base ho0) hb)
        have n3_ := Aside0.mk (Kd.R_elder' (by (with_reducible repeat (first | apply Kd.R_alloc | apply Kd.R_drewN | apply Kd.R_drew)); exact HO_274001.out) (Kd.R_base ho0) hb)
        have n4_ := Aside0.mk (Kd.R_elder' (by (with_reducible repeat (first | apply Kd.R_alloc | apply Kd.R_drewN | apply Kd.R_drew)); exact HO296.out) (Kd.R_base ho0) hb)
        have n5_ := Aside0.mk (Kd.R_lower (Kd.R_new' (Kd.R_new' (Kd.R_new' (Kd.R_new' (Kd.R_new' ho0 (Kd.R_lt (by (with_reducible repeat (first | apply Kd.R_alloc | apply Kd.R_drewN | apply Kd.R_drew)); exact HO_258001.out))) (Kd.R_lt (by (with_reducible repeat (first | apply Kd.R_alloc | apply Kd.R_drewN | apply Kd.R_drew)); exact HO_263001.out))) (Kd.R_lt (by (with_reducible repeat (first | apply Kd.R_alloc | apply Kd.R_drewN | apply Kd.R_drew)); exact HO_268001.out))) (Kd.R_lt (by (with_reducible repeat (first | apply Kd.R_alloc | apply Kd.R_drewN | apply Kd.R_drew)); exact HO_274001.out))) (Kd.R_lt (by (with_reducible repeat (first | apply Kd.R_alloc | apply Kd.R_drewN | apply Kd.R_drew)); exact HO296.out))) (below_size (by repeat (first | (with_reducible first | exact HB.out | apply below_alloc | apply pw_below_drewN | apply below_drew1 | refine below_set ?_ GE240.out | refine below_set ?_ GE241.out | refine below_set ?_ GE257.out | refine below_set ?_ GE262.out | refine below_set ?_ GE267.out | refine below_set ?_ GE273.out) | exact HB.out))))
        have n6_ := Aside0.mk (blk_below (g := gb240) (o := .cells #[.int .i64 a0_0, .slice A0_1 l0_1.length c0_1] 34 (0, 0)) (by (with_reducible repeat (first | refine blk_drewN ?_ _ | refine blk_drew ?_ | refine blk_alloc ?_ _)); exact BK240.out) hb)
        have n7_ := Aside0.mk (blk_below (g := gb241) (o := .cells #[.int .i64 a1_0, .slice A1_1 l1_1.length c1_1] 34 (0, 0)) (by (with_reducible repeat (first | refine blk_drewN ?_ _ | refine blk_drew ?_ | refine blk_alloc ?_ _)); exact BK241.out) hb)
        have n8_ := Aside0.mk (blk_below (g := gb257) (o := .cells #[.int .i64 t252, .slice Ao42 t253.length co42] 25 (0, 0)) (by (with_reducible repeat (first | refine blk_drewN ?_ _ | refine blk_drew ?_ | refine blk_alloc ?_ _)); exact BK257.out) hb)
        have n9_ := Aside0.mk (blk_below (g := gb262) (o := .cells #[.int .i64 t258, .slice Ao52 t286.length co52] 25 (0, 0)) (by (with_reducible repeat (first | refine blk_drewN ?_ _ | refine blk_drew ?_ | refine blk_alloc ?_ _)); exact BK262.out) hb)
        have n10_ := Aside0.mk (blk_below (g := gb267) (o := .cells #[.int .i64 t263, .slice Ao62 t288.length co62] 25 (0, 0)) (by (with_reducible repeat (first | refine blk_drewN ?_ _ | refine blk_drew ?_ | refine blk_alloc ?_ _)); exact BK267.out) hb)
        have n11_ := Aside0.mk (blk_below (g := gb273) (o := .cells #[.int .i64 t268, .slice Ao72 t269.length co72] 25 (0, 0)) (by (with_reducible repeat (first | refine blk_drewN ?_ _ | refine blk_drew ?_ | refine blk_alloc ?_ _)); exact BK273.out) hb)
        have n12_ := Aside0.mk (below_step (by repeat (first | (with_reducible first | exact HB.out | apply below_alloc | apply pw_below_drewN | apply below_drew1 | refine below_set ?_ GE240.out | refine below_set ?_ GE241.out | refine below_set ?_ GE257.out | refine below_set ?_ GE262.out | refine below_set ?_ GE267.out | refine below_set ?_ GE273.out) | exact HB.out)) hb)
        clear HO_258001
        clear HO_263001
        clear HO_268001
        clear HO_274001
        clear HO296
        clear BK240
        clear BK241
        clear BK257
        clear BK262
        clear BK267
        clear BK273
        clear HB
        have HO_258001 := n0_
        have HO_263001 := n1_
        have HO_268001 := n2_
        have HO_274001 := n3_
        have HO296 := n4_
        have HO300 := n5_
        have BK240 := n6_
        have BK241 := n7_
        have BK257 := n8_
        have BK262 := n9_
        have BK267 := n10_
        have BK273 := n11_
        have HB := n12_
        clear n0_ n1_ n2_ n3_ n4_ n5_ n6_ n7_ n8_ n9_ n10_ n11_ n12_
        (try clear hb)
        (try clear hb2)
        (try clear hk)
        (try clear hi)
        (try clear ho0)
        obtain ⟨Ao187, co187, eo187⟩ := Kd.R_slice HO296.out
        (first | subst eo187 | (injection eo187 with f1_ f2_ f3_; have f4_ := f1_.symm; have f5_ := f3_.symm; clear f1_ f2_ f3_; subst f4_; subst f5_))
        obtain ⟨Ao188, co188, eo188⟩ := Kd.R_slice HO300.out
        (first | subst eo188 | (injection eo188 with f1_ f2_ f3_; have f4_ := f1_.symm; have f5_ := f3_.symm; clear f1_ f2_ f3_; subst f4_; subst f5_))
        refine hK.out _ _ ⟨(blk_cell BK240.out 0).trans rfl, (blk_cell BK240.out 1).trans rfl, (blk_cell BK241.out 0).trans rfl, (blk_cell BK241.out 1).trans rfl⟩ (fun hHeld => ?_)
        clear hK K
        refine norm_ (a' := ?_) ?_ ?_
        rotate_left
        ·show Act.put _ (some 98) _ = _
         simp only [Act.put, List.setIfInBounds_toArray, List.set_cons_zero, List.set_cons_succ, i64_w, i32_w]
         rfl
        refine two_ (i := 4) (j := 8) (Ni := some 99) (Nj := some 15) #[true, true, true, true, true, false, false, false, false, false, false] #[true, true, true, true, false, false, false, false, true, false, false] rfl rfl rfl rfl (two_of HT_.out (by kernel_rfl)) (by decide) (by decide) (fun K hK => ?_) (fun K hK => ?_)
        ·skip
         refine goes_ Try.func37 (by kernel_rfl) rfl #[.agg #[.int .i64 t293, .slice Ao187 t294.length co187], .agg #[.int .i64 t297, .slice Ao188 t298.length co188]] (by rfl) rfl rfl (by (try simp only [List.map_toArray, List.map_cons, List.map_nil]); first | done | rfl | (simp only [List.length_drop, List.length_take]; rfl)) ?_
         with_reducible refine (impl_BitsJoin.calls kj107 t293 _ _ t294 t297 _ _ t298 t301 t302 t305 _ ?side1 ?side2 ?side3 ?side4 A173.out).mono ?_
         (case side1 => repeat (first | exact (Kd.R_reads' HO296.out).2.2 | (with_reducible refine Kd.C_alloc ?_ _) | (with_reducible refine Kd.C_drewN ?_ _) | (with_reducible refine Kd.C_drew ?_)))
         (case side2 => exact (Kd.R_reads' HO296.out).2.1)
         (case side3 => repeat (first | exact (Kd.R_reads' HO300.out).2.2 | (with_reducible refine Kd.C_alloc ?_ _) | (with_reducible refine Kd.C_drewN ?_ _) | (with_reducible refine Kd.C_drew ?_)))
         (case side4 => exact (Kd.R_reads' HO300.out).2.1)
         rintro e w189 ⟨v303, rfl, ho0, hb⟩
         refine ⟨_, rfl, ?_⟩
         have n0_ := Aside0.mk (Kd.R_elder' (by (with_reducible repeat (first | apply Kd.R_alloc | apply Kd.R_drewN | apply Kd.R_drew)); exact HO_258001.out) (Kd.R_base ho0) hb)
         have n1_ := Aside0.mk (Kd.R_elder' (by (with_reducible repeat (first | apply Kd.R_alloc | apply Kd.R_drewN | apply Kd.R_drew)); exact HO_263001.out) (Kd.R_base ho0) hb)
         have n2_ := Aside0.mk (Kd.R_elder' (by (with_reducible repeat (first | apply Kd.R_alloc | apply Kd.R_drewN | apply Kd.R_drew)); exact HO_268001.out) (Kd.R_base ho0) hb)
         have n3_ := Aside0.mk (Kd.R_elder' (by (with_reducible repeat (first | apply Kd.R_alloc | apply Kd.R_drewN | apply Kd.R_drew)); exact HO_274001.out) (Kd.R_base ho0) hb)
         have n4_ := Aside0.mk (Kd.R_elder' (by (with_reducible repeat (first | apply Kd.R_alloc | apply Kd.R_drewN | apply Kd.R_drew)); exact HO296.out) (Kd.R_base ho0) hb)
         have n5_ := Aside0.mk (Kd.R_elder' (by (with_reducible repeat (first | apply Kd.R_alloc | apply Kd.R_drewN | apply Kd.R_drew)); exact HO300.out) (Kd.R_base ho0) hb)
         have n6_ := Aside0.mk (Kd.R_lower (Kd.R_new' (Kd.R_new' (Kd.R_new' (Kd.R_new' (Kd.R_new' (Kd.R_new' ho0 (Kd.R_lt (by (with_reducible repeat (first | apply Kd.R_alloc | apply Kd.R_drewN | apply Kd.R_drew)); exact HO_258001.out))) (Kd.R_lt (by (with_reducible repeat (first | apply Kd.R_alloc | apply Kd.R_drewN | apply Kd.R_drew)); exact HO_263001.out))) (Kd.R_lt (by (with_reducible repeat (first | apply Kd.R_alloc | apply Kd.R_drewN | apply Kd.R_drew)); exact HO_268001.out))) (Kd.R_lt (by (with_reducible repeat (first | apply Kd.R_alloc | apply Kd.R_drewN | apply Kd.R_drew)); exact HO_274001.out))) (Kd.R_lt (by (with_reducible repeat (first | apply Kd.R_alloc | apply Kd.R_drewN | apply Kd.R_drew)); exact HO296.out))) (Kd.R_lt (by (with_reducible repeat (first | apply Kd.R_alloc | apply Kd.R_drewN | apply Kd.R_drew)); exact HO300.out))) (below_size (by repeat (first | (with_reducible first | exact HB.out | apply below_alloc | apply pw_below_drewN | apply below_drew1 | refine below_set ?_ GE240.out | refine below_set ?_ GE241.out | refine below_set ?_ GE257.out | refine below_set ?_ GE262.out | refine below_set ?_ GE267.out | refine below_set ?_ GE273.out) | exact HB.out))))
         have n7_ := Aside0.mk (blk_below (g := gb240) (o := .cells #[.int .i64 a0_0, .slice A0_1 l0_1.length c0_1] 34 (0, 0)) (by (with_reducible repeat (first | refine blk_drewN ?_ _ | refine blk_drew ?_ | refine blk_alloc ?_ _)); exact BK240.out) hb)
         have n8_ := Aside0.mk (blk_below (g := gb241) (o := .cells #[.int .i64 a1_0, .slice A1_1 l1_1.length c1_1] 34 (0, 0)) (by (with_reducible repeat (first | refine blk_drewN ?_ _ | refine blk_drew ?_ | refine blk_alloc ?_ _)); exact BK241.out) hb)
         have n9_ := Aside0.mk (blk_below (g := gb257) (o := .cells #[.int .i64 t252, .slice Ao42 t253.length co42] 25 (0, 0)) (by (with_reducible repeat (first | refine blk_drewN ?_ _ | refine blk_drew ?_ | refine blk_alloc ?_ _)); exact BK257.out) hb)
         have n10_ := Aside0.mk (blk_below (g := gb262) (o := .cells #[.int .i64 t258, .slice Ao52 t286.length co52] 25 (0, 0)) (by (with_reducible repeat (first | refine blk_drewN ?_ _ | refine blk_drew ?_ | refine blk_alloc ?_ _)); exact BK262.out) hb)
         have n11_ := Aside0.mk (blk_below (g := gb267) (o := .cells #[.int .i64 t263, .slice Ao62 t288.length co62] 25 (0, 0)) (by (with_reducible repeat (first | refine blk_drewN ?_ _ | refine blk_drew ?_ | refine blk_alloc ?_ _)); exact BK267.out) hb)
         have n12_ := Aside0.mk (blk_below (g := gb273) (o := .cells #[.int .i64 t268, .slice Ao72 t269.length co72] 25 (0, 0)) (by (with_reducible repeat (first | refine blk_drewN ?_ _ | refine blk_drew ?_ | refine blk_alloc ?_ _)); exact BK273.out) hb)
         have n13_ := Aside0.mk (below_step (by repeat (first | (with_reducible first | exact HB.out | apply below_alloc | apply pw_below_drewN | apply below_drew1 | refine below_set ?_ GE240.out | refine below_set ?_ GE241.out | refine below_set ?_ GE257.out | refine below_set ?_ GE262.out | refine below_set ?_ GE267.out | refine below_set ?_ GE273.out) | exact HB.out)) hb)
         clear HO_258001
         clear HO_263001
         clear HO_268001
         clear HO_274001
         clear HO296
         clear HO300
         clear BK240
         clear BK241
         clear BK257
         clear BK262
         clear BK267
         clear BK273
         clear HB
         have HO_258001 := n0_
         have HO_263001 := n1_
         have HO_268001 := n2_
         have HO_274001 := n3_
         have HO296 := n4_
         have HO300 := n5_
         have HO304 := n6_
         have BK240 := n7_
         have BK241 := n8_
         have BK257 := n9_
         have BK262 := n10_
         have BK267 := n11_
         have BK273 := n12_
         have HB := n13_
         clear n0_ n1_ n2_ n3_ n4_ n5_ n6_ n7_ n8_ n9_ n10_ n11_ n12_ n13_
         (try clear hb)
         (try clear hb2)
         (try clear hk)
         (try clear hi)
         (try clear ho0)
         refine hK.out _ _ ⟨(blk_cell BK240.out 0).trans rfl, (blk_cell BK240.out 1).trans rfl, (blk_cell BK241.out 0).trans rfl, (blk_cell BK241.out 1).trans rfl⟩ (fun hHeld => ?_)
         clear hK K
         refine norm_ (a' := ?_) ?_ ?_
         rotate_left
         ·show Act.put _ (some 99) _ = _
          simp only [Act.put, List.setIfInBounds_toArray, List.set_cons_zero, List.set_cons_succ, i64_w, i32_w]
          rfl
         refine pure_ (i := 5) (N := some 94) (v := ?_) (a' := ?_) #[true, true, true, true, true, true, false, false, false, false, false] rfl rfl (any_of HT_.out (by kernel_rfl)) (fun _ _ _ h => h) (Or.inl ⟨by rfl, ?_⟩) ?_ ?_
         rotate_left
         ·intro w'
          go_simp
          with_reducible rfl
         rotate_left
         ·simp only [Act.put, List.setIfInBounds_toArray, List.set_cons_zero, List.set_cons_succ, i64_w, i32_w]
          rfl
         refine pure_ (i := 6) (N := some 100) (v := ?_) (a' := ?_) #[true, true, true, true, true, true, true, false, false, false, false] rfl rfl (any_of HT_.out (by kernel_rfl)) (fun _ _ _ h => h) (Or.inl ⟨by rfl, ?_⟩) ?_ ?_
         rotate_left
         ·intro w'
          go_simp
          with_reducible rfl
         rotate_left
         ·simp only [Act.put, List.setIfInBounds_toArray, List.set_cons_zero, List.set_cons_succ, i64_w, i32_w]
          rfl
         refine pure_ (i := 7) (N := some 101) (v := ?_) (a' := ?_) #[true, true, true, true, true, true, true, true, false, false, false] rfl rfl (any_of HT_.out (by kernel_rfl)) (fun _ _ _ h => h) (Or.inl ⟨by rfl, ?_⟩) ?_ ?_
         rotate_left
         ·intro w'
          go_simp
          with_reducible rfl
         rotate_left
         ·simp only [Act.put, List.setIfInBounds_toArray, List.set_cons_zero, List.set_cons_succ, i64_w, i32_w]
          rfl
         refine one_ (i := 8) (N := some 15) #[true, true, true, true, true, true, true, true, true, false, false] rfl rfl (one_of HT_.out (by kernel_rfl)) (by decide) (fun K hK => ?_)
         refine box_step ?hg (N := 15) ?hd (cs := #[.int .i64 0, .slice none 0 0]) (t := 25) ?hr ?_; (case hd => rfl); (case hg => rfl); (case hr => first | (go_simp; done) | (go_simp; rfl))
         intro gb306 hg w190 hbox hb
         have n0_ := Aside0.mk (Kd.R_below (by (with_reducible repeat (first | apply Kd.R_alloc | apply Kd.R_drewN | apply Kd.R_drew)); exact HO_258001.out) hb)
         have n1_ := Aside0.mk (Kd.R_below (by (with_reducible repeat (first | apply Kd.R_alloc | apply Kd.R_drewN | apply Kd.R_drew)); exact HO_263001.out) hb)
         have n2_ := Aside0.mk (Kd.R_below (by (with_reducible repeat (first | apply Kd.R_alloc | apply Kd.R_drewN | apply Kd.R_drew)); exact HO_268001.out) hb)
         have n3_ := Aside0.mk (Kd.R_below (by (with_reducible repeat (first | apply Kd.R_alloc | apply Kd.R_drewN | apply Kd.R_drew)); exact HO_274001.out) hb)
         have n4_ := Aside0.mk (Kd.R_below (by (with_reducible repeat (first | apply Kd.R_alloc | apply Kd.R_drewN | apply Kd.R_drew)); exact HO296.out) hb)
         have n5_ := Aside0.mk (Kd.R_below (by (with_reducible repeat (first | apply Kd.R_alloc | apply Kd.R_drewN | apply Kd.R_drew)); exact HO300.out) hb)
         have n6_ := Aside0.mk (Kd.R_below (by (with_reducible repeat (first | apply Kd.R_alloc | apply Kd.R_drewN | apply Kd.R_drew)); exact HO304.out) hb)
         have n7_ := Aside0.mk (blk_below (g := gb240) (o := .cells #[.int .i64 a0_0, .slice A0_1 l0_1.length c0_1] 34 (0, 0)) (by (with_reducible repeat (first | refine blk_drewN ?_ _ | refine blk_drew ?_ | refine blk_alloc ?_ _)); exact BK240.out) hb)
         have n8_ := Aside0.mk (blk_below (g := gb241) (o := .cells #[.int .i64 a1_0, .slice A1_1 l1_1.length c1_1] 34 (0, 0)) (by (with_reducible repeat (first | refine blk_drewN ?_ _ | refine blk_drew ?_ | refine blk_alloc ?_ _)); exact BK241.out) hb)
         have n9_ := Aside0.mk (blk_below (g := gb257) (o := .cells #[.int .i64 t252, .slice Ao42 t253.length co42] 25 (0, 0)) (by (with_reducible repeat (first | refine blk_drewN ?_ _ | refine blk_drew ?_ | refine blk_alloc ?_ _)); exact BK257.out) hb)
         have n10_ := Aside0.mk (blk_below (g := gb262) (o := .cells #[.int .i64 t258, .slice Ao52 t286.length co52] 25 (0, 0)) (by (with_reducible repeat (first | refine blk_drewN ?_ _ | refine blk_drew ?_ | refine blk_alloc ?_ _)); exact BK262.out) hb)
         have n11_ := Aside0.mk (blk_below (g := gb267) (o := .cells #[.int .i64 t263, .slice Ao62 t288.length co62] 25 (0, 0)) (by (with_reducible repeat (first | refine blk_drewN ?_ _ | refine blk_drew ?_ | refine blk_alloc ?_ _)); exact BK267.out) hb)
         have n12_ := Aside0.mk (blk_below (g := gb273) (o := .cells #[.int .i64 t268, .slice Ao72 t269.length co72] 25 (0, 0)) (by (with_reducible repeat (first | refine blk_drewN ?_ _ | refine blk_drew ?_ | refine blk_alloc ?_ _)); exact BK273.out) hb)
         have n13_ := Aside0.mk (below_step (by repeat (first | (with_reducible first | exact HB.out | apply below_alloc | apply pw_below_drewN | apply below_drew1 | refine below_set ?_ GE240.out | refine below_set ?_ GE241.out | refine below_set ?_ GE257.out | refine below_set ?_ GE262.out | refine below_set ?_ GE267.out | refine below_set ?_ GE273.out) | exact HB.out)) hb)
         have n14_ := Aside0.mk (hbox)
         have n15_ := Aside0.mk ((by rw [hg]; exact (below_size (by repeat (first | (with_reducible first | exact HB.out | apply below_alloc | apply pw_below_drewN | apply below_drew1 | refine below_set ?_ GE240.out | refine below_set ?_ GE241.out | refine below_set ?_ GE257.out | refine below_set ?_ GE262.out | refine below_set ?_ GE267.out | refine below_set ?_ GE273.out) | exact HB.out))) : w.heap.size ≤ gb306))
         have n16_ := n15_
         have n17_ := Aside0.mk ((by rw [hg]; exact Nat.ne_of_lt (blk_lt (g := gb240) (o := .cells #[.int .i64 a0_0, .slice A0_1 l0_1.length c0_1] 34 (0, 0)) (by (with_reducible repeat (first | refine blk_drewN ?_ _ | refine blk_drew ?_ | refine blk_alloc ?_ _)); exact BK240.out)) : gb240 ≠ gb306))
         have n18_ := Aside0.mk n17_.out.symm
         have n19_ := Aside0.mk ((by rw [hg]; exact Nat.ne_of_lt (blk_lt (g := gb241) (o := .cells #[.int .i64 a1_0, .slice A1_1 l1_1.length c1_1] 34 (0, 0)) (by (with_reducible repeat (first | refine blk_drewN ?_ _ | refine blk_drew ?_ | refine blk_alloc ?_ _)); exact BK241.out)) : gb241 ≠ gb306))
         have n20_ := Aside0.mk n19_.out.symm
         have n21_ := Aside0.mk ((by rw [hg]; exact Nat.ne_of_lt (blk_lt (g := gb257) (o := .cells #[.int .i64 t252, .slice Ao42 t253.length co42] 25 (0, 0)) (by (with_reducible repeat (first | refine blk_drewN ?_ _ | refine blk_drew ?_ | refine blk_alloc ?_ _)); exact BK257.out)) : gb257 ≠ gb306))
         have n22_ := Aside0.mk n21_.out.symm
         have n23_ := Aside0.mk ((by rw [hg]; exact Nat.ne_of_lt (blk_lt (g := gb262) (o := .cells #[.int .i64 t258, .slice Ao52 t286.length co52] 25 (0, 0)) (by (with_reducible repeat (first | refine blk_drewN ?_ _ | refine blk_drew ?_ | refine blk_alloc ?_ _)); exact BK262.out)) : gb262 ≠ gb306))
         have n24_ := Aside0.mk n23_.out.symm
         have n25_ := Aside0.mk ((by rw [hg]; exact Nat.ne_of_lt (blk_lt (g := gb267) (o := .cells #[.int .i64 t263, .slice Ao62 t288.length co62] 25 (0, 0)) (by (with_reducible repeat (first | refine blk_drewN ?_ _ | refine blk_drew ?_ | refine blk_alloc ?_ _)); exact BK267.out)) : gb267 ≠ gb306))
         have n26_ := Aside0.mk n25_.out.symm
         have n27_ := Aside0.mk ((by rw [hg]; exact Nat.ne_of_lt (blk_lt (g := gb273) (o := .cells #[.int .i64 t268, .slice Ao72 t269.length co72] 25 (0, 0)) (by (with_reducible repeat (first | refine blk_drewN ?_ _ | refine blk_drew ?_ | refine blk_alloc ?_ _)); exact BK273.out)) : gb273 ≠ gb306))
         have n28_ := Aside0.mk n27_.out.symm
         clear HO_258001
         clear HO_263001
         clear HO_268001
         clear HO_274001
         clear HO296
         clear HO300
         clear HO304
         clear BK240
         clear BK241
         clear BK257
         clear BK262
         clear BK267
         clear BK273
         clear HB
         have HO_258001 := n0_
         have HO_263001 := n1_
         have HO_268001 := n2_
         have HO_274001 := n3_
         have HO296 := n4_
         have HO300 := n5_
         have HO304 := n6_
         have BK240 := n7_
         have BK241 := n8_
         have BK257 := n9_
         have BK262 := n10_
         have BK267 := n11_
         have BK273 := n12_
         have HB := n13_
         have BK306 := n14_
         have GW306 := n15_
         have GE306 := n16_
         have NB240_306 := n17_
         have NB306_240 := n18_
         have NB241_306 := n19_
         have NB306_241 := n20_
         have NB257_306 := n21_
         have NB306_257 := n22_
         have NB262_306 := n23_
         have NB306_262 := n24_
         have NB267_306 := n25_
         have NB306_267 := n26_
         have NB273_306 := n27_
         have NB306_273 := n28_
         clear n0_ n1_ n2_ n3_ n4_ n5_ n6_ n7_ n8_ n9_ n10_ n11_ n12_ n13_ n14_ n15_ n16_ n17_ n18_ n19_ n20_ n21_ n22_ n23_ n24_ n25_ n26_ n27_ n28_
         clear hb hbox hg
         refine hK.out _ _ ⟨(blk_cell BK240.out 0).trans rfl, (blk_cell BK240.out 1).trans rfl, (blk_cell BK241.out 0).trans rfl, (blk_cell BK241.out 1).trans rfl⟩ (fun hHeld => ?_)
         clear hK K
         refine norm_ (a' := ?_) ?_ ?_
         rotate_left
         ·show Act.put _ (some 15) _ = _
          simp only [Act.put, List.setIfInBounds_toArray, List.set_cons_zero, List.set_cons_succ, i64_w, i32_w]
          rfl
         exact norm_ (by simp only [putAll, Act.put, List.setIfInBounds_toArray, List.set_cons_zero, List.set_cons_succ]) (hCont (.slice Ao187 t294.length co187, .slice Ao188 t298.length co188, v303, gb306) _ ⟨hHeld, (by (with_reducible repeat (first | apply Kd.R_alloc | apply Kd.R_drewN | apply Kd.R_drew)); exact Kd.R_mono HO296.out (fun _ hk => ⟨hk.1.2, ⟨hk.2, ⟨hk.1.1.1.1.1.2, ⟨hk.1.1.1.1.2, ⟨hk.1.1.1.2, hk.1.1.2⟩⟩⟩⟩⟩)), (by (with_reducible repeat (first | apply Kd.R_alloc | apply Kd.R_drewN | apply Kd.R_drew)); exact Kd.R_mono HO300.out (fun _ hk => ⟨hk.1.2, ⟨hk.2, ⟨hk.1.1.1.1.1.2, ⟨hk.1.1.1.1.2, ⟨hk.1.1.1.2, hk.1.1.2⟩⟩⟩⟩⟩)), (by (with_reducible repeat (first | apply Kd.R_alloc | apply Kd.R_drewN | apply Kd.R_drew)); exact Kd.R_mono HO304.out (fun _ hk => ⟨hk.1.2, ⟨hk.2, ⟨hk.1.1.1.1.1.2, ⟨hk.1.1.1.1.2, ⟨hk.1.1.1.2, hk.1.1.2⟩⟩⟩⟩⟩)), (by (with_reducible repeat (first | apply Kd.R_alloc | apply Kd.R_drewN | apply Kd.R_drew)); exact Kd.R_mono HO_258001.out (fun _ hk => ⟨hk.1.1.2, ⟨hk.1.2, ⟨hk.2, ⟨hk.1.1.1.1, ⟨hk.1.1.1.2.1, hk.1.1.1.2.2⟩⟩⟩⟩⟩)), (by (with_reducible repeat (first | apply Kd.R_alloc | apply Kd.R_drewN | apply Kd.R_drew)); exact Kd.R_mono HO_263001.out (fun _ hk => ⟨hk.1.1.2, ⟨hk.1.2, ⟨hk.2, ⟨hk.1.1.1.1, ⟨hk.1.1.1.2.1, hk.1.1.1.2.2⟩⟩⟩⟩⟩)), (by (with_reducible repeat (first | apply Kd.R_alloc | apply Kd.R_drewN | apply Kd.R_drew)); exact Kd.R_mono HO_268001.out (fun _ hk => ⟨hk.1.1.2, ⟨hk.1.2, ⟨hk.2, ⟨hk.1.1.1.1, ⟨hk.1.1.1.2.1, hk.1.1.1.2.2⟩⟩⟩⟩⟩)), (by (with_reducible repeat (first | apply Kd.R_alloc | apply Kd.R_drewN | apply Kd.R_drew)); exact Kd.R_mono HO_274001.out (fun _ hk => ⟨hk.1.1.2, ⟨hk.1.2, ⟨hk.2, ⟨hk.1.1.1.1, ⟨hk.1.1.1.2.1, hk.1.1.1.2.2⟩⟩⟩⟩⟩)), (by (with_reducible repeat (first | refine blk_drewN ?_ _ | refine blk_drew ?_ | refine blk_alloc ?_ _)); exact BK240.out), (by (with_reducible repeat (first | refine blk_drewN ?_ _ | refine blk_drew ?_ | refine blk_alloc ?_ _)); exact BK241.out), (by (with_reducible repeat (first | refine blk_drewN ?_ _ | refine blk_drew ?_ | refine blk_alloc ?_ _)); exact BK257.out), (by (with_reducible repeat (first | refine blk_drewN ?_ _ | refine blk_drew ?_ | refine blk_alloc ?_ _)); exact BK262.out), (by (with_reducible repeat (first | refine blk_drewN ?_ _ | refine blk_drew ?_ | refine blk_alloc ?_ _)); exact BK267.out), (by (with_reducible repeat (first | refine blk_drewN ?_ _ | refine blk_drew ?_ | refine blk_alloc ?_ _)); exact BK273.out), (by (with_reducible repeat (first | refine blk_drewN ?_ _ | refine blk_drew ?_ | refine blk_alloc ?_ _)); exact BK306.out), GW306.out, GE306.out, NB240_306.out, NB306_240.out, NB241_306.out, NB306_241.out, NB257_306.out, NB306_257.out, NB262_306.out, NB306_262.out, NB267_306.out, NB306_267.out, NB273_306.out, NB306_273.out, (by repeat (first | (with_reducible first | exact HB.out | apply below_alloc | apply pw_below_drewN | apply below_drew1 | refine below_set ?_ GE240.out | refine below_set ?_ GE241.out | refine below_set ?_ GE257.out | refine below_set ?_ GE262.out | refine below_set ?_ GE267.out | refine below_set ?_ GE273.out | refine below_set ?_ GE306.out) | exact HB.out))⟩)
        ·skip
         refine box_step ?hg (N := 15) ?hd (cs := #[.int .i64 0, .slice none 0 0]) (t := 25) ?hr ?_; (case hd => rfl); (case hg => rfl); (case hr => first | (go_simp; done) | (go_simp; rfl))
         intro gb306 hg w187 hbox hb
         have n0_ := Aside0.mk (Kd.R_below (by (with_reducible repeat (first | apply Kd.R_alloc | apply Kd.R_drewN | apply Kd.R_drew)); exact HO_258001.out) hb)
         have n1_ := Aside0.mk (Kd.R_below (by (with_reducible repeat (first | apply Kd.R_alloc | apply Kd.R_drewN | apply Kd.R_drew)); exact HO_263001.out) hb)
         have n2_ := Aside0.mk (Kd.R_below (by (with_reducible repeat (first | apply Kd.R_alloc | apply Kd.R_drewN | apply Kd.R_drew)); exact HO_268001.out) hb)
         have n3_ := Aside0.mk (Kd.R_below (by (with_reducible repeat (first | apply Kd.R_alloc | apply Kd.R_drewN | apply Kd.R_drew)); exact HO_274001.out) hb)
         have n4_ := Aside0.mk (Kd.R_below (by (with_reducible repeat (first | apply Kd.R_alloc | apply Kd.R_drewN | apply Kd.R_drew)); exact HO296.out) hb)
         have n5_ := Aside0.mk (Kd.R_below (by (with_reducible repeat (first | apply Kd.R_alloc | apply Kd.R_drewN | apply Kd.R_drew)); exact HO300.out) hb)
         have n6_ := Aside0.mk (blk_below (g := gb240) (o := .cells #[.int .i64 a0_0, .slice A0_1 l0_1.length c0_1] 34 (0, 0)) (by (with_reducible repeat (first | refine blk_drewN ?_ _ | refine blk_drew ?_ | refine blk_alloc ?_ _)); exact BK240.out) hb)
         have n7_ := Aside0.mk (blk_below (g := gb241) (o := .cells #[.int .i64 a1_0, .slice A1_1 l1_1.length c1_1] 34 (0, 0)) (by (with_reducible repeat (first | refine blk_drewN ?_ _ | refine blk_drew ?_ | refine blk_alloc ?_ _)); exact BK241.out) hb)
         have n8_ := Aside0.mk (blk_below (g := gb257) (o := .cells #[.int .i64 t252, .slice Ao42 t253.length co42] 25 (0, 0)) (by (with_reducible repeat (first | refine blk_drewN ?_ _ | refine blk_drew ?_ | refine blk_alloc ?_ _)); exact BK257.out) hb)
         have n9_ := Aside0.mk (blk_below (g := gb262) (o := .cells #[.int .i64 t258, .slice Ao52 t286.length co52] 25 (0, 0)) (by (with_reducible repeat (first | refine blk_drewN ?_ _ | refine blk_drew ?_ | refine blk_alloc ?_ _)); exact BK262.out) hb)
         have n10_ := Aside0.mk (blk_below (g := gb267) (o := .cells #[.int .i64 t263, .slice Ao62 t288.length co62] 25 (0, 0)) (by (with_reducible repeat (first | refine blk_drewN ?_ _ | refine blk_drew ?_ | refine blk_alloc ?_ _)); exact BK267.out) hb)
         have n11_ := Aside0.mk (blk_below (g := gb273) (o := .cells #[.int .i64 t268, .slice Ao72 t269.length co72] 25 (0, 0)) (by (with_reducible repeat (first | refine blk_drewN ?_ _ | refine blk_drew ?_ | refine blk_alloc ?_ _)); exact BK273.out) hb)
         have n12_ := Aside0.mk (below_step (by repeat (first | (with_reducible first | exact HB.out | apply below_alloc | apply pw_below_drewN | apply below_drew1 | refine below_set ?_ GE240.out | refine below_set ?_ GE241.out | refine below_set ?_ GE257.out | refine below_set ?_ GE262.out | refine below_set ?_ GE267.out | refine below_set ?_ GE273.out) | exact HB.out)) hb)
         have n13_ := Aside0.mk (hbox)
         have n14_ := Aside0.mk ((by rw [hg]; exact (below_size (by repeat (first | (with_reducible first | exact HB.out | apply below_alloc | apply pw_below_drewN | apply below_drew1 | refine below_set ?_ GE240.out | refine below_set ?_ GE241.out | refine below_set ?_ GE257.out | refine below_set ?_ GE262.out | refine below_set ?_ GE267.out | refine below_set ?_ GE273.out) | exact HB.out))) : w.heap.size ≤ gb306))
         have n15_ := n14_
         have n16_ := Aside0.mk ((by rw [hg]; exact Nat.ne_of_lt (blk_lt (g := gb240) (o := .cells #[.int .i64 a0_0, .slice A0_1 l0_1.length c0_1] 34 (0, 0)) (by (with_reducible repeat (first | refine blk_drewN ?_ _ | refine blk_drew ?_ | refine blk_alloc ?_ _)); exact BK240.out)) : gb240 ≠ gb306))
         have n17_ := Aside0.mk n16_.out.symm
         have n18_ := Aside0.mk ((by rw [hg]; exact Nat.ne_of_lt (blk_lt (g := gb241) (o := .cells #[.int .i64 a1_0, .slice A1_1 l1_1.length c1_1] 34 (0, 0)) (by (with_reducible repeat (first | refine blk_drewN ?_ _ | refine blk_drew ?_ | refine blk_alloc ?_ _)); exact BK241.out)) : gb241 ≠ gb306))
         have n19_ := Aside0.mk n18_.out.symm
         have n20_ := Aside0.mk ((by rw [hg]; exact Nat.ne_of_lt (blk_lt (g := gb257) (o := .cells #[.int .i64 t252, .slice Ao42 t253.length co42] 25 (0, 0)) (by (with_reducible repeat (first | refine blk_drewN ?_ _ | refine blk_drew ?_ | refine blk_alloc ?_ _)); exact BK257.out)) : gb257 ≠ gb306))
         have n21_ := Aside0.mk n20_.out.symm
         have n22_ := Aside0.mk ((by rw [hg]; exact Nat.ne_of_lt (blk_lt (g := gb262) (o := .cells #[.int .i64 t258, .slice Ao52 t286.length co52] 25 (0, 0)) (by (with_reducible repeat (first | refine blk_drewN ?_ _ | refine blk_drew ?_ | refine blk_alloc ?_ _)); exact BK262.out)) : gb262 ≠ gb306))
         have n23_ := Aside0.mk n22_.out.symm
         have n24_ := Aside0.mk ((by rw [hg]; exact Nat.ne_of_lt (blk_lt (g := gb267) (o := .cells #[.int .i64 t263, .slice Ao62 t288.length co62] 25 (0, 0)) (by (with_reducible repeat (first | refine blk_drewN ?_ _ | refine blk_drew ?_ | refine blk_alloc ?_ _)); exact BK267.out)) : gb267 ≠ gb306))
         have n25_ := Aside0.mk n24_.out.symm
         have n26_ := Aside0.mk ((by rw [hg]; exact Nat.ne_of_lt (blk_lt (g := gb273) (o := .cells #[.int .i64 t268, .slice Ao72 t269.length co72] 25 (0, 0)) (by (with_reducible repeat (first | refine blk_drewN ?_ _ | refine blk_drew ?_ | refine blk_alloc ?_ _)); exact BK273.out)) : gb273 ≠ gb306))
         have n27_ := Aside0.mk n26_.out.symm
         clear HO_258001
         clear HO_263001
         clear HO_268001
         clear HO_274001
         clear HO296
         clear HO300
         clear BK240
         clear BK241
         clear BK257
         clear BK262
         clear BK267
         clear BK273
         clear HB
         have HO_258001 := n0_
         have HO_263001 := n1_
         have HO_268001 := n2_
         have HO_274001 := n3_
         have HO296 := n4_
         have HO300 := n5_
         have BK240 := n6_
         have BK241 := n7_
         have BK257 := n8_
         have BK262 := n9_
         have BK267 := n10_
         have BK273 := n11_
         have HB := n12_
         have BK306 := n13_
         have GW306 := n14_
         have GE306 := n15_
         have NB240_306 := n16_
         have NB306_240 := n17_
         have NB241_306 := n18_
         have NB306_241 := n19_
         have NB257_306 := n20_
         have NB306_257 := n21_
         have NB262_306 := n22_
         have NB306_262 := n23_
         have NB267_306 := n24_
         have NB306_267 := n25_
         have NB273_306 := n26_
         have NB306_273 := n27_
         clear n0_ n1_ n2_ n3_ n4_ n5_ n6_ n7_ n8_ n9_ n10_ n11_ n12_ n13_ n14_ n15_ n16_ n17_ n18_ n19_ n20_ n21_ n22_ n23_ n24_ n25_ n26_ n27_
         clear hb hbox hg
         obtain ⟨Ao188, co188, eo188⟩ := Kd.R_slice HO296.out
         (first | subst eo188 | (injection eo188 with f1_ f2_ f3_; have f4_ := f1_.symm; have f5_ := f3_.symm; clear f1_ f2_ f3_; subst f4_; subst f5_))
         obtain ⟨Ao189, co189, eo189⟩ := Kd.R_slice HO300.out
         (first | subst eo189 | (injection eo189 with f1_ f2_ f3_; have f4_ := f1_.symm; have f5_ := f3_.symm; clear f1_ f2_ f3_; subst f4_; subst f5_))
         refine hK.out _ _ ⟨(blk_cell BK240.out 0).trans rfl, (blk_cell BK240.out 1).trans rfl, (blk_cell BK241.out 0).trans rfl, (blk_cell BK241.out 1).trans rfl⟩ (fun hHeld => ?_)
         clear hK K
         refine norm_ (a' := ?_) ?_ ?_
         rotate_left
         ·show Act.put _ (some 15) _ = _
          simp only [Act.put, List.setIfInBounds_toArray, List.set_cons_zero, List.set_cons_succ, i64_w, i32_w]
          rfl
         refine one_ (i := 4) (N := some 99) #[true, true, true, true, true, false, false, false, true, false, false] rfl rfl (one_of HT_.out (by kernel_rfl)) (by decide) (fun K hK => ?_)
         refine goes_ Try.func37 (by kernel_rfl) rfl #[.agg #[.int .i64 t293, .slice Ao188 t294.length co188], .agg #[.int .i64 t297, .slice Ao189 t298.length co189]] (by rfl) rfl rfl (by (try simp only [List.map_toArray, List.map_cons, List.map_nil]); first | done | rfl | (simp only [List.length_drop, List.length_take]; rfl)) ?_
         with_reducible refine (impl_BitsJoin.calls kj107 t293 _ _ t294 t297 _ _ t298 t301 t302 t305 _ ?side1 ?side2 ?side3 ?side4 A173.out).mono ?_
         (case side1 => repeat (first | exact (Kd.R_reads' HO296.out).2.2 | (with_reducible refine Kd.C_alloc ?_ _) | (with_reducible refine Kd.C_drewN ?_ _) | (with_reducible refine Kd.C_drew ?_)))
         (case side2 => exact (Kd.R_reads' HO296.out).2.1)
         (case side3 => repeat (first | exact (Kd.R_reads' HO300.out).2.2 | (with_reducible refine Kd.C_alloc ?_ _) | (with_reducible refine Kd.C_drewN ?_ _) | (with_reducible refine Kd.C_drew ?_)))
         (case side4 => exact (Kd.R_reads' HO300.out).2.1)
         rintro e w190 ⟨v303, rfl, ho0, hb⟩
         refine ⟨_, rfl, ?_⟩
         have n0_ := Aside0.mk (Kd.R_elder' (by (with_reducible repeat (first | apply Kd.R_alloc | apply Kd.R_drewN | apply Kd.R_drew)); exact HO_258001.out) (Kd.R_base ho0) hb)
         have n1_ := Aside0.mk (Kd.R_elder' (by (with_reducible repeat (first | apply Kd.R_alloc | apply Kd.R_drewN | apply Kd.R_drew)); exact HO_263001.out) (Kd.R_base ho0) hb)
         have n2_ := Aside0.mk (Kd.R_elder' (by (with_reducible repeat (first | apply Kd.R_alloc | apply Kd.R_drewN | apply Kd.R_drew)); exact HO_268001.out) (Kd.R_base ho0) hb)
         have n3_ := Aside0.mk (Kd.R_elder' (by (with_reducible repeat (first | apply Kd.R_alloc | apply Kd.R_drewN | apply Kd.R_drew)); exact HO_274001.out) (Kd.R_base ho0) hb)
         have n4_ := Aside0.mk (Kd.R_elder' (by (with_reducible repeat (first | apply Kd.R_alloc | apply Kd.R_drewN | apply Kd.R_drew)); exact HO296.out) (Kd.R_base ho0) hb)
         have n5_ := Aside0.mk (Kd.R_elder' (by (with_reducible repeat (first | apply Kd.R_alloc | apply Kd.R_drewN | apply Kd.R_drew)); exact HO300.out) (Kd.R_base ho0) hb)
         have n6_ := Aside0.mk (Kd.R_lower (Kd.R_new' (Kd.R_new' (Kd.R_new' (Kd.R_new' (Kd.R_new' (Kd.R_new' ho0 (Kd.R_lt (by (with_reducible repeat (first | apply Kd.R_alloc | apply Kd.R_drewN | apply Kd.R_drew)); exact HO_258001.out))) (Kd.R_lt (by (with_reducible repeat (first | apply Kd.R_alloc | apply Kd.R_drewN | apply Kd.R_drew)); exact HO_263001.out))) (Kd.R_lt (by (with_reducible repeat (first | apply Kd.R_alloc | apply Kd.R_drewN | apply Kd.R_drew)); exact HO_268001.out))) (Kd.R_lt (by (with_reducible repeat (first | apply Kd.R_alloc | apply Kd.R_drewN | apply Kd.R_drew)); exact HO_274001.out))) (Kd.R_lt (by (with_reducible repeat (first | apply Kd.R_alloc | apply Kd.R_drewN | apply Kd.R_drew)); exact HO296.out))) (Kd.R_lt (by (with_reducible repeat (first | apply Kd.R_alloc | apply Kd.R_drewN | apply Kd.R_drew)); exact HO300.out))) (below_size (by repeat (first | (with_reducible first | exact HB.out | apply below_alloc | apply pw_below_drewN | apply below_drew1 | refine below_set ?_ GE240.out | refine below_set ?_ GE241.out | refine below_set ?_ GE257.out | refine below_set ?_ GE262.out | refine below_set ?_ GE267.out | refine below_set ?_ GE273.out | refine below_set ?_ GE306.out) | exact HB.out))))
         have n7_ := Aside0.mk (blk_below (g := gb240) (o := .cells #[.int .i64 a0_0, .slice A0_1 l0_1.length c0_1] 34 (0, 0)) (by (with_reducible repeat (first | refine blk_drewN ?_ _ | refine blk_drew ?_ | refine blk_alloc ?_ _)); exact BK240.out) hb)
         have n8_ := Aside0.mk (blk_below (g := gb241) (o := .cells #[.int .i64 a1_0, .slice A1_1 l1_1.length c1_1] 34 (0, 0)) (by (with_reducible repeat (first | refine blk_drewN ?_ _ | refine blk_drew ?_ | refine blk_alloc ?_ _)); exact BK241.out) hb)
         have n9_ := Aside0.mk (blk_below (g := gb257) (o := .cells #[.int .i64 t252, .slice Ao42 t253.length co42] 25 (0, 0)) (by (with_reducible repeat (first | refine blk_drewN ?_ _ | refine blk_drew ?_ | refine blk_alloc ?_ _)); exact BK257.out) hb)
         have n10_ := Aside0.mk (blk_below (g := gb262) (o := .cells #[.int .i64 t258, .slice Ao52 t286.length co52] 25 (0, 0)) (by (with_reducible repeat (first | refine blk_drewN ?_ _ | refine blk_drew ?_ | refine blk_alloc ?_ _)); exact BK262.out) hb)
         have n11_ := Aside0.mk (blk_below (g := gb267) (o := .cells #[.int .i64 t263, .slice Ao62 t288.length co62] 25 (0, 0)) (by (with_reducible repeat (first | refine blk_drewN ?_ _ | refine blk_drew ?_ | refine blk_alloc ?_ _)); exact BK267.out) hb)
         have n12_ := Aside0.mk (blk_below (g := gb273) (o := .cells #[.int .i64 t268, .slice Ao72 t269.length co72] 25 (0, 0)) (by (with_reducible repeat (first | refine blk_drewN ?_ _ | refine blk_drew ?_ | refine blk_alloc ?_ _)); exact BK273.out) hb)
         have n13_ := Aside0.mk (blk_below (g := gb306) (o := .cells #[.int .i64 0, .slice none 0 0] 25 (0, 0)) (by (with_reducible repeat (first | refine blk_drewN ?_ _ | refine blk_drew ?_ | refine blk_alloc ?_ _)); exact BK306.out) hb)
         have n14_ := Aside0.mk (below_step (by repeat (first | (with_reducible first | exact HB.out | apply below_alloc | apply pw_below_drewN | apply below_drew1 | refine below_set ?_ GE240.out | refine below_set ?_ GE241.out | refine below_set ?_ GE257.out | refine below_set ?_ GE262.out | refine below_set ?_ GE267.out | refine below_set ?_ GE273.out | refine below_set ?_ GE306.out) | exact HB.out)) hb)
         clear HO_258001
         clear HO_263001
         clear HO_268001
         clear HO_274001
         clear HO296
         clear HO300
         clear BK240
         clear BK241
         clear BK257
         clear BK262
         clear BK267
         clear BK273
         clear BK306
         clear HB
         have HO_258001 := n0_
         have HO_263001 := n1_
         have HO_268001 := n2_
         have HO_274001 := n3_
         have HO296 := n4_
         have HO300 := n5_
         have HO304 := n6_
         have BK240 := n7_
         have BK241 := n8_
         have BK257 := n9_
         have BK262 := n10_
         have BK267 := n11_
         have BK273 := n12_
         have BK306 := n13_
         have HB := n14_
         clear n0_ n1_ n2_ n3_ n4_ n5_ n6_ n7_ n8_ n9_ n10_ n11_ n12_ n13_ n14_
         (try clear hb)
         (try clear hb2)
         (try clear hk)
         (try clear hi)
         (try clear ho0)
         refine hK.out _ _ ⟨(blk_cell BK240.out 0).trans rfl, (blk_cell BK240.out 1).trans rfl, (blk_cell BK241.out 0).trans rfl, (blk_cell BK241.out 1).trans rfl⟩ (fun hHeld => ?_)
         clear hK K
         refine norm_ (a' := ?_) ?_ ?_
         rotate_left
         ·show Act.put _ (some 99) _ = _
          simp only [Act.put, List.setIfInBounds_toArray, List.set_cons_zero, List.set_cons_succ, i64_w, i32_w]
          rfl
         refine pure_ (i := 5) (N := some 94) (v := ?_) (a' := ?_) #[true, true, true, true, true, true, false, false, true, false, false] rfl rfl (any_of HT_.out (by kernel_rfl)) (fun _ _ _ h => h) (Or.inl ⟨by rfl, ?_⟩) ?_ ?_
         rotate_left
         ·intro w'
          go_simp
          with_reducible rfl
         rotate_left
         ·simp only [Act.put, List.setIfInBounds_toArray, List.set_cons_zero, List.set_cons_succ, i64_w, i32_w]
          rfl
         refine pure_ (i := 6) (N := some 100) (v := ?_) (a' := ?_) #[true, true, true, true, true, true, true, false, true, false, false] rfl rfl (any_of HT_.out (by kernel_rfl)) (fun _ _ _ h => h) (Or.inl ⟨by rfl, ?_⟩) ?_ ?_
         rotate_left
         ·intro w'
          go_simp
          with_reducible rfl
         rotate_left
         ·simp only [Act.put, List.setIfInBounds_toArray, List.set_cons_zero, List.set_cons_succ, i64_w, i32_w]
          rfl
         refine pure_ (i := 7) (N := some 101) (v := ?_) (a' := ?_) #[true, true, true, true, true, true, true, true, true, false, false] rfl rfl (any_of HT_.out (by kernel_rfl)) (fun _ _ _ h => h) (Or.inl ⟨by rfl, ?_⟩) ?_ ?_
         rotate_left
         ·intro w'
          go_simp
          with_reducible rfl
         rotate_left
         ·simp only [Act.put, List.setIfInBounds_toArray, List.set_cons_zero, List.set_cons_succ, i64_w, i32_w]
          rfl
         exact norm_ (by simp only [putAll, Act.put, List.setIfInBounds_toArray, List.set_cons_zero, List.set_cons_succ]) (hCont (.slice Ao188 t294.length co188, .slice Ao189 t298.length co189, v303, gb306) _ ⟨hHeld, (by (with_reducible repeat (first | apply Kd.R_alloc | apply Kd.R_drewN | apply Kd.R_drew)); exact Kd.R_mono HO296.out (fun _ hk => ⟨hk.1.2, ⟨hk.2, ⟨hk.1.1.1.1.1.2, ⟨hk.1.1.1.1.2, ⟨hk.1.1.1.2, hk.1.1.2⟩⟩⟩⟩⟩)), (by (with_reducible repeat (first | apply Kd.R_alloc | apply Kd.R_drewN | apply Kd.R_drew)); exact Kd.R_mono HO300.out (fun _ hk => ⟨hk.1.2, ⟨hk.2, ⟨hk.1.1.1.1.1.2, ⟨hk.1.1.1.1.2, ⟨hk.1.1.1.2, hk.1.1.2⟩⟩⟩⟩⟩)), (by (with_reducible repeat (first | apply Kd.R_alloc | apply Kd.R_drewN | apply Kd.R_drew)); exact Kd.R_mono HO304.out (fun _ hk => ⟨hk.1.2, ⟨hk.2, ⟨hk.1.1.1.1.1.2, ⟨hk.1.1.1.1.2, ⟨hk.1.1.1.2, hk.1.1.2⟩⟩⟩⟩⟩)), (by (with_reducible repeat (first | apply Kd.R_alloc | apply Kd.R_drewN | apply Kd.R_drew)); exact Kd.R_mono HO_258001.out (fun _ hk => ⟨hk.1.1.2, ⟨hk.1.2, ⟨hk.2, ⟨hk.1.1.1.1, ⟨hk.1.1.1.2.1, hk.1.1.1.2.2⟩⟩⟩⟩⟩)), (by (with_reducible repeat (first | apply Kd.R_alloc | apply Kd.R_drewN | apply Kd.R_drew)); exact Kd.R_mono HO_263001.out (fun _ hk => ⟨hk.1.1.2, ⟨hk.1.2, ⟨hk.2, ⟨hk.1.1.1.1, ⟨hk.1.1.1.2.1, hk.1.1.1.2.2⟩⟩⟩⟩⟩)), (by (with_reducible repeat (first | apply Kd.R_alloc | apply Kd.R_drewN | apply Kd.R_drew)); exact Kd.R_mono HO_268001.out (fun _ hk => ⟨hk.1.1.2, ⟨hk.1.2, ⟨hk.2, ⟨hk.1.1.1.1, ⟨hk.1.1.1.2.1, hk.1.1.1.2.2⟩⟩⟩⟩⟩)), (by (with_reducible repeat (first | apply Kd.R_alloc | apply Kd.R_drewN | apply Kd.R_drew)); exact Kd.R_mono HO_274001.out (fun _ hk => ⟨hk.1.1.2, ⟨hk.1.2, ⟨hk.2, ⟨hk.1.1.1.1, ⟨hk.1.1.1.2.1, hk.1.1.1.2.2⟩⟩⟩⟩⟩)), (by (with_reducible repeat (first | refine blk_drewN ?_ _ | refine blk_drew ?_ | refine blk_alloc ?_ _)); exact BK240.out), (by (with_reducible repeat (first | refine blk_drewN ?_ _ | refine blk_drew ?_ | refine blk_alloc ?_ _)); exact BK241.out), (by (with_reducible repeat (first | refine blk_drewN ?_ _ | refine blk_drew ?_ | refine blk_alloc ?_ _)); exact BK257.out), (by (with_reducible repeat (first | refine blk_drewN ?_ _ | refine blk_drew ?_ | refine blk_alloc ?_ _)); exact BK262.out), (by (with_reducible repeat (first | refine blk_drewN ?_ _ | refine blk_drew ?_ | refine blk_alloc ?_ _)); exact BK267.out), (by (with_reducible repeat (first | refine blk_drewN ?_ _ | refine blk_drew ?_ | refine blk_alloc ?_ _)); exact BK273.out), (by (with_reducible repeat (first | refine blk_drewN ?_ _ | refine blk_drew ?_ | refine blk_alloc ?_ _)); exact BK306.out), GW306.out, GE306.out, NB240_306.out, NB306_240.out, NB241_306.out, NB306_241.out, NB257_306.out, NB306_257.out, NB262_306.out, NB306_262.out, NB267_306.out, NB306_267.out, NB273_306.out, NB306_273.out, (by repeat (first | (with_reducible first | exact HB.out | apply below_alloc | apply pw_below_drewN | apply below_drew1 | refine below_set ?_ GE240.out | refine below_set ?_ GE241.out | refine below_set ?_ GE257.out | refine below_set ?_ GE262.out | refine below_set ?_ GE267.out | refine below_set ?_ GE273.out | refine below_set ?_ GE306.out) | exact HB.out))⟩)
       ·skip
        refine box_step ?hg (N := 15) ?hd (cs := #[.int .i64 0, .slice none 0 0]) (t := 25) ?hr ?_; (case hd => rfl); (case hg => rfl); (case hr => first | (go_simp; done) | (go_simp; rfl))
        intro gb306 hg w186 hbox hb
        have n0_ := Aside0.mk (Kd.R_below (by (with_reducible repeat (first | apply Kd.R_alloc | apply Kd.R_drewN | apply Kd.R_drew)); exact HO_258001.out) hb)
        have n1_ := Aside0.mk (Kd.R_below (by (with_reducible repeat (first | apply Kd.R_alloc | apply Kd.R_drewN | apply Kd.R_drew)); exact HO_263001.out) hb)
        have n2_ := Aside0.mk (Kd.R_below (by (with_reducible repeat (first | apply Kd.R_alloc | apply Kd.R_drewN | apply Kd.R_drew)); exact HO_268001.out) hb)
        have n3_ := Aside0.mk (Kd.R_below (by (with_reducible repeat (first | apply Kd.R_alloc | apply Kd.R_drewN | apply Kd.R_drew)); exact HO_274001.out) hb)
        have n4_ := Aside0.mk (Kd.R_below (by (with_reducible repeat (first | apply Kd.R_alloc | apply Kd.R_drewN | apply Kd.R_drew)); exact HO296.out) hb)
        have n5_ := Aside0.mk (blk_below (g := gb240) (o := .cells #[.int .i64 a0_0, .slice A0_1 l0_1.length c0_1] 34 (0, 0)) (by (with_reducible repeat (first | refine blk_drewN ?_ _ | refine blk_drew ?_ | refine blk_alloc ?_ _)); exact BK240.out) hb)
        have n6_ := Aside0.mk (blk_below (g := gb241) (o := .cells #[.int .i64 a1_0, .slice A1_1 l1_1.length c1_1] 34 (0, 0)) (by (with_reducible repeat (first | refine blk_drewN ?_ _ | refine blk_drew ?_ | refine blk_alloc ?_ _)); exact BK241.out) hb)
        have n7_ := Aside0.mk (blk_below (g := gb257) (o := .cells #[.int .i64 t252, .slice Ao42 t253.length co42] 25 (0, 0)) (by (with_reducible repeat (first | refine blk_drewN ?_ _ | refine blk_drew ?_ | refine blk_alloc ?_ _)); exact BK257.out) hb)
        have n8_ := Aside0.mk (blk_below (g := gb262) (o := .cells #[.int .i64 t258, .slice Ao52 t286.length co52] 25 (0, 0)) (by (with_reducible repeat (first | refine blk_drewN ?_ _ | refine blk_drew ?_ | refine blk_alloc ?_ _)); exact BK262.out) hb)
        have n9_ := Aside0.mk (blk_below (g := gb267) (o := .cells #[.int .i64 t263, .slice Ao62 t288.length co62] 25 (0, 0)) (by (with_reducible repeat (first | refine blk_drewN ?_ _ | refine blk_drew ?_ | refine blk_alloc ?_ _)); exact BK267.out) hb)
        have n10_ := Aside0.mk (blk_below (g := gb273) (o := .cells #[.int .i64 t268, .slice Ao72 t269.length co72] 25 (0, 0)) (by (with_reducible repeat (first | refine blk_drewN ?_ _ | refine blk_drew ?_ | refine blk_alloc ?_ _)); exact BK273.out) hb)
        have n11_ := Aside0.mk (below_step (by repeat (first | (with_reducible first | exact HB.out | apply below_alloc | apply pw_below_drewN | apply below_drew1 | refine below_set ?_ GE240.out | refine below_set ?_ GE241.out | refine below_set ?_ GE257.out | refine below_set ?_ GE262.out | refine below_set ?_ GE267.out | refine below_set ?_ GE273.out) | exact HB.out)) hb)
        have n12_ := Aside0.mk (hbox)
        have n13_ := Aside0.mk ((by rw [hg]; exact (below_size (by repeat (first | (with_reducible first | exact HB.out | apply below_alloc | apply pw_below_drewN | apply below_drew1 | refine below_set ?_ GE240.out | refine below_set ?_ GE241.out | refine below_set ?_ GE257.out | refine below_set ?_ GE262.out | refine below_set ?_ GE267.out | refine below_set ?_ GE273.out) | exact HB.out))) : w.heap.size ≤ gb306))
        have n14_ := n13_
        have n15_ := Aside0.mk ((by rw [hg]; exact Nat.ne_of_lt (blk_lt (g := gb240) (o := .cells #[.int .i64 a0_0, .slice A0_1 l0_1.length c0_1] 34 (0, 0)) (by (with_reducible repeat (first | refine blk_drewN ?_ _ | refine blk_drew ?_ | refine blk_alloc ?_ _)); exact BK240.out)) : gb240 ≠ gb306))
        have n16_ := Aside0.mk n15_.out.symm
        have n17_ := Aside0.mk ((by rw [hg]; exact Nat.ne_of_lt (blk_lt (g := gb241) (o := .cells #[.int .i64 a1_0, .slice A1_1 l1_1.length c1_1] 34 (0, 0)) (by (with_reducible repeat (first | refine blk_drewN ?_ _ | refine blk_drew ?_ | refine blk_alloc ?_ _)); exact BK241.out)) : gb241 ≠ gb306))
        have n18_ := Aside0.mk n17_.out.symm
        have n19_ := Aside0.mk ((by rw [hg]; exact Nat.ne_of_lt (blk_lt (g := gb257) (o := .cells #[.int .i64 t252, .slice Ao42 t253.length co42] 25 (0, 0)) (by (with_reducible repeat (first | refine blk_drewN ?_ _ | refine blk_drew ?_ | refine blk_alloc ?_ _)); exact BK257.out)) : gb257 ≠ gb306))
        have n20_ := Aside0.mk n19_.out.symm
        have n21_ := Aside0.mk ((by rw [hg]; exact Nat.ne_of_lt (blk_lt (g := gb262) (o := .cells #[.int .i64 t258, .slice Ao52 t286.length co52] 25 (0, 0)) (by (with_reducible repeat (first | refine blk_drewN ?_ _ | refine blk_drew ?_ | refine blk_alloc ?_ _)); exact BK262.out)) : gb262 ≠ gb306))
        have n22_ := Aside0.mk n21_.out.symm
        have n23_ := Aside0.mk ((by rw [hg]; exact Nat.ne_of_lt (blk_lt (g := gb267) (o := .cells #[.int .i64 t263, .slice Ao62 t288.length co62] 25 (0, 0)) (by (with_reducible repeat (first | refine blk_drewN ?_ _ | refine blk_drew ?_ | refine blk_alloc ?_ _)); exact BK267.out)) : gb267 ≠ gb306))
        have n24_ := Aside0.mk n23_.out.symm
        have n25_ := Aside0.mk ((by rw [hg]; exact Nat.ne_of_lt (blk_lt (g := gb273) (o := .cells #[.int .i64 t268, .slice Ao72 t269.length co72] 25 (0, 0)) (by (with_reducible repeat (first | refine blk_drewN ?_ _ | refine blk_drew ?_ | refine blk_alloc ?_ _)); exact BK273.out)) : gb273 ≠ gb306))
        have n26_ := Aside0.mk n25_.out.symm
        clear HO_258001
        clear HO_263001
        clear HO_268001
        clear HO_274001
        clear HO296
        clear BK240
        clear BK241
        clear BK257
        clear BK262
        clear BK267
        clear BK273
        clear HB
        have HO_258001 := n0_
        have HO_263001 := n1_
        have HO_268001 := n2_
        have HO_274001 := n3_
        have HO296 := n4_
        have BK240 := n5_
        have BK241 := n6_
        have BK257 := n7_
        have BK262 := n8_
        have BK267 := n9_
        have BK273 := n10_
        have HB := n11_
        have BK306 := n12_
        have GW306 := n13_
        have GE306 := n14_
        have NB240_306 := n15_
        have NB306_240 := n16_
        have NB241_306 := n17_
        have NB306_241 := n18_
        have NB257_306 := n19_
        have NB306_257 := n20_
        have NB262_306 := n21_
        have NB306_262 := n22_
        have NB267_306 := n23_
        have NB306_267 := n24_
        have NB273_306 := n25_
        have NB306_273 := n26_
        clear n0_ n1_ n2_ n3_ n4_ n5_ n6_ n7_ n8_ n9_ n10_ n11_ n12_ n13_ n14_ n15_ n16_ n17_ n18_ n19_ n20_ n21_ n22_ n23_ n24_ n25_ n26_
        clear hb hbox hg
        refine hK.out _ _ ⟨(blk_cell BK240.out 0).trans rfl, (blk_cell BK240.out 1).trans rfl, (blk_cell BK241.out 0).trans rfl, (blk_cell BK241.out 1).trans rfl⟩ (fun hHeld => ?_)
        clear hK K
        refine norm_ (a' := ?_) ?_ ?_
        rotate_left
        ·show Act.put _ (some 15) _ = _
         simp only [Act.put, List.setIfInBounds_toArray, List.set_cons_zero, List.set_cons_succ, i64_w, i32_w]
         rfl
        refine one_ (i := 3) (N := some 98) #[true, true, true, true, false, false, false, false, true, false, false] rfl rfl (one_of HT_.out (by kernel_rfl)) (by decide) (fun K hK => ?_)
        refine goes_ Try.func23 (by kernel_rfl) rfl #[.agg #[.int .i64 a1_0, .slice A1_1 l1_1.length c1_1]] (by rfl) rfl rfl (by (try simp only [List.map_toArray, List.map_cons, List.map_nil]); first | done | rfl | (simp only [List.length_drop, List.length_take]; rfl)) ?_
        with_reducible refine (laws_toBits.calls kj107 a1_0 _ _ l1_1 t297 t298 _ ?side1 ?side2 A172.out).mono ?_
        (case side1 => repeat (first | exact (Kd.C_below HR1_1.out HB.out) | (with_reducible refine Kd.C_alloc ?_ _) | (with_reducible refine Kd.C_drewN ?_ _) | (with_reducible refine Kd.C_drew ?_)))
        (case side2 => exact HC1_1.out)
        rintro e w187 ⟨v299, rfl, ho0, hb⟩
        refine ⟨_, rfl, ?_⟩
        have n0_ := Aside0.mk (Kd.R_elder' (by (with_reducible repeat (first | apply Kd.R_alloc | apply Kd.R_drewN | apply Kd.R_drew)); exact HO_258001.out) (Kd.R_base ho0) hb)
        have n1_ := Aside0.mk (Kd.R_elder' (by (with_reducible repeat (first | apply Kd.R_alloc | apply Kd.R_drewN | apply Kd.R_drew)); exact HO_263001.out) (Kd.R_base ho0) hb)
        have n2_ := Aside0.mk (Kd.R_elder' (by (with_reducible repeat (first | apply Kd.R_alloc | apply Kd.R_drewN | apply Kd.R_drew)); exact HO_268001.out) (Kd.R_base ho0) hb)
        have n3_ := Aside0.mk (Kd.R_elder' (by (with_reducible repeat (first | apply Kd.R_alloc | apply Kd.R_drewN | apply Kd.R_drew)); exact HO_274001.out) (Kd.R_base ho0) hb)
        have n4_ := Aside0.mk (Kd.R_elder' (by (with_reducible repeat (first | apply Kd.R_alloc | apply Kd.R_drewN | apply Kd.R_drew)); exact HO296.out) (Kd.R_base ho0) hb)
        have n5_ := Aside0.mk (Kd.R_lower (Kd.R_new' (Kd.R_new' (Kd.R_new' (Kd.R_new' (Kd.R_new' ho0 (Kd.R_lt (by (with_reducible repeat (first | apply Kd.R_alloc | apply Kd.R_drewN | apply Kd.R_drew)); exact HO_258001.out))) (Kd.R_lt (by (with_reducible repeat (first | apply Kd.R_alloc | apply Kd.R_drewN | apply Kd.R_drew)); exact HO_263001.out))) (Kd.R_lt (by (with_reducible repeat (first | apply Kd.R_alloc | apply Kd.R_drewN | apply Kd.R_drew)); exact HO_268001.out))) (Kd.R_lt (by (with_reducible repeat (first | apply Kd.R_alloc | apply Kd.R_drewN | apply Kd.R_drew)); exact HO_274001.out))) (Kd.R_lt (by (with_reducible repeat (first | apply Kd.R_alloc | apply Kd.R_drewN | apply Kd.R_drew)); exact HO296.out))) (below_size (by repeat (first | (with_reducible first | exact HB.out | apply below_alloc | apply pw_below_drewN | apply below_drew1 | refine below_set ?_ GE240.out | refine below_set ?_ GE241.out | refine below_set ?_ GE257.out | refine below_set ?_ GE262.out | refine below_set ?_ GE267.out | refine below_set ?_ GE273.out | refine below_set ?_ GE306.out) | exact HB.out))))
        have n6_ := Aside0.mk (blk_below (g := gb240) (o := .cells #[.int .i64 a0_0, .slice A0_1 l0_1.length c0_1] 34 (0, 0)) (by (with_reducible repeat (first | refine blk_drewN ?_ _ | refine blk_drew ?_ | refine blk_alloc ?_ _)); exact BK240.out) hb)
        have n7_ := Aside0.mk (blk_below (g := gb241) (o := .cells #[.int .i64 a1_0, .slice A1_1 l1_1.length c1_1] 34 (0, 0)) (by (with_reducible repeat (first | refine blk_drewN ?_ _ | refine blk_drew ?_ | refine blk_alloc ?_ _)); exact BK241.out) hb)
        have n8_ := Aside0.mk (blk_below (g := gb257) (o := .cells #[.int .i64 t252, .slice Ao42 t253.length co42] 25 (0, 0)) (by (with_reducible repeat (first | refine blk_drewN ?_ _ | refine blk_drew ?_ | refine blk_alloc ?_ _)); exact BK257.out) hb)
        have n9_ := Aside0.mk (blk_below (g := gb262) (o := .cells #[.int .i64 t258, .slice Ao52 t286.length co52] 25 (0, 0)) (by (with_reducible repeat (first | refine blk_drewN ?_ _ | refine blk_drew ?_ | refine blk_alloc ?_ _)); exact BK262.out) hb)
        have n10_ := Aside0.mk (blk_below (g := gb267) (o := .cells #[.int .i64 t263, .slice Ao62 t288.length co62] 25 (0, 0)) (by (with_reducible repeat (first | refine blk_drewN ?_ _ | refine blk_drew ?_ | refine blk_alloc ?_ _)); exact BK267.out) hb)
        have n11_ := Aside0.mk (blk_below (g := gb273) (o := .cells #[.int .i64 t268, .slice Ao72 t269.length co72] 25 (0, 0)) (by (with_reducible repeat (first | refine blk_drewN ?_ _ | refine blk_drew ?_ | refine blk_alloc ?_ _)); exact BK273.out) hb)
        have n12_ := Aside0.mk (blk_below (g := gb306) (o := .cells #[.int .i64 0, .slice none 0 0] 25 (0, 0)) (by (with_reducible repeat (first | refine blk_drewN ?_ _ | refine blk_drew ?_ | refine blk_alloc ?_ _)); exact BK306.out) hb)
        have n13_ := Aside0.mk (below_step (by repeat (first | (with_reducible first | exact HB.out | apply below_alloc | apply pw_below_drewN | apply below_drew1 | refine below_set ?_ GE240.out | refine below_set ?_ GE241.out | refine below_set ?_ GE257.out | refine below_set ?_ GE262.out | refine below_set ?_ GE267.out | refine below_set ?_ GE273.out | refine below_set ?_ GE306.out) | exact HB.out)) hb)
        clear HO_258001
        clear HO_263001
        clear HO_268001
        clear HO_274001
        clear HO296
        clear BK240
        clear BK241
        clear BK257
        clear BK262
        clear BK267
        clear BK273
        clear BK306
        clear HB
        have HO_258001 := n0_
        have HO_263001 := n1_
        have HO_268001 := n2_
        have HO_274001 := n3_
        have HO296 := n4_
        have HO300 := n5_
        have BK240 := n6_
        have BK241 := n7_
        have BK257 := n8_
        have BK262 := n9_
        have BK267 := n10_
        have BK273 := n11_
        have BK306 := n12_
        have HB := n13_
        clear n0_ n1_ n2_ n3_ n4_ n5_ n6_ n7_ n8_ n9_ n10_ n11_ n12_ n13_
        (try clear hb)
        (try clear hb2)
        (try clear hk)
        (try clear hi)
        (try clear ho0)
        obtain ⟨Ao188, co188, eo188⟩ := Kd.R_slice HO296.out
        (first | subst eo188 | (injection eo188 with f1_ f2_ f3_; have f4_ := f1_.symm; have f5_ := f3_.symm; clear f1_ f2_ f3_; subst f4_; subst f5_))
        obtain ⟨Ao189, co189, eo189⟩ := Kd.R_slice HO300.out
        (first | subst eo189 | (injection eo189 with f1_ f2_ f3_; have f4_ := f1_.symm; have f5_ := f3_.symm; clear f1_ f2_ f3_; subst f4_; subst f5_))
        refine hK.out _ _ ⟨(blk_cell BK240.out 0).trans rfl, (blk_cell BK240.out 1).trans rfl, (blk_cell BK241.out 0).trans rfl, (blk_cell BK241.out 1).trans rfl⟩ (fun hHeld => ?_)
        clear hK K
        refine norm_ (a' := ?_) ?_ ?_
        rotate_left
        ·show Act.put _ (some 98) _ = _
         simp only [Act.put, List.setIfInBounds_toArray, List.set_cons_zero, List.set_cons_succ, i64_w, i32_w]
         rfl
        refine one_ (i := 4) (N := some 99) #[true, true, true, true, true, false, false, false, true, false, false] rfl rfl (one_of HT_.out (by kernel_rfl)) (by decide) (fun K hK => ?_)
        refine goes_ Try.func37 (by kernel_rfl) rfl #[.agg #[.int .i64 t293, .slice Ao188 t294.length co188], .agg #[.int .i64 t297, .slice Ao189 t298.length co189]] (by rfl) rfl rfl (by (try simp only [List.map_toArray, List.map_cons, List.map_nil]); first | done | rfl | (simp only [List.length_drop, List.length_take]; rfl)) ?_
        with_reducible refine (impl_BitsJoin.calls kj107 t293 _ _ t294 t297 _ _ t298 t301 t302 t305 _ ?side1 ?side2 ?side3 ?side4 A173.out).mono ?_
        (case side1 => repeat (first | exact (Kd.R_reads' HO296.out).2.2 | (with_reducible refine Kd.C_alloc ?_ _) | (with_reducible refine Kd.C_drewN ?_ _) | (with_reducible refine Kd.C_drew ?_)))
        (case side2 => exact (Kd.R_reads' HO296.out).2.1)
        (case side3 => repeat (first | exact (Kd.R_reads' HO300.out).2.2 | (with_reducible refine Kd.C_alloc ?_ _) | (with_reducible refine Kd.C_drewN ?_ _) | (with_reducible refine Kd.C_drew ?_)))
        (case side4 => exact (Kd.R_reads' HO300.out).2.1)
        rintro e w190 ⟨v303, rfl, ho0, hb⟩
        refine ⟨_, rfl, ?_⟩
        have n0_ := Aside0.mk (Kd.R_elder' (by (with_reducible repeat (first | apply Kd.R_alloc | apply Kd.R_drewN | apply Kd.R_drew)); exact HO_258001.out) (Kd.R_base ho0) hb)
        have n1_ := Aside0.mk (Kd.R_elder' (by (with_reducible repeat (first | apply Kd.R_alloc | apply Kd.R_drewN | apply Kd.R_drew)); exact HO_263001.out) (Kd.R_base ho0) hb)
        have n2_ := Aside0.mk (Kd.R_elder' (by (with_reducible repeat (first | apply Kd.R_alloc | apply Kd.R_drewN | apply Kd.R_drew)); exact HO_268001.out) (Kd.R_base ho0) hb)
        have n3_ := Aside0.mk (Kd.R_elder' (by (with_reducible repeat (first | apply Kd.R_alloc | apply Kd.R_drewN | apply Kd.R_drew)); exact HO_274001.out) (Kd.R_base ho0) hb)
        have n4_ := Aside0.mk (Kd.R_elder' (by (with_reducible repeat (first | apply Kd.R_alloc | apply Kd.R_drewN | apply Kd.R_drew)); exact HO296.out) (Kd.R_base ho0) hb)
        have n5_ := Aside0.mk (Kd.R_elder' (by (with_reducible repeat (first | apply Kd.R_alloc | apply Kd.R_drewN | apply Kd.R_drew)); exact HO300.out) (Kd.R_base ho0) hb)
        have n6_ := Aside0.mk (Kd.R_lower (Kd.R_new' (Kd.R_new' (Kd.R_new' (Kd.R_new' (Kd.R_new' (Kd.R_new' ho0 (Kd.R_lt (by (with_reducible repeat (first | apply Kd.R_alloc | apply Kd.R_drewN | apply Kd.R_drew)); exact HO_258001.out))) (Kd.R_lt (by (with_reducible repeat (first | apply Kd.R_alloc | apply Kd.R_drewN | apply Kd.R_drew)); exact HO_263001.out))) (Kd.R_lt (by (with_reducible repeat (first | apply Kd.R_alloc | apply Kd.R_drewN | apply Kd.R_drew)); exact HO_268001.out))) (Kd.R_lt (by (with_reducible repeat (first | apply Kd.R_alloc | apply Kd.R_drewN | apply Kd.R_drew)); exact HO_274001.out))) (Kd.R_lt (by (with_reducible repeat (first | apply Kd.R_alloc | apply Kd.R_drewN | apply Kd.R_drew)); exact HO296.out))) (Kd.R_lt (by (with_reducible repeat (first | apply Kd.R_alloc | apply Kd.R_drewN | apply Kd.R_drew)); exact HO300.out))) (below_size (by repeat (first | (with_reducible first | exact HB.out | apply below_alloc | apply pw_below_drewN | apply below_drew1 | refine below_set ?_ GE240.out | refine below_set ?_ GE241.out | refine below_set ?_ GE257.out | refine below_set ?_ GE262.out | refine below_set ?_ GE267.out | refine below_set ?_ GE273.out | refine below_set ?_ GE306.out) | exact HB.out))))
        have n7_ := Aside0.mk (blk_below (g := gb240) (o := .cells #[.int .i64 a0_0, .slice A0_1 l0_1.length c0_1] 34 (0, 0)) (by (with_reducible repeat (first | refine blk_drewN ?_ _ | refine blk_drew ?_ | refine blk_alloc ?_ _)); exact BK240.out) hb)
        have n8_ := Aside0.mk (blk_below (g := gb241) (o := .cells #[.int .i64 a1_0, .slice A1_1 l1_1.length c1_1] 34 (0, 0)) (by (with_reducible repeat (first | refine blk_drewN ?_ _ | refine blk_drew ?_ | refine blk_alloc ?_ _)); exact BK241.out) hb)
        have n9_ := Aside0.mk (blk_below (g := gb257) (o := .cells #[.int .i64 t252, .slice Ao42 t253.length co42] 25 (0, 0)) (by (with_reducible repeat (first | refine blk_drewN ?_ _ | refine blk_drew ?_ | refine blk_alloc ?_ _)); exact BK257.out) hb)
        have n10_ := Aside0.mk (blk_below (g := gb262) (o := .cells #[.int .i64 t258, .slice Ao52 t286.length co52] 25 (0, 0)) (by (with_reducible repeat (first | refine blk_drewN ?_ _ | refine blk_drew ?_ | refine blk_alloc ?_ _)); exact BK262.out) hb)
        have n11_ := Aside0.mk (blk_below (g := gb267) (o := .cells #[.int .i64 t263, .slice Ao62 t288.length co62] 25 (0, 0)) (by (with_reducible repeat (first | refine blk_drewN ?_ _ | refine blk_drew ?_ | refine blk_alloc ?_ _)); exact BK267.out) hb)
        have n12_ := Aside0.mk (blk_below (g := gb273) (o := .cells #[.int .i64 t268, .slice Ao72 t269.length co72] 25 (0, 0)) (by (with_reducible repeat (first | refine blk_drewN ?_ _ | refine blk_drew ?_ | refine blk_alloc ?_ _)); exact BK273.out) hb)
        have n13_ := Aside0.mk (blk_below (g := gb306) (o := .cells #[.int .i64 0, .slice none 0 0] 25 (0, 0)) (by (with_reducible repeat (first | refine blk_drewN ?_ _ | refine blk_drew ?_ | refine blk_alloc ?_ _)); exact BK306.out) hb)
        have n14_ := Aside0.mk (below_step (by repeat (first | (with_reducible first | exact HB.out | apply below_alloc | apply pw_below_drewN | apply below_drew1 | refine below_set ?_ GE240.out | refine below_set ?_ GE241.out | refine below_set ?_ GE257.out | refine below_set ?_ GE262.out | refine below_set ?_ GE267.out | refine below_set ?_ GE273.out | refine below_set ?_ GE306.out) | exact HB.out)) hb)
        clear HO_258001
        clear HO_263001
        clear HO_268001
        clear HO_274001
        clear HO296
        clear HO300
        clear BK240
        clear BK241
        clear BK257
        clear BK262
        clear BK267
        clear BK273
        clear BK306
        clear HB
        have HO_258001 := n0_
        have HO_263001 := n1_
        have HO_268001 := n2_
        have HO_274001 := n3_
        have HO296 := n4_
        have HO300 := n5_
        have HO304 := n6_
        have BK240 := n7_
        have BK241 := n8_
        have BK257 := n9_
        have BK262 := n10_
        have BK267 := n11_
        have BK273 := n12_
        have BK306 := n13_
        have HB := n14_
        clear n0_ n1_ n2_ n3_ n4_ n5_ n6_ n7_ n8_ n9_ n10_ n11_ n12_ n13_ n14_
        (try clear hb)
        (try clear hb2)
        (try clear hk)
        (try clear hi)
        (try clear ho0)
        refine hK.out _ _ ⟨(blk_cell BK240.out 0).trans rfl, (blk_cell BK240.out 1).trans rfl, (blk_cell BK241.out 0).trans rfl, (blk_cell BK241.out 1).trans rfl⟩ (fun hHeld => ?_)
        clear hK K
        refine norm_ (a' := ?_) ?_ ?_
        rotate_left
        ·show Act.put _ (some 99) _ = _
         simp only [Act.put, List.setIfInBounds_toArray, List.set_cons_zero, List.set_cons_succ, i64_w, i32_w]
         rfl
        refine pure_ (i := 5) (N := some 94) (v := ?_) (a' := ?_) #[true, true, true, true, true, true, false, false, true, false, false] rfl rfl (any_of HT_.out (by kernel_rfl)) (fun _ _ _ h => h) (Or.inl ⟨by rfl, ?_⟩) ?_ ?_
        rotate_left
        ·intro w'
         go_simp
         with_reducible rfl
        rotate_left
        ·simp only [Act.put, List.setIfInBounds_toArray, List.set_cons_zero, List.set_cons_succ, i64_w, i32_w]
         rfl
        refine pure_ (i := 6) (N := some 100) (v := ?_) (a' := ?_) #[true, true, true, true, true, true, true, false, true, false, false] rfl rfl (any_of HT_.out (by kernel_rfl)) (fun _ _ _ h => h) (Or.inl ⟨by rfl, ?_⟩) ?_ ?_
        rotate_left
        ·intro w'
         go_simp
         with_reducible rfl
        rotate_left
        ·simp only [Act.put, List.setIfInBounds_toArray, List.set_cons_zero, List.set_cons_succ, i64_w, i32_w]
         rfl
        refine pure_ (i := 7) (N := some 101) (v := ?_) (a' := ?_) #[true, true, true, true, true, true, true, true, true, false, false] rfl rfl (any_of HT_.out (by kernel_rfl)) (fun _ _ _ h => h) (Or.inl ⟨by rfl, ?_⟩) ?_ ?_
        rotate_left
        ·intro w'
         go_simp
         with_reducible rfl
        rotate_left
        ·simp only [Act.put, List.setIfInBounds_toArray, List.set_cons_zero, List.set_cons_succ, i64_w, i32_w]
         rfl
        exact norm_ (by simp only [putAll, Act.put, List.setIfInBounds_toArray, List.set_cons_zero, List.set_cons_succ]) (hCont (.slice Ao188 t294.length co188, .slice Ao189 t298.length co189, v303, gb306) _ ⟨hHeld, (by (with_reducible repeat (first | apply Kd.R_alloc | apply Kd.R_drewN | apply Kd.R_drew)); exact Kd.R_mono HO296.out (fun _ hk => ⟨hk.1.2, ⟨hk.2, ⟨hk.1.1.1.1.1.2, ⟨hk.1.1.1.1.2, ⟨hk.1.1.1.2, hk.1.1.2⟩⟩⟩⟩⟩)), (by (with_reducible repeat (first | apply Kd.R_alloc | apply Kd.R_drewN | apply Kd.R_drew)); exact Kd.R_mono HO300.out (fun _ hk => ⟨hk.1.2, ⟨hk.2, ⟨hk.1.1.1.1.1.2, ⟨hk.1.1.1.1.2, ⟨hk.1.1.1.2, hk.1.1.2⟩⟩⟩⟩⟩)), (by (with_reducible repeat (first | apply Kd.R_alloc | apply Kd.R_drewN | apply Kd.R_drew)); exact Kd.R_mono HO304.out (fun _ hk => ⟨hk.1.2, ⟨hk.2, ⟨hk.1.1.1.1.1.2, ⟨hk.1.1.1.1.2, ⟨hk.1.1.1.2, hk.1.1.2⟩⟩⟩⟩⟩)), (by (with_reducible repeat (first | apply Kd.R_alloc | apply Kd.R_drewN | apply Kd.R_drew)); exact Kd.R_mono HO_258001.out (fun _ hk => ⟨hk.1.1.2, ⟨hk.1.2, ⟨hk.2, ⟨hk.1.1.1.1, ⟨hk.1.1.1.2.1, hk.1.1.1.2.2⟩⟩⟩⟩⟩)), (by (with_reducible repeat (first | apply Kd.R_alloc | apply Kd.R_drewN | apply Kd.R_drew)); exact Kd.R_mono HO_263001.out (fun _ hk => ⟨hk.1.1.2, ⟨hk.1.2, ⟨hk.2, ⟨hk.1.1.1.1, ⟨hk.1.1.1.2.1, hk.1.1.1.2.2⟩⟩⟩⟩⟩)), (by (with_reducible repeat (first | apply Kd.R_alloc | apply Kd.R_drewN | apply Kd.R_drew)); exact Kd.R_mono HO_268001.out (fun _ hk => ⟨hk.1.1.2, ⟨hk.1.2, ⟨hk.2, ⟨hk.1.1.1.1, ⟨hk.1.1.1.2.1, hk.1.1.1.2.2⟩⟩⟩⟩⟩)), (by (with_reducible repeat (first | apply Kd.R_alloc | apply Kd.R_drewN | apply Kd.R_drew)); exact Kd.R_mono HO_274001.out (fun _ hk => ⟨hk.1.1.2, ⟨hk.1.2, ⟨hk.2, ⟨hk.1.1.1.1, ⟨hk.1.1.1.2.1, hk.1.1.1.2.2⟩⟩⟩⟩⟩)), (by (with_reducible repeat (first | refine blk_drewN ?_ _ | refine blk_drew ?_ | refine blk_alloc ?_ _)); exact BK240.out), (by (with_reducible repeat (first | refine blk_drewN ?_ _ | refine blk_drew ?_ | refine blk_alloc ?_ _)); exact BK241.out), (by (with_reducible repeat (first | refine blk_drewN ?_ _ | refine blk_drew ?_ | refine blk_alloc ?_ _)); exact BK257.out), (by (with_reducible repeat (first | refine blk_drewN ?_ _ | refine blk_drew ?_ | refine blk_alloc ?_ _)); exact BK262.out), (by (with_reducible repeat (first | refine blk_drewN ?_ _ | refine blk_drew ?_ | refine blk_alloc ?_ _)); exact BK267.out), (by (with_reducible repeat (first | refine blk_drewN ?_ _ | refine blk_drew ?_ | refine blk_alloc ?_ _)); exact BK273.out), (by (with_reducible repeat (first | refine blk_drewN ?_ _ | refine blk_drew ?_ | refine blk_alloc ?_ _)); exact BK306.out), GW306.out, GE306.out, NB240_306.out, NB306_240.out, NB241_306.out, NB306_241.out, NB257_306.out, NB306_257.out, NB262_306.out, NB306_262.out, NB267_306.out, NB306_267.out, NB273_306.out, NB306_273.out, (by repeat (first | (with_reducible first | exact HB.out | apply below_alloc | apply pw_below_drewN | apply below_drew1 | refine below_set ?_ GE240.out | refine below_set ?_ GE241.out | refine below_set ?_ GE257.out | refine below_set ?_ GE262.out | refine below_set ?_ GE267.out | refine below_set ?_ GE273.out | refine below_set ?_ GE306.out) | exact HB.out))⟩)
      ·skip
       refine box_step ?hg (N := 15) ?hd (cs := #[.int .i64 0, .slice none 0 0]) (t := 25) ?hr ?_; (case hd => rfl); (case hg => rfl); (case hr => first | (go_simp; done) | (go_simp; rfl))
       intro gb306 hg w185 hbox hb
       have n0_ := Aside0.mk (Kd.R_below (by (with_reducible repeat (first | apply Kd.R_alloc | apply Kd.R_drewN | apply Kd.R_drew)); exact HO_258001.out) hb)
       have n1_ := Aside0.mk (Kd.R_below (by (with_reducible repeat (first | apply Kd.R_alloc | apply Kd.R_drewN | apply Kd.R_drew)); exact HO_263001.out) hb)
       have n2_ := Aside0.mk (Kd.R_below (by (with_reducible repeat (first | apply Kd.R_alloc | apply Kd.R_drewN | apply Kd.R_drew)); exact HO_268001.out) hb)
       have n3_ := Aside0.mk (Kd.R_below (by (with_reducible repeat (first | apply Kd.R_alloc | apply Kd.R_drewN | apply Kd.R_drew)); exact HO_274001.out) hb)
       have n4_ := Aside0.mk (blk_below (g := gb240) (o := .cells #[.int .i64 a0_0, .slice A0_1 l0_1.length c0_1] 34 (0, 0)) (by (with_reducible repeat (first | refine blk_drewN ?_ _ | refine blk_drew ?_ | refine blk_alloc ?_ _)); exact BK240.out) hb)
       have n5_ := Aside0.mk (blk_below (g := gb241) (o := .cells #[.int .i64 a1_0, .slice A1_1 l1_1.length c1_1] 34 (0, 0)) (by (with_reducible repeat (first | refine blk_drewN ?_ _ | refine blk_drew ?_ | refine blk_alloc ?_ _)); exact BK241.out) hb)
       have n6_ := Aside0.mk (blk_below (g := gb257) (o := .cells #[.int .i64 t252, .slice Ao42 t253.length co42] 25 (0, 0)) (by (with_reducible repeat (first | refine blk_drewN ?_ _ | refine blk_drew ?_ | refine blk_alloc ?_ _)); exact BK257.out) hb)
       have n7_ := Aside0.mk (blk_below (g := gb262) (o := .cells #[.int .i64 t258, .slice Ao52 t286.length co52] 25 (0, 0)) (by (with_reducible repeat (first | refine blk_drewN ?_ _ | refine blk_drew ?_ | refine blk_alloc ?_ _)); exact BK262.out) hb)
       have n8_ := Aside0.mk (blk_below (g := gb267) (o := .cells #[.int .i64 t263, .slice Ao62 t288.length co62] 25 (0, 0)) (by (with_reducible repeat (first | refine blk_drewN ?_ _ | refine blk_drew ?_ | refine blk_alloc ?_ _)); exact BK267.out) hb)
       have n9_ := Aside0.mk (blk_below (g := gb273) (o := .cells #[.int .i64 t268, .slice Ao72 t269.length co72] 25 (0, 0)) (by (with_reducible repeat (first | refine blk_drewN ?_ _ | refine blk_drew ?_ | refine blk_alloc ?_ _)); exact BK273.out) hb)
       have n10_ := Aside0.mk (below_step (by repeat (first | (with_reducible first | exact HB.out | apply below_alloc | apply pw_below_drewN | apply below_drew1 | refine below_set ?_ GE240.out | refine below_set ?_ GE241.out | refine below_set ?_ GE257.out | refine below_set ?_ GE262.out | refine below_set ?_ GE267.out | refine below_set ?_ GE273.out) | exact HB.out)) hb)
       have n11_ := Aside0.mk (hbox)
       have n12_ := Aside0.mk ((by rw [hg]; exact (below_size (by repeat (first | (with_reducible first | exact HB.out | apply below_alloc | apply pw_below_drewN | apply below_drew1 | refine below_set ?_ GE240.out | refine below_set ?_ GE241.out | refine below_set ?_ GE257.out | refine below_set ?_ GE262.out | refine below_set ?_ GE267.out | refine below_set ?_ GE273.out) | exact HB.out))) : w.heap.size ≤ gb306))
       have n13_ := n12_
       have n14_ := Aside0.mk ((by rw [hg]; exact Nat.ne_of_lt (blk_lt (g := gb240) (o := .cells #[.int .i64 a0_0, .slice A0_1 l0_1.length c0_1] 34 (0, 0)) (by (with_reducible repeat (first | refine blk_drewN ?_ _ | refine blk_drew ?_ | refine blk_alloc ?_ _)); exact BK240.out)) : gb240 ≠ gb306))
       have n15_ := Aside0.mk n14_.out.symm
       have n16_ := Aside0.mk ((by rw [hg]; exact Nat.ne_of_lt (blk_lt (g := gb241) (o := .cells #[.int .i64 a1_0, .slice A1_1 l1_1.length c1_1] 34 (0, 0)) (by (with_reducible repeat (first | refine blk_drewN ?_ _ | refine blk_drew ?_ | refine blk_alloc ?_ _)); exact BK241.out)) : gb241 ≠ gb306))
       have n17_ := Aside0.mk n16_.out.symm
       have n18_ := Aside0.mk ((by rw [hg]; exact Nat.ne_of_lt (blk_lt (g := gb257) (o := .cells #[.int .i64 t252, .slice Ao42 t253.length co42] 25 (0, 0)) (by (with_reducible repeat (first | refine blk_drewN ?_ _ | refine blk_drew ?_ | refine blk_alloc ?_ _)); exact BK257.out)) : gb257 ≠ gb306))
       have n19_ := Aside0.mk n18_.out.symm
       have n20_ := Aside0.mk ((by rw [hg]; exact Nat.ne_of_lt (blk_lt (g := gb262) (o := .cells #[.int .i64 t258, .slice Ao52 t286.length co52] 25 (0, 0)) (by (with_reducible repeat (first | refine blk_drewN ?_ _ | refine blk_drew ?_ | refine blk_alloc ?_ _)); exact BK262.out)) : gb262 ≠ gb306))
       have n21_ := Aside0.mk n20_.out.symm
       have n22_ := Aside0.mk ((by rw [hg]; exact Nat.ne_of_lt (blk_lt (g := gb267) (o := .cells #[.int .i64 t263, .slice Ao62 t288.length co62] 25 (0, 0)) (by (with_reducible repeat (first | refine blk_drewN ?_ _ | refine blk_drew ?_ | refine blk_alloc ?_ _)); exact BK267.out)) : gb267 ≠ gb306))
       have n23_ := Aside0.mk n22_.out.symm
       have n24_ := Aside0.mk ((by rw [hg]; exact Nat.ne_of_lt (blk_lt (g := gb273) (o := .cells #[.int .i64 t268, .slice Ao72 t269.length co72] 25 (0, 0)) (by (with_reducible repeat (first | refine blk_drewN ?_ _ | refine blk_drew ?_ | refine blk_alloc ?_ _)); exact BK273.out)) : gb273 ≠ gb306))
       have n25_ := Aside0.mk n24_.out.symm
       clear HO_258001
       clear HO_263001
       clear HO_268001
       clear HO_274001
       clear BK240
       clear BK241
       clear BK257
       clear BK262
       clear BK267
       clear BK273
       clear HB
       have HO_258001 := n0_
       have HO_263001 := n1_
       have HO_268001 := n2_
       have HO_274001 := n3_
       have BK240 := n4_
       have BK241 := n5_
       have BK257 := n6_
       have BK262 := n7_
       have BK267 := n8_
       have BK273 := n9_
       have HB := n10_
       have BK306 := n11_
       have GW306 := n12_
       have GE306 := n13_
       have NB240_306 := n14_
       have NB306_240 := n15_
       have NB241_306 := n16_
       have NB306_241 := n17_
       have NB257_306 := n18_
       have NB306_257 := n19_
       have NB262_306 := n20_
       have NB306_262 := n21_
       have NB267_306 := n22_
       have NB306_267 := n23_
       have NB273_306 := n24_
       have NB306_273 := n25_
       clear n0_ n1_ n2_ n3_ n4_ n5_ n6_ n7_ n8_ n9_ n10_ n11_ n12_ n13_ n14_ n15_ n16_ n17_ n18_ n19_ n20_ n21_ n22_ n23_ n24_ n25_
       clear hb hbox hg
       refine hK.out _ _ ⟨(blk_cell BK240.out 0).trans rfl, (blk_cell BK240.out 1).trans rfl, (blk_cell BK241.out 0).trans rfl, (blk_cell BK241.out 1).trans rfl⟩ (fun hHeld => ?_)
       clear hK K
       refine norm_ (a' := ?_) ?_ ?_
       rotate_left
       ·show Act.put _ (some 15) _ = _
        simp only [Act.put, List.setIfInBounds_toArray, List.set_cons_zero, List.set_cons_succ, i64_w, i32_w]
        rfl
       refine one_ (i := 1) (N := some 96) #[true, true, true, false, false, false, false, false, true, false, false] rfl rfl (one_of HT_.out (by kernel_rfl)) (by decide) (fun K hK => ?_)
       refine goes_ Try.func23 (by kernel_rfl) rfl #[.agg #[.int .i64 a0_0, .slice A0_1 l0_1.length c0_1]] (by rfl) rfl rfl (by (try simp only [List.map_toArray, List.map_cons, List.map_nil]); first | done | rfl | (simp only [List.length_drop, List.length_take]; rfl)) ?_
       with_reducible refine (laws_toBits.calls kj107 a0_0 _ _ l0_1 t293 t294 _ ?side1 ?side2 A171.out).mono ?_
       (case side1 => repeat (first | exact (Kd.C_below HR0_1.out HB.out) | (with_reducible refine Kd.C_alloc ?_ _) | (with_reducible refine Kd.C_drewN ?_ _) | (with_reducible refine Kd.C_drew ?_)))
       (case side2 => exact HC0_1.out)
       rintro e w186 ⟨v295, rfl, ho0, hb⟩
       refine ⟨_, rfl, ?_⟩
       have n0_ := Aside0.mk (Kd.R_elder' (by (with_reducible repeat (first | apply Kd.R_alloc | apply Kd.R_drewN | apply Kd.R_drew)); exact HO_258001.out) (Kd.R_base ho0) hb)
       have n1_ := Aside0.mk (Kd.R_elder' (by (with_reducible repeat (first | apply Kd.R_alloc | apply Kd.R_drewN | apply Kd.R_drew)); exact HO_263001.out) (Kd.R_base ho0) hb)
       have n2_ := Aside0.mk (Kd.R_elder' (by (with_reducible repeat (first | apply Kd.R_alloc | apply Kd.R_drewN | apply Kd.R_drew)); exact HO_268001.out) (Kd.R_base ho0) hb)
       have n3_ := Aside0.mk (Kd.R_elder' (by (with_reducible repeat (first | apply Kd.R_alloc | apply Kd.R_drewN | apply Kd.R_drew)); exact HO_274001.out) (Kd.R_base ho0) hb)
       have n4_ := Aside0.mk (Kd.R_lower (Kd.R_new' (Kd.R_new' (Kd.R_new' (Kd.R_new' ho0 (Kd.R_lt (by (with_reducible repeat (first | apply Kd.R_alloc | apply Kd.R_drewN | apply Kd.R_drew)); exact HO_258001.out))) (Kd.R_lt (by (with_reducible repeat (first | apply Kd.R_alloc | apply Kd.R_drewN | apply Kd.R_drew)); exact HO_263001.out))) (Kd.R_lt (by (with_reducible repeat (first | apply Kd.R_alloc | apply Kd.R_drewN | apply Kd.R_drew)); exact HO_268001.out))) (Kd.R_lt (by (with_reducible repeat (first | apply Kd.R_alloc | apply Kd.R_drewN | apply Kd.R_drew)); exact HO_274001.out))) (below_size (by repeat (first | (with_reducible first | exact HB.out | apply below_alloc | apply pw_below_drewN | apply below_drew1 | refine below_set ?_ GE240.out | refine below_set ?_ GE241.out | refine below_set ?_ GE257.out | refine below_set ?_ GE262.out | refine below_set ?_ GE267.out | refine below_set ?_ GE273.out | refine below_set ?_ GE306.out) | exact HB.out))))
       have n5_ := Aside0.mk (blk_below (g := gb240) (o := .cells #[.int .i64 a0_0, .slice A0_1 l0_1.length c0_1] 34 (0, 0)) (by (with_reducible repeat (first | refine blk_drewN ?_ _ | refine blk_drew ?_ | refine blk_alloc ?_ _)); exact BK240.out) hb)
       have n6_ := Aside0.mk (blk_below (g := gb241) (o := .cells #[.int .i64 a1_0, .slice A1_1 l1_1.length c1_1] 34 (0, 0)) (by (with_reducible repeat (first | refine blk_drewN ?_ _ | refine blk_drew ?_ | refine blk_alloc ?_ _)); exact BK241.out) hb)
       have n7_ := Aside0.mk (blk_below (g := gb257) (o := .cells #[.int .i64 t252, .slice Ao42 t253.length co42] 25 (0, 0)) (by (with_reducible repeat (first | refine blk_drewN ?_ _ | refine blk_drew ?_ | refine blk_alloc ?_ _)); exact BK257.out) hb)
       have n8_ := Aside0.mk (blk_below (g := gb262) (o := .cells #[.int .i64 t258, .slice Ao52 t286.length co52] 25 (0, 0)) (by (with_reducible repeat (first | refine blk_drewN ?_ _ | refine blk_drew ?_ | refine blk_alloc ?_ _)); exact BK262.out) hb)
       have n9_ := Aside0.mk (blk_below (g := gb267) (o := .cells #[.int .i64 t263, .slice Ao62 t288.length co62] 25 (0, 0)) (by (with_reducible repeat (first | refine blk_drewN ?_ _ | refine blk_drew ?_ | refine blk_alloc ?_ _)); exact BK267.out) hb)
       have n10_ := Aside0.mk (blk_below (g := gb273) (o := .cells #[.int .i64 t268, .slice Ao72 t269.length co72] 25 (0, 0)) (by (with_reducible repeat (first | refine blk_drewN ?_ _ | refine blk_drew ?_ | refine blk_alloc ?_ _)); exact BK273.out) hb)
       have n11_ := Aside0.mk (blk_below (g := gb306) (o := .cells #[.int .i64 0, .slice none 0 0] 25 (0, 0)) (by (with_reducible repeat (first | refine blk_drewN ?_ _ | refine blk_drew ?_ | refine blk_alloc ?_ _)); exact BK306.out) hb)
       have n12_ := Aside0.mk (below_step (by repeat (first | (with_reducible first | exact HB.out | apply below_alloc | apply pw_below_drewN | apply below_drew1 | refine below_set ?_ GE240.out | refine below_set ?_ GE241.out | refine below_set ?_ GE257.out | refine below_set ?_ GE262.out | refine below_set ?_ GE267.out | refine below_set ?_ GE273.out | refine below_set ?_ GE306.out) | exact HB.out)) hb)
       clear HO_258001
       clear HO_263001
       clear HO_268001
       clear HO_274001
       clear BK240
       clear BK241
       clear BK257
       clear BK262
       clear BK267
       clear BK273
       clear BK306
       clear HB
       have HO_258001 := n0_
       have HO_263001 := n1_
       have HO_268001 := n2_
       have HO_274001 := n3_
       have HO296 := n4_
       have BK240 := n5_
       have BK241 := n6_
       have BK257 := n7_
       have BK262 := n8_
       have BK267 := n9_
       have BK273 := n10_
       have BK306 := n11_
       have HB := n12_
       clear n0_ n1_ n2_ n3_ n4_ n5_ n6_ n7_ n8_ n9_ n10_ n11_ n12_
       (try clear hb)
       (try clear hb2)
       (try clear hk)
       (try clear hi)
       (try clear ho0)
       refine hK.out _ _ ⟨(blk_cell BK240.out 0).trans rfl, (blk_cell BK240.out 1).trans rfl, (blk_cell BK241.out 0).trans rfl, (blk_cell BK241.out 1).trans rfl⟩ (fun hHeld => ?_)
       clear hK K
       refine norm_ (a' := ?_) ?_ ?_
       rotate_left
       ·show Act.put _ (some 96) _ = _
        simp only [Act.put, List.setIfInBounds_toArray, List.set_cons_zero, List.set_cons_succ, i64_w, i32_w]
        rfl
       refine one_ (i := 3) (N := some 98) #[true, true, true, true, false, false, false, false, true, false, false] rfl rfl (one_of HT_.out (by kernel_rfl)) (by decide) (fun K hK => ?_)
       refine goes_ Try.func23 (by kernel_rfl) rfl #[.agg #[.int .i64 a1_0, .slice A1_1 l1_1.length c1_1]] (by rfl) rfl rfl (by (try simp only [List.map_toArray, List.map_cons, List.map_nil]); first | done | rfl | (simp only [List.length_drop, List.length_take]; rfl)) ?_
       with_reducible refine (laws_toBits.calls kj107 a1_0 _ _ l1_1 t297 t298 _ ?side1 ?side2 A172.out).mono ?_
       (case side1 => repeat (first | exact (Kd.C_below HR1_1.out HB.out) | (with_reducible refine Kd.C_alloc ?_ _) | (with_reducible refine Kd.C_drewN ?_ _) | (with_reducible refine Kd.C_drew ?_)))
       (case side2 => exact HC1_1.out)
       rintro e w187 ⟨v299, rfl, ho0, hb⟩
       refine ⟨_, rfl, ?_⟩
       have n0_ := Aside0.mk (Kd.R_elder' (by (with_reducible repeat (first | apply Kd.R_alloc | apply Kd.R_drewN | apply Kd.R_drew)); exact HO_258001.out) (Kd.R_base ho0) hb)
       have n1_ := Aside0.mk (Kd.R_elder' (by (with_reducible repeat (first | apply Kd.R_alloc | apply Kd.R_drewN | apply Kd.R_drew)); exact HO_263001.out) (Kd.R_base ho0) hb)
       have n2_ := Aside0.mk (Kd.R_elder' (by (with_reducible repeat (first | apply Kd.R_alloc | apply Kd.R_drewN | apply Kd.R_drew)); exact HO_268001.out) (Kd.R_base ho0) hb)
       have n3_ := Aside0.mk (Kd.R_elder' (by (with_reducible repeat (first | apply Kd.R_alloc | apply Kd.R_drewN | apply Kd.R_drew)); exact HO_274001.out) (Kd.R_base ho0) hb)
       have n4_ := Aside0.mk (Kd.R_elder' (by (with_reducible repeat (first | apply Kd.R_alloc | apply Kd.R_drewN | apply Kd.R_drew)); exact HO296.out) (Kd.R_base ho0) hb)
       have n5_ := Aside0.mk (Kd.R_lower (Kd.R_new' (Kd.R_new' (Kd.R_new' (Kd.R_new' (Kd.R_new' ho0 (Kd.R_lt (by (with_reducible repeat (first | apply Kd.R_alloc | apply Kd.R_drewN | apply Kd.R_drew)); exact HO_258001.out))) (Kd.R_lt (by (with_reducible repeat (first | apply Kd.R_alloc | apply Kd.R_drewN | apply Kd.R_drew)); exact HO_263001.out))) (Kd.R_lt (by (with_reducible repeat (first | apply Kd.R_alloc | apply Kd.R_drewN | apply Kd.R_drew)); exact HO_268001.out))) (Kd.R_lt (by (with_reducible repeat (first | apply Kd.R_alloc | apply Kd.R_drewN | apply Kd.R_drew)); exact HO_274001.out))) (Kd.R_lt (by (with_reducible repeat (first | apply Kd.R_alloc | apply Kd.R_drewN | apply Kd.R_drew)); exact HO296.out))) (below_size (by repeat (first | (with_reducible first | exact HB.out | apply below_alloc | apply pw_below_drewN | apply below_drew1 | refine below_set ?_ GE240.out | refine below_set ?_ GE241.out | refine below_set ?_ GE257.out | refine below_set ?_ GE262.out | refine below_set ?_ GE267.out | refine below_set ?_ GE273.out | refine below_set ?_ GE306.out) | exact HB.out))))
       have n6_ := Aside0.mk (blk_below (g := gb240) (o := .cells #[.int .i64 a0_0, .slice A0_1 l0_1.length c0_1] 34 (0, 0)) (by (with_reducible repeat (first | refine blk_drewN ?_ _ | refine blk_drew ?_ | refine blk_alloc ?_ _)); exact BK240.out) hb)
       have n7_ := Aside0.mk (blk_below (g := gb241) (o := .cells #[.int .i64 a1_0, .slice A1_1 l1_1.length c1_1] 34 (0, 0)) (by (with_reducible repeat (first | refine blk_drewN ?_ _ | refine blk_drew ?_ | refine blk_alloc ?_ _)); exact BK241.out) hb)
       have n8_ := Aside0.mk (blk_below (g := gb257) (o := .cells #[.int .i64 t252, .slice Ao42 t253.length co42] 25 (0, 0)) (by (with_reducible repeat (first | refine blk_drewN ?_ _ | refine blk_drew ?_ | refine blk_alloc ?_ _)); exact BK257.out) hb)
       have n9_ := Aside0.mk (blk_below (g := gb262) (o := .cells #[.int .i64 t258, .slice Ao52 t286.length co52] 25 (0, 0)) (by (with_reducible repeat (first | refine blk_drewN ?_ _ | refine blk_drew ?_ | refine blk_alloc ?_ _)); exact BK262.out) hb)
       have n10_ := Aside0.mk (blk_below (g := gb267) (o := .cells #[.int .i64 t263, .slice Ao62 t288.length co62] 25 (0, 0)) (by (with_reducible repeat (first | refine blk_drewN ?_ _ | refine blk_drew ?_ | refine blk_alloc ?_ _)); exact BK267.out) hb)
       have n11_ := Aside0.mk (blk_below (g := gb273) (o := .cells #[.int .i64 t268, .slice Ao72 t269.length co72] 25 (0, 0)) (by (with_reducible repeat (first | refine blk_drewN ?_ _ | refine blk_drew ?_ | refine blk_alloc ?_ _)); exact BK273.out) hb)
       have n12_ := Aside0.mk (blk_below (g := gb306) (o := .cells #[.int .i64 0, .slice none 0 0] 25 (0, 0)) (by (with_reducible repeat (first | refine blk_drewN ?_ _ | refine blk_drew ?_ | refine blk_alloc ?_ _)); exact BK306.out) hb)
       have n13_ := Aside0.mk (below_step (by repeat (first | (with_reducible first | exact HB.out | apply below_alloc | apply pw_below_drewN | apply below_drew1 | refine below_set ?_ GE240.out | refine below_set ?_ GE241.out | refine below_set ?_ GE257.out | refine below_set ?_ GE262.out | refine below_set ?_ GE267.out | refine below_set ?_ GE273.out | refine below_set ?_ GE306.out) | exact HB.out)) hb)
       clear HO_258001
       clear HO_263001
       clear HO_268001
       clear HO_274001
       clear HO296
       clear BK240
       clear BK241
       clear BK257
       clear BK262
       clear BK267
       clear BK273
       clear BK306
       clear HB
       have HO_258001 := n0_
       have HO_263001 := n1_
       have HO_268001 := n2_
       have HO_274001 := n3_
       have HO296 := n4_
       have HO300 := n5_
       have BK240 := n6_
       have BK241 := n7_
       have BK257 := n8_
       have BK262 := n9_
       have BK267 := n10_
       have BK273 := n11_
       have BK306 := n12_
       have HB := n13_
       clear n0_ n1_ n2_ n3_ n4_ n5_ n6_ n7_ n8_ n9_ n10_ n11_ n12_ n13_
       (try clear hb)
       (try clear hb2)
       (try clear hk)
       (try clear hi)
       (try clear ho0)
       obtain ⟨Ao188, co188, eo188⟩ := Kd.R_slice HO296.out
       (first | subst eo188 | (injection eo188 with f1_ f2_ f3_; have f4_ := f1_.symm; have f5_ := f3_.symm; clear f1_ f2_ f3_; subst f4_; subst f5_))
       obtain ⟨Ao189, co189, eo189⟩ := Kd.R_slice HO300.out
       (first | subst eo189 | (injection eo189 with f1_ f2_ f3_; have f4_ := f1_.symm; have f5_ := f3_.symm; clear f1_ f2_ f3_; subst f4_; subst f5_))
       refine hK.out _ _ ⟨(blk_cell BK240.out 0).trans rfl, (blk_cell BK240.out 1).trans rfl, (blk_cell BK241.out 0).trans rfl, (blk_cell BK241.out 1).trans rfl⟩ (fun hHeld => ?_)
       clear hK K
       refine norm_ (a' := ?_) ?_ ?_
       rotate_left
       ·show Act.put _ (some 98) _ = _
        simp only [Act.put, List.setIfInBounds_toArray, List.set_cons_zero, List.set_cons_succ, i64_w, i32_w]
        rfl
       refine one_ (i := 4) (N := some 99) #[true, true, true, true, true, false, false, false, true, false, false] rfl rfl (one_of HT_.out (by kernel_rfl)) (by decide) (fun K hK => ?_)
       refine goes_ Try.func37 (by kernel_rfl) rfl #[.agg #[.int .i64 t293, .slice Ao188 t294.length co188], .agg #[.int .i64 t297, .slice Ao189 t298.length co189]] (by rfl) rfl rfl (by (try simp only [List.map_toArray, List.map_cons, List.map_nil]); first | done | rfl | (simp only [List.length_drop, List.length_take]; rfl)) ?_
       with_reducible refine (impl_BitsJoin.calls kj107 t293 _ _ t294 t297 _ _ t298 t301 t302 t305 _ ?side1 ?side2 ?side3 ?side4 A173.out).mono ?_
       (case side1 => repeat (first | exact (Kd.R_reads' HO296.out).2.2 | (with_reducible refine Kd.C_alloc ?_ _) | (with_reducible refine Kd.C_drewN ?_ _) | (with_reducible refine Kd.C_drew ?_)))
       (case side2 => exact (Kd.R_reads' HO296.out).2.1)
       (case side3 => repeat (first | exact (Kd.R_reads' HO300.out).2.2 | (with_reducible refine Kd.C_alloc ?_ _) | (with_reducible refine Kd.C_drewN ?_ _) | (with_reducible refine Kd.C_drew ?_)))
       (case side4 => exact (Kd.R_reads' HO300.out).2.1)
       rintro e w190 ⟨v303, rfl, ho0, hb⟩
       refine ⟨_, rfl, ?_⟩
       have n0_ := Aside0.mk (Kd.R_elder' (by (with_reducible repeat (first | apply Kd.R_alloc | apply Kd.R_drewN | apply Kd.R_drew)); exact HO_258001.out) (Kd.R_base ho0) hb)
       have n1_ := Aside0.mk (Kd.R_elder' (by (with_reducible repeat (first | apply Kd.R_alloc | apply Kd.R_drewN | apply Kd.R_drew)); exact HO_263001.out) (Kd.R_base ho0) hb)
       have n2_ := Aside0.mk (Kd.R_elder' (by (with_reducible repeat (first | apply Kd.R_alloc | apply Kd.R_drewN | apply Kd.R_drew)); exact HO_268001.out) (Kd.R_base ho0) hb)
       have n3_ := Aside0.mk (Kd.R_elder' (by (with_reducible repeat (first | apply Kd.R_alloc | apply Kd.R_drewN | apply Kd.R_drew)); exact HO_274001.out) (Kd.R_base ho0) hb)
       have n4_ := Aside0.mk (Kd.R_elder' (by (with_reducible repeat (first | apply Kd.R_alloc | apply Kd.R_drewN | apply Kd.R_drew)); exact HO296.out) (Kd.R_base ho0) hb)
       have n5_ := Aside0.mk (Kd.R_elder' (by (with_reducible repeat (first | apply Kd.R_alloc | apply Kd.R_drewN | apply Kd.R_drew)); exact HO300.out) (Kd.R_base ho0) hb)
       have n6_ := Aside0.mk (Kd.R_lower (Kd.R_new' (Kd.R_new' (Kd.R_new' (Kd.R_new' (Kd.R_new' (Kd.R_new' ho0 (Kd.R_lt (by (with_reducible repeat (first | apply Kd.R_alloc | apply Kd.R_drewN | apply Kd.R_drew)); exact HO_258001.out))) (Kd.R_lt (by (with_reducible repeat (first | apply Kd.R_alloc | apply Kd.R_drewN | apply Kd.R_drew)); exact HO_263001.out))) (Kd.R_lt (by (with_reducible repeat (first | apply Kd.R_alloc | apply Kd.R_drewN | apply Kd.R_drew)); exact HO_268001.out))) (Kd.R_lt (by (with_reducible repeat (first | apply Kd.R_alloc | apply Kd.R_drewN | apply Kd.R_drew)); exact HO_274001.out))) (Kd.R_lt (by (with_reducible repeat (first | apply Kd.R_alloc | apply Kd.R_drewN | apply Kd.R_drew)); exact HO296.out))) (Kd.R_lt (by (with_reducible repeat (first | apply Kd.R_alloc | apply Kd.R_drewN | apply Kd.R_drew)); exact HO300.out))) (below_size (by repeat (first | (with_reducible first | exact HB.out | apply below_alloc | apply pw_below_drewN | apply below_drew1 | refine below_set ?_ GE240.out | refine below_set ?_ GE241.out | refine below_set ?_ GE257.out | refine below_set ?_ GE262.out | refine below_set ?_ GE267.out | refine below_set ?_ GE273.out | refine below_set ?_ GE306.out) | exact HB.out))))
       have n7_ := Aside0.mk (blk_below (g := gb240) (o := .cells #[.int .i64 a0_0, .slice A0_1 l0_1.length c0_1] 34 (0, 0)) (by (with_reducible repeat (first | refine blk_drewN ?_ _ | refine blk_drew ?_ | refine blk_alloc ?_ _)); exact BK240.out) hb)
       have n8_ := Aside0.mk (blk_below (g := gb241) (o := .cells #[.int .i64 a1_0, .slice A1_1 l1_1.length c1_1] 34 (0, 0)) (by (with_reducible repeat (first | refine blk_drewN ?_ _ | refine blk_drew ?_ | refine blk_alloc ?_ _)); exact BK241.out) hb)
       have n9_ := Aside0.mk (blk_below (g := gb257) (o := .cells #[.int .i64 t252, .slice Ao42 t253.length co42] 25 (0, 0)) (by (with_reducible repeat (first | refine blk_drewN ?_ _ | refine blk_drew ?_ | refine blk_alloc ?_ _)); exact BK257.out) hb)
       have n10_ := Aside0.mk (blk_below (g := gb262) (o := .cells #[.int .i64 t258, .slice Ao52 t286.length co52] 25 (0, 0)) (by (with_reducible repeat (first | refine blk_drewN ?_ _ | refine blk_drew ?_ | refine blk_alloc ?_ _)); exact BK262.out) hb)
       have n11_ := Aside0.mk (blk_below (g := gb267) (o := .cells #[.int .i64 t263, .slice Ao62 t288.length co62] 25 (0, 0)) (by (with_reducible repeat (first | refine blk_drewN ?_ _ | refine blk_drew ?_ | refine blk_alloc ?_ _)); exact BK267.out) hb)
       have n12_ := Aside0.mk (blk_below (g := gb273) (o := .cells #[.int .i64 t268, .slice Ao72 t269.length co72] 25 (0, 0)) (by (with_reducible repeat (first | refine blk_drewN ?_ _ | refine blk_drew ?_ | refine blk_alloc ?_ _)); exact BK273.out) hb)
       have n13_ := Aside0.mk (blk_below (g := gb306) (o := .cells #[.int .i64 0, .slice none 0 0] 25 (0, 0)) (by (with_reducible repeat (first | refine blk_drewN ?_ _ | refine blk_drew ?_ | refine blk_alloc ?_ _)); exact BK306.out) hb)
       have n14_ := Aside0.mk (below_step (by repeat (first | (with_reducible first | exact HB.out | apply below_alloc | apply pw_below_drewN | apply below_drew1 | refine below_set ?_ GE240.out | refine below_set ?_ GE241.out | refine below_set ?_ GE257.out | refine below_set ?_ GE262.out | refine below_set ?_ GE267.out | refine below_set ?_ GE273.out | refine below_set ?_ GE306.out) | exact HB.out)) hb)
       clear HO_258001
       clear HO_263001
       clear HO_268001
       clear HO_274001
       clear HO296
       clear HO300
       clear BK240
       clear BK241
       clear BK257
       clear BK262
       clear BK267
       clear BK273
       clear BK306
       clear HB
       have HO_258001 := n0_
       have HO_263001 := n1_
       have HO_268001 := n2_
       have HO_274001 := n3_
       have HO296 := n4_
       have HO300 := n5_
       have HO304 := n6_
       have BK240 := n7_
       have BK241 := n8_
       have BK257 := n9_
       have BK262 := n10_
       have BK267 := n11_
       have BK273 := n12_
       have BK306 := n13_
       have HB := n14_
       clear n0_ n1_ n2_ n3_ n4_ n5_ n6_ n7_ n8_ n9_ n10_ n11_ n12_ n13_ n14_
       (try clear hb)
       (try clear hb2)
       (try clear hk)
       (try clear hi)
       (try clear ho0)
       refine hK.out _ _ ⟨(blk_cell BK240.out 0).trans rfl, (blk_cell BK240.out 1).trans rfl, (blk_cell BK241.out 0).trans rfl, (blk_cell BK241.out 1).trans rfl⟩ (fun hHeld => ?_)
       clear hK K
       refine norm_ (a' := ?_) ?_ ?_
       rotate_left
       ·show Act.put _ (some 99) _ = _
        simp only [Act.put, List.setIfInBounds_toArray, List.set_cons_zero, List.set_cons_succ, i64_w, i32_w]
        rfl
       refine pure_ (i := 5) (N := some 94) (v := ?_) (a' := ?_) #[true, true, true, true, true, true, false, false, true, false, false] rfl rfl (any_of HT_.out (by kernel_rfl)) (fun _ _ _ h => h) (Or.inl ⟨by rfl, ?_⟩) ?_ ?_
       rotate_left
       ·intro w'
        go_simp
        with_reducible rfl
       rotate_left
       ·simp only [Act.put, List.setIfInBounds_toArray, List.set_cons_zero, List.set_cons_succ, i64_w, i32_w]
        rfl
       refine pure_ (i := 6) (N := some 100) (v := ?_) (a' := ?_) #[true, true, true, true, true, true, true, false, true, false, false] rfl rfl (any_of HT_.out (by kernel_rfl)) (fun _ _ _ h => h) (Or.inl ⟨by rfl, ?_⟩) ?_ ?_
       rotate_left
       ·intro w'
        go_simp
        with_reducible rfl
       rotate_left
       ·simp only [Act.put, List.setIfInBounds_toArray, List.set_cons_zero, List.set_cons_succ, i64_w, i32_w]
        rfl
       refine pure_ (i := 7) (N := some 101) (v := ?_) (a' := ?_) #[true, true, true, true, true, true, true, true, true, false, false] rfl rfl (any_of HT_.out (by kernel_rfl)) (fun _ _ _ h => h) (Or.inl ⟨by rfl, ?_⟩) ?_ ?_
       rotate_left
       ·intro w'
        go_simp
        with_reducible rfl
       rotate_left
       ·simp only [Act.put, List.setIfInBounds_toArray, List.set_cons_zero, List.set_cons_succ, i64_w, i32_w]
        rfl
       exact norm_ (by simp only [putAll, Act.put, List.setIfInBounds_toArray, List.set_cons_zero, List.set_cons_succ]) (hCont (.slice Ao188 t294.length co188, .slice Ao189 t298.length co189, v303, gb306) _ ⟨hHeld, (by (with_reducible repeat (first | apply Kd.R_alloc | apply Kd.R_drewN | apply Kd.R_drew)); exact Kd.R_mono HO296.out (fun _ hk => ⟨hk.1.2, ⟨hk.2, ⟨hk.1.1.1.1.1.2, ⟨hk.1.1.1.1.2, ⟨hk.1.1.1.2, hk.1.1.2⟩⟩⟩⟩⟩)), (by (with_reducible repeat (first | apply Kd.R_alloc | apply Kd.R_drewN | apply Kd.R_drew)); exact Kd.R_mono HO300.out (fun _ hk => ⟨hk.1.2, ⟨hk.2, ⟨hk.1.1.1.1.1.2, ⟨hk.1.1.1.1.2, ⟨hk.1.1.1.2, hk.1.1.2⟩⟩⟩⟩⟩)), (by (with_reducible repeat (first | apply Kd.R_alloc | apply Kd.R_drewN | apply Kd.R_drew)); exact Kd.R_mono HO304.out (fun _ hk => ⟨hk.1.2, ⟨hk.2, ⟨hk.1.1.1.1.1.2, ⟨hk.1.1.1.1.2, ⟨hk.1.1.1.2, hk.1.1.2⟩⟩⟩⟩⟩)), (by (with_reducible repeat (first | apply Kd.R_alloc | apply Kd.R_drewN | apply Kd.R_drew)); exact Kd.R_mono HO_258001.out (fun _ hk => ⟨hk.1.1.2, ⟨hk.1.2, ⟨hk.2, ⟨hk.1.1.1.1, ⟨hk.1.1.1.2.1, hk.1.1.1.2.2⟩⟩⟩⟩⟩)), (by (with_reducible repeat (first | apply Kd.R_alloc | apply Kd.R_drewN | apply Kd.R_drew)); exact Kd.R_mono HO_263001.out (fun _ hk => ⟨hk.1.1.2, ⟨hk.1.2, ⟨hk.2, ⟨hk.1.1.1.1, ⟨hk.1.1.1.2.1, hk.1.1.1.2.2⟩⟩⟩⟩⟩)), (by (with_reducible repeat (first | apply Kd.R_alloc | apply Kd.R_drewN | apply Kd.R_drew)); exact Kd.R_mono HO_268001.out (fun _ hk => ⟨hk.1.1.2, ⟨hk.1.2, ⟨hk.2, ⟨hk.1.1.1.1, ⟨hk.1.1.1.2.1, hk.1.1.1.2.2⟩⟩⟩⟩⟩)), (by (with_reducible repeat (first | apply Kd.R_alloc | apply Kd.R_drewN | apply Kd.R_drew)); exact Kd.R_mono HO_274001.out (fun _ hk => ⟨hk.1.1.2, ⟨hk.1.2, ⟨hk.2, ⟨hk.1.1.1.1, ⟨hk.1.1.1.2.1, hk.1.1.1.2.2⟩⟩⟩⟩⟩)), (by (with_reducible repeat (first | refine blk_drewN ?_ _ | refine blk_drew ?_ | refine blk_alloc ?_ _)); exact BK240.out), (by (with_reducible repeat (first | refine blk_drewN ?_ _ | refine blk_drew ?_ | refine blk_alloc ?_ _)); exact BK241.out), (by (with_reducible repeat (first | refine blk_drewN ?_ _ | refine blk_drew ?_ | refine blk_alloc ?_ _)); exact BK257.out), (by (with_reducible repeat (first | refine blk_drewN ?_ _ | refine blk_drew ?_ | refine blk_alloc ?_ _)); exact BK262.out), (by (with_reducible repeat (first | refine blk_drewN ?_ _ | refine blk_drew ?_ | refine blk_alloc ?_ _)); exact BK267.out), (by (with_reducible repeat (first | refine blk_drewN ?_ _ | refine blk_drew ?_ | refine blk_alloc ?_ _)); exact BK273.out), (by (with_reducible repeat (first | refine blk_drewN ?_ _ | refine blk_drew ?_ | refine blk_alloc ?_ _)); exact BK306.out), GW306.out, GE306.out, NB240_306.out, NB306_240.out, NB241_306.out, NB306_241.out, NB257_306.out, NB306_257.out, NB262_306.out, NB306_262.out, NB267_306.out, NB306_267.out, NB273_306.out, NB306_273.out, (by repeat (first | (with_reducible first | exact HB.out | apply below_alloc | apply pw_below_drewN | apply below_drew1 | refine below_set ?_ GE240.out | refine below_set ?_ GE241.out | refine below_set ?_ GE257.out | refine below_set ?_ GE262.out | refine below_set ?_ GE267.out | refine below_set ?_ GE273.out | refine below_set ?_ GE306.out) | exact HB.out))⟩)
     rintro ⟨v295, v299, v303, gb306⟩ w191 ⟨hS_, h0_, h1_, h2_, h3_, h4_, h5_, h6_, h7_, h8_, h9_, h10_, h11_, h12_, h13_, h14_, h15_, h16_, h17_, h18_, h19_, h20_, h21_, h22_, h23_, h24_, h25_, h26_, h27_, h28_⟩
     have n0_ : Aside0 (Kd.R (Kd.int .u64) 53 w191 w.heap.size (fun k_ => some k_ ≠ (v299 : Value).ownBlock ∧ some k_ ≠ (v303 : Value).ownBlock ∧ some k_ ≠ (.slice Ao42 t253.length co42 : Value).ownBlock ∧ some k_ ≠ (.slice Ao52 t286.length co52 : Value).ownBlock ∧ some k_ ≠ (.slice Ao62 t288.length co62 : Value).ownBlock ∧ some k_ ≠ (.slice Ao72 t269.length co72 : Value).ownBlock) v295 t294) := ⟨h0_⟩
     have n1_ : Aside0 (Kd.R (Kd.int .u64) 53 w191 w.heap.size (fun k_ => some k_ ≠ (v295 : Value).ownBlock ∧ some k_ ≠ (v303 : Value).ownBlock ∧ some k_ ≠ (.slice Ao42 t253.length co42 : Value).ownBlock ∧ some k_ ≠ (.slice Ao52 t286.length co52 : Value).ownBlock ∧ some k_ ≠ (.slice Ao62 t288.length co62 : Value).ownBlock ∧ some k_ ≠ (.slice Ao72 t269.length co72 : Value).ownBlock) v299 t298) := ⟨h1_⟩
     have n2_ : Aside0 (Kd.R (Kd.int .u64) 53 w191 w.heap.size (fun k_ => some k_ ≠ (v295 : Value).ownBlock ∧ some k_ ≠ (v299 : Value).ownBlock ∧ some k_ ≠ (.slice Ao42 t253.length co42 : Value).ownBlock ∧ some k_ ≠ (.slice Ao52 t286.length co52 : Value).ownBlock ∧ some k_ ≠ (.slice Ao62 t288.length co62 : Value).ownBlock ∧ some k_ ≠ (.slice Ao72 t269.length co72 : Value).ownBlock) v303 t302) := ⟨h2_⟩
     have n3_ : Aside0 (Kd.R (Kd.int .u64) 53 w191 w.heap.size (fun k_ => some k_ ≠ (v295 : Value).ownBlock ∧ some k_ ≠ (v299 : Value).ownBlock ∧ some k_ ≠ (v303 : Value).ownBlock ∧ some k_ ≠ (.slice Ao52 t286.length co52 : Value).ownBlock ∧ some k_ ≠ (.slice Ao62 t288.length co62 : Value).ownBlock ∧ some k_ ≠ (.slice Ao72 t269.length co72 : Value).ownBlock) (.slice Ao42 t253.length co42) t253) := ⟨h3_⟩
     have n4_ : Aside0 (Kd.R (Kd.int .u64) 53 w191 w.heap.size (fun k_ => some k_ ≠ (v295 : Value).ownBlock ∧ some k_ ≠ (v299 : Value).ownBlock ∧ some k_ ≠ (v303 : Value).ownBlock ∧ some k_ ≠ (.slice Ao42 t253.length co42 : Value).ownBlock ∧ some k_ ≠ (.slice Ao62 t288.length co62 : Value).ownBlock ∧ some k_ ≠ (.slice Ao72 t269.length co72 : Value).ownBlock) (.slice Ao52 t286.length co52) t286) := ⟨h4_⟩
     have n5_ : Aside0 (Kd.R (Kd.int .u64) 53 w191 w.heap.size (fun k_ => some k_ ≠ (v295 : Value).ownBlock ∧ some k_ ≠ (v299 : Value).ownBlock ∧ some k_ ≠ (v303 : Value).ownBlock ∧ some k_ ≠ (.slice Ao42 t253.length co42 : Value).ownBlock ∧ some k_ ≠ (.slice Ao52 t286.length co52 : Value).ownBlock ∧ some k_ ≠ (.slice Ao72 t269.length co72 : Value).ownBlock) (.slice Ao62 t288.length co62) t288) := ⟨h5_⟩
     have n6_ : Aside0 (Kd.R (Kd.int .u64) 53 w191 w.heap.size (fun k_ => some k_ ≠ (v295 : Value).ownBlock ∧ some k_ ≠ (v299 : Value).ownBlock ∧ some k_ ≠ (v303 : Value).ownBlock ∧ some k_ ≠ (.slice Ao42 t253.length co42 : Value).ownBlock ∧ some k_ ≠ (.slice Ao52 t286.length co52 : Value).ownBlock ∧ some k_ ≠ (.slice Ao62 t288.length co62 : Value).ownBlock) (.slice Ao72 t269.length co72) t291) := ⟨h6_⟩
     have n7_ : Aside0 (w191.heap[gb240]? = some (.cells #[.int .i64 a0_0, .slice A0_1 l0_1.length c0_1] 34 (0, 0))) := ⟨h7_⟩
     have n8_ : Aside0 (w191.heap[gb241]? = some (.cells #[.int .i64 a1_0, .slice A1_1 l1_1.length c1_1] 34 (0, 0))) := ⟨h8_⟩
     have n9_ : Aside0 (w191.heap[gb257]? = some (.cells #[.int .i64 t252, .slice Ao42 t253.length co42] 25 (0, 0))) := ⟨h9_⟩
     have n10_ : Aside0 (w191.heap[gb262]? = some (.cells #[.int .i64 t258, .slice Ao52 t286.length co52] 25 (0, 0))) := ⟨h10_⟩
     have n11_ : Aside0 (w191.heap[gb267]? = some (.cells #[.int .i64 t263, .slice Ao62 t288.length co62] 25 (0, 0))) := ⟨h11_⟩
     have n12_ : Aside0 (w191.heap[gb273]? = some (.cells #[.int .i64 t268, .slice Ao72 t269.length co72] 25 (0, 0))) := ⟨h12_⟩
     have n13_ : Aside0 (w191.heap[gb306]? = some (.cells #[.int .i64 0, .slice none 0 0] 25 (0, 0))) := ⟨h13_⟩
     have n14_ : Aside0 (w.heap.size ≤ gb306) := ⟨h14_⟩
     have n15_ : Aside0 (w.heap.size ≤ gb306) := ⟨h15_⟩
     have n16_ : Aside0 (gb240 ≠ gb306) := ⟨h16_⟩
     have n17_ : Aside0 (gb306 ≠ gb240) := ⟨h17_⟩
     have n18_ : Aside0 (gb241 ≠ gb306) := ⟨h18_⟩
     have n19_ : Aside0 (gb306 ≠ gb241) := ⟨h19_⟩
     have n20_ : Aside0 (gb257 ≠ gb306) := ⟨h20_⟩
     have n21_ : Aside0 (gb306 ≠ gb257) := ⟨h21_⟩
     have n22_ : Aside0 (gb262 ≠ gb306) := ⟨h22_⟩
     have n23_ : Aside0 (gb306 ≠ gb262) := ⟨h23_⟩
     have n24_ : Aside0 (gb267 ≠ gb306) := ⟨h24_⟩
     have n25_ : Aside0 (gb306 ≠ gb267) := ⟨h25_⟩
     have n26_ : Aside0 (gb273 ≠ gb306) := ⟨h26_⟩
     have n27_ : Aside0 (gb306 ≠ gb273) := ⟨h27_⟩
     have n28_ : Aside0 (Below w.heap.size w w191) := ⟨h28_⟩
     clear HO_258001
     clear HO_263001
     clear HO_268001
     clear HO_274001
     clear BK240
     clear BK241
     clear BK257
     clear BK262
     clear BK267
     clear BK273
     clear HB
     clear h0_ h1_ h2_ h3_ h4_ h5_ h6_ h7_ h8_ h9_ h10_ h11_ h12_ h13_ h14_ h15_ h16_ h17_ h18_ h19_ h20_ h21_ h22_ h23_ h24_ h25_ h26_ h27_ h28_
     have HO296 := n0_
     have HO300 := n1_
     have HO304 := n2_
     have HO_258001 := n3_
     have HO_263001 := n4_
     have HO_268001 := n5_
     have HO_274001 := n6_
     have BK240 := n7_
     have BK241 := n8_
     have BK257 := n9_
     have BK262 := n10_
     have BK267 := n11_
     have BK273 := n12_
     have BK306 := n13_
     have GW306 := n14_
     have GE306 := n15_
     have NB240_306 := n16_
     have NB306_240 := n17_
     have NB241_306 := n18_
     have NB306_241 := n19_
     have NB257_306 := n20_
     have NB306_257 := n21_
     have NB262_306 := n22_
     have NB306_262 := n23_
     have NB267_306 := n24_
     have NB306_267 := n25_
     have NB273_306 := n26_
     have NB306_273 := n27_
     have HB := n28_
     clear n0_ n1_ n2_ n3_ n4_ n5_ n6_ n7_ n8_ n9_ n10_ n11_ n12_ n13_ n14_ n15_ n16_ n17_ n18_ n19_ n20_ n21_ n22_ n23_ n24_ n25_ n26_ n27_ n28_
     have hHeld : w191.cell? ⟨gb240, 0, none⟩ = some (.int .i64 a0_0) ∧ w191.cell? ⟨gb240, 1, none⟩ = some (.slice A0_1 l0_1.length c0_1) ∧ w191.cell? ⟨gb241, 0, none⟩ = some (.int .i64 a1_0) ∧ w191.cell? ⟨gb241, 1, none⟩ = some (.slice A1_1 l1_1.length c1_1) := hS_
     obtain ⟨Ao193, co193, eo193⟩ := Kd.R_slice HO304.out
     (first | subst eo193 | (injection eo193 with f1_ f2_ f3_; have f4_ := f1_.symm; have f5_ := f3_.symm; clear f1_ f2_ f3_; subst f4_; subst f5_))
     refine norm_ (a' := ?_) ?_ ?_
     rotate_left
     ·simp only [putAll, Act.put, List.setIfInBounds_toArray, List.set_cons_zero, List.set_cons_succ]
      rfl
     refine one_ (i := 9) (N := none) #[true, true, true, true, true, true, true, true, true, true, false] rfl rfl (one_of HT_.out (by kernel_rfl)) (by decide) (fun K hK => ?_)
     have hs192 : w191.cell? ⟨gb306, 0, none⟩ = some (.int .i64 0) := (blk_cell BK306.out 0).trans rfl
     have hfs192 := blk_frozen BK306.out 0
     have hns192_0 := NB240_306.out
     have hns192_1 := NB241_306.out
     have hns192_2 := NB257_306.out
     have hns192_3 := NB262_306.out
     have hns192_4 := NB267_306.out
     have hns192_5 := NB273_306.out
     have hms192_0 := NB306_240.out
     have hms192_1 := NB306_241.out
     have hms192_2 := NB306_257.out
     have hms192_3 := NB306_262.out
     have hms192_4 := NB306_267.out
     have hms192_5 := NB306_273.out
     have hs194 : w191.cell? ⟨gb306, 1, none⟩ = some (.slice none 0 0) := (blk_cell BK306.out 1).trans rfl
     have hfs194 := blk_frozen BK306.out 1
     have hns194_0 := NB240_306.out
     have hns194_1 := NB241_306.out
     have hns194_2 := NB257_306.out
     have hns194_3 := NB262_306.out
     have hns194_4 := NB267_306.out
     have hns194_5 := NB273_306.out
     have hms194_0 := NB306_240.out
     have hms194_1 := NB306_241.out
     have hms194_2 := NB306_257.out
     have hms194_3 := NB306_262.out
     have hms194_4 := NB306_267.out
     have hms194_5 := NB306_273.out
     refine skip_ (w1 := ?_) (by rfl) rfl ?_ ?_
     rotate_left
     ·go_simp
      rfl
     refine hK.out _ _ ⟨((cell_far (p := ⟨gb306, _, none⟩) NB240_306.out _).trans (((cell_far (p := ⟨gb306, _, none⟩) NB240_306.out _).trans (hHeld.1)))), ((cell_far (p := ⟨gb306, _, none⟩) NB240_306.out _).trans (((cell_far (p := ⟨gb306, _, none⟩) NB240_306.out _).trans (hHeld.2.1)))), ((cell_far (p := ⟨gb306, _, none⟩) NB241_306.out _).trans (((cell_far (p := ⟨gb306, _, none⟩) NB241_306.out _).trans (hHeld.2.2.1)))), ((cell_far (p := ⟨gb306, _, none⟩) NB241_306.out _).trans (((cell_far (p := ⟨gb306, _, none⟩) NB241_306.out _).trans (hHeld.2.2.2))))⟩ (fun hHeld => ?_)
     clear hK K
     refine pure_ (i := 10) (N := some 16) (v := ?_) (a' := ?_) #[true, true, true, true, true, true, true, true, true, true, true] rfl rfl (any_of HT_.out (by kernel_rfl)) (fun _ _ _ h => h) (Or.inl ⟨by rfl, ?_⟩) ?_ ?_
     rotate_left
     ·intro w'
      go_simp
      with_reducible rfl
     rotate_left
     ·simp only [Act.put, List.setIfInBounds_toArray, List.set_cons_zero, List.set_cons_succ, i64_w, i32_w]
      rfl
     refine done_ (done_of HT_.out (by kernel_rfl)) ?_
     go_upto_region 32 with (fail)
     go_cut [110] (fun v110 wc => ∃ (kq : Nat) (x110_173 : Bool), v110 = .bool x110_173 ∧ Aside0 (laws_FnExactBitsJoin.j2 kq t290 x110_173 t268 t291 = some r) ∧ Aside0 (kq ≤ kj107) ∧ Aside0 (Kd.R (Kd.int .u64) 53 wc w.heap.size (fun k_ => some k_ ≠ ((.slice Ao52 t286.length co52) : Value).ownBlock ∧ some k_ ≠ ((.slice Ao62 t288.length co62) : Value).ownBlock ∧ some k_ ≠ ((.slice Ao72 t269.length co72) : Value).ownBlock ∧ some k_ ≠ ((.slice Ao193 t302.length co193) : Value).ownBlock) (.slice Ao42 t253.length co42) t253) ∧ Aside0 (Kd.R (Kd.int .u64) 53 wc w.heap.size (fun k_ => some k_ ≠ ((.slice Ao42 t253.length co42) : Value).ownBlock ∧ some k_ ≠ ((.slice Ao62 t288.length co62) : Value).ownBlock ∧ some k_ ≠ ((.slice Ao72 t269.length co72) : Value).ownBlock ∧ some k_ ≠ ((.slice Ao193 t302.length co193) : Value).ownBlock) (.slice Ao52 t286.length co52) t286) ∧ Aside0 (Kd.R (Kd.int .u64) 53 wc w.heap.size (fun k_ => some k_ ≠ ((.slice Ao42 t253.length co42) : Value).ownBlock ∧ some k_ ≠ ((.slice Ao52 t286.length co52) : Value).ownBlock ∧ some k_ ≠ ((.slice Ao72 t269.length co72) : Value).ownBlock ∧ some k_ ≠ ((.slice Ao193 t302.length co193) : Value).ownBlock) (.slice Ao62 t288.length co62) t288) ∧ Aside0 (Kd.R (Kd.int .u64) 53 wc w.heap.size (fun k_ => some k_ ≠ ((.slice Ao42 t253.length co42) : Value).ownBlock ∧ some k_ ≠ ((.slice Ao52 t286.length co52) : Value).ownBlock ∧ some k_ ≠ ((.slice Ao62 t288.length co62) : Value).ownBlock ∧ some k_ ≠ ((.slice Ao193 t302.length co193) : Value).ownBlock) (.slice Ao72 t269.length co72) t291) ∧ Aside0 (Kd.R (Kd.int .u64) 53 wc w.heap.size (fun k_ => some k_ ≠ ((.slice Ao42 t253.length co42) : Value).ownBlock ∧ some k_ ≠ ((.slice Ao52 t286.length co52) : Value).ownBlock ∧ some k_ ≠ ((.slice Ao62 t288.length co62) : Value).ownBlock ∧ some k_ ≠ ((.slice Ao72 t269.length co72) : Value).ownBlock) (.slice Ao193 t302.length co193) t302) ∧ Aside0 (wc.heap[gb240]? = some (.cells #[.int .i64 a0_0, (.slice A0_1 l0_1.length c0_1)] 34 (0, 0))) ∧ Aside0 (wc.heap[gb241]? = some (.cells #[.int .i64 a1_0, (.slice A1_1 l1_1.length c1_1)] 34 (0, 0))) ∧ Aside0 (wc.heap[gb257]? = some (.cells #[.int .i64 t252, (.slice Ao42 t253.length co42)] 25 (0, 0))) ∧ Aside0 (wc.heap[gb262]? = some (.cells #[.int .i64 t258, (.slice Ao52 t286.length co52)] 25 (0, 0))) ∧ Aside0 (wc.heap[gb267]? = some (.cells #[.int .i64 t263, (.slice Ao62 t288.length co62)] 25 (0, 0))) ∧ Aside0 (wc.heap[gb273]? = some (.cells #[.int .i64 t268, (.slice Ao72 t269.length co72)] 25 (0, 0))) ∧ Aside0 (wc.heap[gb306]? = some (.cells #[.int .i64 t301, (.slice Ao193 t302.length co193)] 25 (0, 0))) ∧ Aside0 (Below w.heap.size w wc))
     case first =>
      have H := HC174.out
      clear HC174
      replace H := Option.bind_eq_some_iff.mp H
      obtain ⟨t307, A1950, H⟩ := H
      replace H : (if t307 = true then (laws_FnExactBitsJoin.j2 kj107 t290 (t305 != t256) t268 t291) else (laws_FnExactBitsJoin.j2 kj107 t290 true t268 t291)) = some r := H
      have A195 := Aside0.mk A1950
      clear A1950
      by_cases c196 : t307 = true
      ·subst c196
       have H1 : (laws_FnExactBitsJoin.j2 kj107 t290 (t305 != t256) t268 t291) = some r := by rw [if_pos rfl] at H; exact H
       clear H
       have H := H1
       clear H1
       have H' := Aside0.mk H
       clear H
       have hnb197 := NB306_240.out
       have hnc197 := NB240_306.out
       have hnb198 := NB306_241.out
       have hnc198 := NB241_306.out
       have hnb199 := NB306_257.out
       have hnc199 := NB257_306.out
       have hnb200 := NB306_262.out
       have hnc200 := NB262_306.out
       have hnb201 := NB306_267.out
       have hnc201 := NB267_306.out
       have hnb202 := NB306_273.out
       have hnc202 := NB273_306.out
       have hcz203_0 : w191.cell? ⟨gb306, 0, none⟩ = some (.int .i64 0) := (blk_cell BK306.out 0).trans rfl
       have hcz203_1 : w191.cell? ⟨gb306, 1, none⟩ = some (.slice none 0 0) := (blk_cell BK306.out 1).trans rfl
       have hfz203_0 := blk_frozen BK306.out 0
       have hfz203_1 := blk_frozen BK306.out 1
       have hnb204 := NB257_240.out
       have hnc204 := NB240_257.out
       have hnb205 := NB257_241.out
       have hnc205 := NB241_257.out
       have hnb206 := NB257_262.out
       have hnc206 := NB262_257.out
       have hnb207 := NB257_267.out
       have hnc207 := NB267_257.out
       have hnb208 := NB257_273.out
       have hnc208 := NB273_257.out
       have hcz209_0 : w191.cell? ⟨gb257, 0, none⟩ = some (.int .i64 t252) := (blk_cell BK257.out 0).trans rfl
       have hcz209_1 : w191.cell? ⟨gb257, 1, none⟩ = some (.slice Ao42 t253.length co42) := (blk_cell BK257.out 1).trans rfl
       have hfz209_0 := blk_frozen BK257.out 0
       have hfz209_1 := blk_frozen BK257.out 1
       go_wp2_with (first | ((with_reducible refine gate_callee (f := 16) rfl ?_); refine goesL_ (some 104) rfl rfl Try.func16 (by kernel_rfl) rfl #[.agg #[.int .i64 t301, .slice Ao193 t302.length co193], .agg #[.int .i64 t252, .slice Ao42 t253.length co42]] rfl (by (try simp only [List.map_toArray, List.map_cons, List.map_nil]); first | done | rfl | (simp only [List.length_drop, List.length_take]; rfl)) ?_; (with_reducible refine (laws_eqBits.calls kj107 t301 _ _ t302 t252 _ _ t253 true _ ?side1 ?side2 ?side3 ?side4 A195.out).mono ?_); (case side1 => refine (Kd.R_reads' (e := 53) (base := w.heap.size) (ok := fun k_ => (some k_ ≠ (v295 : Value).ownBlock ∧ (some k_ ≠ (v299 : Value).ownBlock ∧ (some k_ ≠ (.slice Ao42 t253.length co42 : Value).ownBlock ∧ (some k_ ≠ (.slice Ao52 t286.length co52 : Value).ownBlock ∧ (some k_ ≠ (.slice Ao62 t288.length co62 : Value).ownBlock ∧ some k_ ≠ (.slice Ao72 t269.length co72 : Value).ownBlock)))))) (n := t302.length) (c := co193) ?_).2.2; exact (by (with_reducible repeat (first | apply Kd.R_alloc | apply Kd.R_drewN | apply Kd.R_drew)); exact (Kd.R_mono (Kd.R_far (p := ⟨gb306, 1, none⟩) (Kd.R_far (p := ⟨gb306, 0, none⟩) (Kd.R_types HO304.out BK306.out (by decide)) (fun _ hk => hk.2) (.int .i64 t301)) (fun _ hk => hk.2) (.slice Ao193 t302.length co193)) (fun _ h_ => h_.1)))); (case side2 => exact (Kd.R_reads' HO304.out).2.1); (case side3 => refine (Kd.R_reads' (e := 53) (base := w.heap.size) (ok := fun k_ => (some k_ ≠ (v295 : Value).ownBlock ∧ (some k_ ≠ (v299 : Value).ownBlock ∧ (some k_ ≠ (.slice Ao193 t302.length co193 : Value).ownBlock ∧ (some k_ ≠ (.slice Ao52 t286.length co52 : Value).ownBlock ∧ (some k_ ≠ (.slice Ao62 t288.length co62 : Value).ownBlock ∧ some k_ ≠ (.slice Ao72 t269.length co72 : Value).ownBlock)))))) (n := t253.length) (c := co42) ?_).2.2; exact (by (with_reducible repeat (first | apply Kd.R_alloc | apply Kd.R_drewN | apply Kd.R_drew)); exact (Kd.R_mono (Kd.R_far (p := ⟨gb306, 1, none⟩) (Kd.R_far (p := ⟨gb306, 0, none⟩) (Kd.R_types HO_258001.out BK306.out (by decide)) (fun _ hk => hk.2) (.int .i64 t301)) (fun _ hk => hk.2) (.slice Ao193 t302.length co193)) (fun _ h_ => h_.1)))); (case side4 => exact (Kd.R_reads' HO_258001.out).2.1); rintro e w210 ⟨rfl, hb⟩; refine ⟨_, rfl, ?_⟩; have n0_ := Aside0.mk (Kd.R_below (by (with_reducible repeat (first | apply Kd.R_alloc | apply Kd.R_drewN | apply Kd.R_drew)); exact (Kd.R_mono (Kd.R_far (p := ⟨gb306, 1, none⟩) (Kd.R_far (p := ⟨gb306, 0, none⟩) (Kd.R_types HO_258001.out BK306.out (by decide)) (fun _ hk => hk.2) (.int .i64 t301)) (fun _ hk => hk.2) (.slice Ao193 t302.length co193)) (fun _ h_ => h_.1))) hb); have n1_ := Aside0.mk (Kd.R_below (by (with_reducible repeat (first | apply Kd.R_alloc | apply Kd.R_drewN | apply Kd.R_drew)); exact (Kd.R_mono (Kd.R_far (p := ⟨gb306, 1, none⟩) (Kd.R_far (p := ⟨gb306, 0, none⟩) (Kd.R_types HO_263001.out BK306.out (by decide)) (fun _ hk => hk.2) (.int .i64 t301)) (fun _ hk => hk.2) (.slice Ao193 t302.length co193)) (fun _ h_ => h_.1))) hb); have n2_ := Aside0.mk (Kd.R_below (by (with_reducible repeat (first | apply Kd.R_alloc | apply Kd.R_drewN | apply Kd.R_drew)); exact (Kd.R_mono (Kd.R_far (p := ⟨gb306, 1, none⟩) (Kd.R_far (p := ⟨gb306, 0, none⟩) (Kd.R_types HO_268001.out BK306.out (by decide)) (fun _ hk => hk.2) (.int .i64 t301)) (fun _ hk => hk.2) (.slice Ao193 t302.length co193)) (fun _ h_ => h_.1))) hb); have n3_ := Aside0.mk (Kd.R_below (by (with_reducible repeat (first | apply Kd.R_alloc | apply Kd.R_drewN | apply Kd.R_drew)); exact (Kd.R_mono (Kd.R_far (p := ⟨gb306, 1, none⟩) (Kd.R_far (p := ⟨gb306, 0, none⟩) (Kd.R_types HO_274001.out BK306.out (by decide)) (fun _ hk => hk.2) (.int .i64 t301)) (fun _ hk => hk.2) (.slice Ao193 t302.length co193)) (fun _ h_ => h_.1))) hb); have n4_ := Aside0.mk (Kd.R_below (by (with_reducible repeat (first | apply Kd.R_alloc | apply Kd.R_drewN | apply Kd.R_drew)); exact (Kd.R_mono (Kd.R_far (p := ⟨gb306, 1, none⟩) (Kd.R_far (p := ⟨gb306, 0, none⟩) (Kd.R_types HO296.out BK306.out (by decide)) (fun _ hk => hk.2) (.int .i64 t301)) (fun _ hk => hk.2) (.slice Ao193 t302.length co193)) (fun _ h_ => h_.1))) hb); have n5_ := Aside0.mk (Kd.R_below (by (with_reducible repeat (first | apply Kd.R_alloc | apply Kd.R_drewN | apply Kd.R_drew)); exact (Kd.R_mono (Kd.R_far (p := ⟨gb306, 1, none⟩) (Kd.R_far (p := ⟨gb306, 0, none⟩) (Kd.R_types HO300.out BK306.out (by decide)) (fun _ hk => hk.2) (.int .i64 t301)) (fun _ hk => hk.2) (.slice Ao193 t302.length co193)) (fun _ h_ => h_.1))) hb); have n6_ := Aside0.mk (Kd.R_below (by (with_reducible repeat (first | apply Kd.R_alloc | apply Kd.R_drewN | apply Kd.R_drew)); exact (Kd.R_mono (Kd.R_far (p := ⟨gb306, 1, none⟩) (Kd.R_far (p := ⟨gb306, 0, none⟩) (Kd.R_types HO304.out BK306.out (by decide)) (fun _ hk => hk.2) (.int .i64 t301)) (fun _ hk => hk.2) (.slice Ao193 t302.length co193)) (fun _ h_ => h_.1))) hb); have n7_ := Aside0.mk (blk_below (g := gb240) (o := .cells #[.int .i64 a0_0, .slice A0_1 l0_1.length c0_1] 34 (0, 0)) (by (with_reducible repeat (first | refine blk_drewN ?_ _ | refine blk_drew ?_ | refine blk_alloc ?_ _)); refine blk_far ?_ NB240_306.out _; (with_reducible repeat (first | refine blk_drewN ?_ _ | refine blk_drew ?_ | refine blk_alloc ?_ _)); refine blk_far ?_ NB240_306.out _; (with_reducible repeat (first | refine blk_drewN ?_ _ | refine blk_drew ?_ | refine blk_alloc ?_ _)); exact BK240.out) hb); have n8_ := Aside0.mk (blk_below (g := gb241) (o := .cells #[.int .i64 a1_0, .slice A1_1 l1_1.length c1_1] 34 (0, 0)) (by (with_reducible repeat (first | refine blk_drewN ?_ _ | refine blk_drew ?_ | refine blk_alloc ?_ _)); refine blk_far ?_ NB241_306.out _; (with_reducible repeat (first | refine blk_drewN ?_ _ | refine blk_drew ?_ | refine blk_alloc ?_ _)); refine blk_far ?_ NB241_306.out _; (with_reducible repeat (first | refine blk_drewN ?_ _ | refine blk_drew ?_ | refine blk_alloc ?_ _)); exact BK241.out) hb); have n9_ := Aside0.mk (blk_below (g := gb257) (o := .cells #[.int .i64 t252, .slice Ao42 t253.length co42] 25 (0, 0)) (by (with_reducible repeat (first | refine blk_drewN ?_ _ | refine blk_drew ?_ | refine blk_alloc ?_ _)); refine blk_far ?_ NB257_306.out _; (with_reducible repeat (first | refine blk_drewN ?_ _ | refine blk_drew ?_ | refine blk_alloc ?_ _)); refine blk_far ?_ NB257_306.out _; (with_reducible repeat (first | refine blk_drewN ?_ _ | refine blk_drew ?_ | refine blk_alloc ?_ _)); exact BK257.out) hb); have n10_ := Aside0.mk (blk_below (g := gb262) (o := .cells #[.int .i64 t258, .slice Ao52 t286.length co52] 25 (0, 0)) (by (with_reducible repeat (first | refine blk_drewN ?_ _ | refine blk_drew ?_ | refine blk_alloc ?_ _)); refine blk_far ?_ NB262_306.out _; (with_reducible repeat (first | refine blk_drewN ?_ _ | refine blk_drew ?_ | refine blk_alloc ?_ _)); refine blk_far ?_ NB262_306.out _; (with_reducible repeat (first | refine blk_drewN ?_ _ | refine blk_drew ?_ | refine blk_alloc ?_ _)); exact BK262.out) hb); have n11_ := Aside0.mk (blk_below (g := gb267) (o := .cells #[.int .i64 t263, .slice Ao62 t288.length co62] 25 (0, 0)) (by (with_reducible repeat (first | refine blk_drewN ?_ _ | refine blk_drew ?_ | refine blk_alloc ?_ _)); refine blk_far ?_ NB267_306.out _; (with_reducible repeat (first | refine blk_drewN ?_ _ | refine blk_drew ?_ | refine blk_alloc ?_ _)); refine blk_far ?_ NB267_306.out _; (with_reducible repeat (first | refine blk_drewN ?_ _ | refine blk_drew ?_ | refine blk_alloc ?_ _)); exact BK267.out) hb); have n12_ := Aside0.mk (blk_below (g := gb273) (o := .cells #[.int .i64 t268, .slice Ao72 t269.length co72] 25 (0, 0)) (by (with_reducible repeat (first | refine blk_drewN ?_ _ | refine blk_drew ?_ | refine blk_alloc ?_ _)); refine blk_far ?_ NB273_306.out _; (with_reducible repeat (first | refine blk_drewN ?_ _ | refine blk_drew ?_ | refine blk_alloc ?_ _)); refine blk_far ?_ NB273_306.out _; (with_reducible repeat (first | refine blk_drewN ?_ _ | refine blk_drew ?_ | refine blk_alloc ?_ _)); exact BK273.out) hb); have n13_ := Aside0.mk (blk_below (g := gb306) (o := .cells #[.int .i64 t301, .slice Ao193 t302.length co193] 25 (0, 0)) (by (with_reducible repeat (first | refine blk_drewN ?_ _ | refine blk_drew ?_ | refine blk_alloc ?_ _)); refine blk_put (cs := #[.int .i64 t301, .slice none 0 0]) ?_ 1 _ rfl; (with_reducible repeat (first | refine blk_drewN ?_ _ | refine blk_drew ?_ | refine blk_alloc ?_ _)); refine blk_put (cs := #[.int .i64 0, .slice none 0 0]) ?_ 0 _ rfl; (with_reducible repeat (first | refine blk_drewN ?_ _ | refine blk_drew ?_ | refine blk_alloc ?_ _)); exact BK306.out) hb); have n14_ := Aside0.mk (below_step (by repeat (first | (with_reducible first | exact HB.out | apply below_alloc | apply pw_below_drewN | apply below_drew1 | refine below_set ?_ GE240.out | refine below_set ?_ GE241.out | refine below_set ?_ GE257.out | refine below_set ?_ GE262.out | refine below_set ?_ GE267.out | refine below_set ?_ GE273.out | refine below_set ?_ GE306.out) | exact HB.out)) hb); clear HO_258001; clear HO_263001; clear HO_268001; clear HO_274001; clear HO296; clear HO300; clear HO304; clear BK240; clear BK241; clear BK257; clear BK262; clear BK267; clear BK273; clear BK306; clear HB; have HO_258001 := n0_; have HO_263001 := n1_; have HO_268001 := n2_; have HO_274001 := n3_; have HO296 := n4_; have HO300 := n5_; have HO304 := n6_; have BK240 := n7_; have BK241 := n8_; have BK257 := n9_; have BK262 := n10_; have BK267 := n11_; have BK273 := n12_; have BK306 := n13_; have HB := n14_; clear n0_ n1_ n2_ n3_ n4_ n5_ n6_ n7_ n8_ n9_ n10_ n11_ n12_ n13_ n14_; (try clear hb); (try clear hb2); (try clear hk); (try clear hi)))
       go_meet
       case rel => exact ⟨_, ((t305 != t256)), (by first | rfl | (simp; done) | (simp [*]; done)), H', ⟨by have := HJ24.out; have := HJ107.out; first | omega | exact Nat.le_refl _⟩, ⟨by (try simp only [hl263001_107]); (try simp only [hl268001_107]); (with_reducible repeat (first | apply Kd.R_alloc | apply Kd.R_drewN | apply Kd.R_drew)); exact Kd.R_mono HO_258001.out (fun _ hk => ⟨hk.2.2.2.1, ⟨hk.2.2.2.2.1, ⟨hk.2.2.2.2.2, hk.2.2.1⟩⟩⟩)⟩, ⟨by (try simp only [hl263001_107]); (try simp only [hl268001_107]); (with_reducible repeat (first | apply Kd.R_alloc | apply Kd.R_drewN | apply Kd.R_drew)); exact Kd.R_mono HO_263001.out (fun _ hk => ⟨hk.2.2.2.1, ⟨hk.2.2.2.2.1, ⟨hk.2.2.2.2.2, hk.2.2.1⟩⟩⟩)⟩, ⟨by (try simp only [hl263001_107]); (try simp only [hl268001_107]); (with_reducible repeat (first | apply Kd.R_alloc | apply Kd.R_drewN | apply Kd.R_drew)); exact Kd.R_mono HO_268001.out (fun _ hk => ⟨hk.2.2.2.1, ⟨hk.2.2.2.2.1, ⟨hk.2.2.2.2.2, hk.2.2.1⟩⟩⟩)⟩, ⟨by (try simp only [hl263001_107]); (try simp only [hl268001_107]); (with_reducible repeat (first | apply Kd.R_alloc | apply Kd.R_drewN | apply Kd.R_drew)); exact Kd.R_mono HO_274001.out (fun _ hk => ⟨hk.2.2.2.1, ⟨hk.2.2.2.2.1, ⟨hk.2.2.2.2.2, hk.2.2.1⟩⟩⟩)⟩, ⟨by (try simp only [hl263001_107]); (try simp only [hl268001_107]); (with_reducible repeat (first | apply Kd.R_alloc | apply Kd.R_drewN | apply Kd.R_drew)); exact Kd.R_mono HO304.out (fun _ hk => ⟨hk.2.2.1, ⟨hk.2.2.2.1, ⟨hk.2.2.2.2.1, hk.2.2.2.2.2⟩⟩⟩)⟩, ⟨by (try simp only [hl263001_107]); (try simp only [hl268001_107]); (with_reducible repeat (first | refine blk_drewN ?_ _ | refine blk_drew ?_ | refine blk_alloc ?_ _)); exact BK240.out⟩, ⟨by (try simp only [hl263001_107]); (try simp only [hl268001_107]); (with_reducible repeat (first | refine blk_drewN ?_ _ | refine blk_drew ?_ | refine blk_alloc ?_ _)); exact BK241.out⟩, ⟨by (try simp only [hl263001_107]); (try simp only [hl268001_107]); (with_reducible repeat (first | refine blk_drewN ?_ _ | refine blk_drew ?_ | refine blk_alloc ?_ _)); exact BK257.out⟩, ⟨by (try simp only [hl263001_107]); (try simp only [hl268001_107]); (with_reducible repeat (first | refine blk_drewN ?_ _ | refine blk_drew ?_ | refine blk_alloc ?_ _)); exact BK262.out⟩, ⟨by (try simp only [hl263001_107]); (try simp only [hl268001_107]); (with_reducible repeat (first | refine blk_drewN ?_ _ | refine blk_drew ?_ | refine blk_alloc ?_ _)); exact BK267.out⟩, ⟨by (try simp only [hl263001_107]); (try simp only [hl268001_107]); (with_reducible repeat (first | refine blk_drewN ?_ _ | refine blk_drew ?_ | refine blk_alloc ?_ _)); exact BK273.out⟩, ⟨by (try simp only [hl263001_107]); (try simp only [hl268001_107]); (with_reducible repeat (first | refine blk_drewN ?_ _ | refine blk_drew ?_ | refine blk_alloc ?_ _)); exact BK306.out⟩, ⟨by repeat (first | (with_reducible first | exact HB.out | apply below_alloc | apply pw_below_drewN | apply below_drew1 | refine below_set ?_ GE240.out | refine below_set ?_ GE241.out | refine below_set ?_ GE257.out | refine below_set ?_ GE262.out | refine below_set ?_ GE267.out | refine below_set ?_ GE273.out | refine below_set ?_ GE306.out) | exact HB.out)⟩⟩
      ·replace c196 := Bool.eq_false_iff.mpr c196
       subst c196
       have H1 : (laws_FnExactBitsJoin.j2 kj107 t290 true t268 t291) = some r := by rw [if_neg (show ¬ (false = true) by decide)] at H; exact H
       clear H
       have H := H1
       clear H1
       have H' := Aside0.mk H
       clear H
       have hnb211 := NB306_240.out
       have hnc211 := NB240_306.out
       have hnb212 := NB306_241.out
       have hnc212 := NB241_306.out
       have hnb213 := NB306_257.out
       have hnc213 := NB257_306.out
       have hnb214 := NB306_262.out
       have hnc214 := NB262_306.out
       have hnb215 := NB306_267.out
       have hnc215 := NB267_306.out
       have hnb216 := NB306_273.out
       have hnc216 := NB273_306.out
       have hcz217_0 : w191.cell? ⟨gb306, 0, none⟩ = some (.int .i64 0) := (blk_cell BK306.out 0).trans rfl
       have hcz217_1 : w191.cell? ⟨gb306, 1, none⟩ = some (.slice none 0 0) := (blk_cell BK306.out 1).trans rfl
       have hfz217_0 := blk_frozen BK306.out 0
       have hfz217_1 := blk_frozen BK306.out 1
       have hnb218 := NB257_240.out
       have hnc218 := NB240_257.out
       have hnb219 := NB257_241.out
       have hnc219 := NB241_257.out
       have hnb220 := NB257_262.out
       have hnc220 := NB262_257.out
       have hnb221 := NB257_267.out
       have hnc221 := NB267_257.out
       have hnb222 := NB257_273.out
       have hnc222 := NB273_257.out
       have hcz223_0 : w191.cell? ⟨gb257, 0, none⟩ = some (.int .i64 t252) := (blk_cell BK257.out 0).trans rfl
       have hcz223_1 : w191.cell? ⟨gb257, 1, none⟩ = some (.slice Ao42 t253.length co42) := (blk_cell BK257.out 1).trans rfl
       have hfz223_0 := blk_frozen BK257.out 0
       have hfz223_1 := blk_frozen BK257.out 1
       go_wp2_with (first | ((with_reducible refine gate_callee (f := 16) rfl ?_); refine goesL_ (some 104) rfl rfl Try.func16 (by kernel_rfl) rfl #[.agg #[.int .i64 t301, .slice Ao193 t302.length co193], .agg #[.int .i64 t252, .slice Ao42 t253.length co42]] rfl (by (try simp only [List.map_toArray, List.map_cons, List.map_nil]); first | done | rfl | (simp only [List.length_drop, List.length_take]; rfl)) ?_; (with_reducible refine (laws_eqBits.calls kj107 t301 _ _ t302 t252 _ _ t253 false _ ?side1 ?side2 ?side3 ?side4 A195.out).mono ?_); (case side1 => refine (Kd.R_reads' (e := 53) (base := w.heap.size) (ok := fun k_ => (some k_ ≠ (v295 : Value).ownBlock ∧ (some k_ ≠ (v299 : Value).ownBlock ∧ (some k_ ≠ (.slice Ao42 t253.length co42 : Value).ownBlock ∧ (some k_ ≠ (.slice Ao52 t286.length co52 : Value).ownBlock ∧ (some k_ ≠ (.slice Ao62 t288.length co62 : Value).ownBlock ∧ some k_ ≠ (.slice Ao72 t269.length co72 : Value).ownBlock)))))) (n := t302.length) (c := co193) ?_).2.2; exact (by (with_reducible repeat (first | apply Kd.R_alloc | apply Kd.R_drewN | apply Kd.R_drew)); exact (Kd.R_mono (Kd.R_far (p := ⟨gb306, 1, none⟩) (Kd.R_far (p := ⟨gb306, 0, none⟩) (Kd.R_types HO304.out BK306.out (by decide)) (fun _ hk => hk.2) (.int .i64 t301)) (fun _ hk => hk.2) (.slice Ao193 t302.length co193)) (fun _ h_ => h_.1)))); (case side2 => exact (Kd.R_reads' HO304.out).2.1); (case side3 => refine (Kd.R_reads' (e := 53) (base := w.heap.size) (ok := fun k_ => (some k_ ≠ (v295 : Value).ownBlock ∧ (some k_ ≠ (v299 : Value).ownBlock ∧ (some k_ ≠ (.slice Ao193 t302.length co193 : Value).ownBlock ∧ (some k_ ≠ (.slice Ao52 t286.length co52 : Value).ownBlock ∧ (some k_ ≠ (.slice Ao62 t288.length co62 : Value).ownBlock ∧ some k_ ≠ (.slice Ao72 t269.length co72 : Value).ownBlock)))))) (n := t253.length) (c := co42) ?_).2.2; exact (by (with_reducible repeat (first | apply Kd.R_alloc | apply Kd.R_drewN | apply Kd.R_drew)); exact (Kd.R_mono (Kd.R_far (p := ⟨gb306, 1, none⟩) (Kd.R_far (p := ⟨gb306, 0, none⟩) (Kd.R_types HO_258001.out BK306.out (by decide)) (fun _ hk => hk.2) (.int .i64 t301)) (fun _ hk => hk.2) (.slice Ao193 t302.length co193)) (fun _ h_ => h_.1)))); (case side4 => exact (Kd.R_reads' HO_258001.out).2.1); rintro e w224 ⟨rfl, hb⟩; refine ⟨_, rfl, ?_⟩; have n0_ := Aside0.mk (Kd.R_below (by (with_reducible repeat (first | apply Kd.R_alloc | apply Kd.R_drewN | apply Kd.R_drew)); exact (Kd.R_mono (Kd.R_far (p := ⟨gb306, 1, none⟩) (Kd.R_far (p := ⟨gb306, 0, none⟩) (Kd.R_types HO_258001.out BK306.out (by decide)) (fun _ hk => hk.2) (.int .i64 t301)) (fun _ hk => hk.2) (.slice Ao193 t302.length co193)) (fun _ h_ => h_.1))) hb); have n1_ := Aside0.mk (Kd.R_below (by (with_reducible repeat (first | apply Kd.R_alloc | apply Kd.R_drewN | apply Kd.R_drew)); exact (Kd.R_mono (Kd.R_far (p := ⟨gb306, 1, none⟩) (Kd.R_far (p := ⟨gb306, 0, none⟩) (Kd.R_types HO_263001.out BK306.out (by decide)) (fun _ hk => hk.2) (.int .i64 t301)) (fun _ hk => hk.2) (.slice Ao193 t302.length co193)) (fun _ h_ => h_.1))) hb); have n2_ := Aside0.mk (Kd.R_below (by (with_reducible repeat (first | apply Kd.R_alloc | apply Kd.R_drewN | apply Kd.R_drew)); exact (Kd.R_mono (Kd.R_far (p := ⟨gb306, 1, none⟩) (Kd.R_far (p := ⟨gb306, 0, none⟩) (Kd.R_types HO_268001.out BK306.out (by decide)) (fun _ hk => hk.2) (.int .i64 t301)) (fun _ hk => hk.2) (.slice Ao193 t302.length co193)) (fun _ h_ => h_.1))) hb); have n3_ := Aside0.mk (Kd.R_below (by (with_reducible repeat (first | apply Kd.R_alloc | apply Kd.R_drewN | apply Kd.R_drew)); exact (Kd.R_mono (Kd.R_far (p := ⟨gb306, 1, none⟩) (Kd.R_far (p := ⟨gb306, 0, none⟩) (Kd.R_types HO_274001.out BK306.out (by decide)) (fun _ hk => hk.2) (.int .i64 t301)) (fun _ hk => hk.2) (.slice Ao193 t302.length co193)) (fun _ h_ => h_.1))) hb); have n4_ := Aside0.mk (Kd.R_below (by (with_reducible repeat (first | apply Kd.R_alloc | apply Kd.R_drewN | apply Kd.R_drew)); exact (Kd.R_mono (Kd.R_far (p := ⟨gb306, 1, none⟩) (Kd.R_far (p := ⟨gb306, 0, none⟩) (Kd.R_types HO296.out BK306.out (by decide)) (fun _ hk => hk.2) (.int .i64 t301)) (fun _ hk => hk.2) (.slice Ao193 t302.length co193)) (fun _ h_ => h_.1))) hb); have n5_ := Aside0.mk (Kd.R_below (by (with_reducible repeat (first | apply Kd.R_alloc | apply Kd.R_drewN | apply Kd.R_drew)); exact (Kd.R_mono (Kd.R_far (p := ⟨gb306, 1, none⟩) (Kd.R_far (p := ⟨gb306, 0, none⟩) (Kd.R_types HO300.out BK306.out (by decide)) (fun _ hk => hk.2) (.int .i64 t301)) (fun _ hk => hk.2) (.slice Ao193 t302.length co193)) (fun _ h_ => h_.1))) hb); have n6_ := Aside0.mk (Kd.R_below (by (with_reducible repeat (first | apply Kd.R_alloc | apply Kd.R_drewN | apply Kd.R_drew)); exact (Kd.R_mono (Kd.R_far (p := ⟨gb306, 1, none⟩) (Kd.R_far (p := ⟨gb306, 0, none⟩) (Kd.R_types HO304.out BK306.out (by decide)) (fun _ hk => hk.2) (.int .i64 t301)) (fun _ hk => hk.2) (.slice Ao193 t302.length co193)) (fun _ h_ => h_.1))) hb); have n7_ := Aside0.mk (blk_below (g := gb240) (o := .cells #[.int .i64 a0_0, .slice A0_1 l0_1.length c0_1] 34 (0, 0)) (by (with_reducible repeat (first | refine blk_drewN ?_ _ | refine blk_drew ?_ | refine blk_alloc ?_ _)); refine blk_far ?_ NB240_306.out _; (with_reducible repeat (first | refine blk_drewN ?_ _ | refine blk_drew ?_ | refine blk_alloc ?_ _)); refine blk_far ?_ NB240_306.out _; (with_reducible repeat (first | refine blk_drewN ?_ _ | refine blk_drew ?_ | refine blk_alloc ?_ _)); exact BK240.out) hb); have n8_ := Aside0.mk (blk_below (g := gb241) (o := .cells #[.int .i64 a1_0, .slice A1_1 l1_1.length c1_1] 34 (0, 0)) (by (with_reducible repeat (first | refine blk_drewN ?_ _ | refine blk_drew ?_ | refine blk_alloc ?_ _)); refine blk_far ?_ NB241_306.out _; (with_reducible repeat (first | refine blk_drewN ?_ _ | refine blk_drew ?_ | refine blk_alloc ?_ _)); refine blk_far ?_ NB241_306.out _; (with_reducible repeat (first | refine blk_drewN ?_ _ | refine blk_drew ?_ | refine blk_alloc ?_ _)); exact BK241.out) hb); have n9_ := Aside0.mk (blk_below (g := gb257) (o := .cells #[.int .i64 t252, .slice Ao42 t253.length co42] 25 (0, 0)) (by (with_reducible repeat (first | refine blk_drewN ?_ _ | refine blk_drew ?_ | refine blk_alloc ?_ _)); refine blk_far ?_ NB257_306.out _; (with_reducible repeat (first | refine blk_drewN ?_ _ | refine blk_drew ?_ | refine blk_alloc ?_ _)); refine blk_far ?_ NB257_306.out _; (with_reducible repeat (first | refine blk_drewN ?_ _ | refine blk_drew ?_ | refine blk_alloc ?_ _)); exact BK257.out) hb); have n10_ := Aside0.mk (blk_below (g := gb262) (o := .cells #[.int .i64 t258, .slice Ao52 t286.length co52] 25 (0, 0)) (by (with_reducible repeat (first | refine blk_drewN ?_ _ | refine blk_drew ?_ | refine blk_alloc ?_ _)); refine blk_far ?_ NB262_306.out _; (with_reducible repeat (first | refine blk_drewN ?_ _ | refine blk_drew ?_ | refine blk_alloc ?_ _)); refine blk_far ?_ NB262_306.out _; (with_reducible repeat (first | refine blk_drewN ?_ _ | refine blk_drew ?_ | refine blk_alloc ?_ _)); exact BK262.out) hb); have n11_ := Aside0.mk (blk_below (g := gb267) (o := .cells #[.int .i64 t263, .slice Ao62 t288.length co62] 25 (0, 0)) (by (with_reducible repeat (first | refine blk_drewN ?_ _ | refine blk_drew ?_ | refine blk_alloc ?_ _)); refine blk_far ?_ NB267_306.out _; (with_reducible repeat (first | refine blk_drewN ?_ _ | refine blk_drew ?_ | refine blk_alloc ?_ _)); refine blk_far ?_ NB267_306.out _; (with_reducible repeat (first | refine blk_drewN ?_ _ | refine blk_drew ?_ | refine blk_alloc ?_ _)); exact BK267.out) hb); have n12_ := Aside0.mk (blk_below (g := gb273) (o := .cells #[.int .i64 t268, .slice Ao72 t269.length co72] 25 (0, 0)) (by (with_reducible repeat (first | refine blk_drewN ?_ _ | refine blk_drew ?_ | refine blk_alloc ?_ _)); refine blk_far ?_ NB273_306.out _; (with_reducible repeat (first | refine blk_drewN ?_ _ | refine blk_drew ?_ | refine blk_alloc ?_ _)); refine blk_far ?_ NB273_306.out _; (with_reducible repeat (first | refine blk_drewN ?_ _ | refine blk_drew ?_ | refine blk_alloc ?_ _)); exact BK273.out) hb); have n13_ := Aside0.mk (blk_below (g := gb306) (o := .cells #[.int .i64 t301, .slice Ao193 t302.length co193] 25 (0, 0)) (by (with_reducible repeat (first | refine blk_drewN ?_ _ | refine blk_drew ?_ | refine blk_alloc ?_ _)); refine blk_put (cs := #[.int .i64 t301, .slice none 0 0]) ?_ 1 _ rfl; (with_reducible repeat (first | refine blk_drewN ?_ _ | refine blk_drew ?_ | refine blk_alloc ?_ _)); refine blk_put (cs := #[.int .i64 0, .slice none 0 0]) ?_ 0 _ rfl; (with_reducible repeat (first | refine blk_drewN ?_ _ | refine blk_drew ?_ | refine blk_alloc ?_ _)); exact BK306.out) hb); have n14_ := Aside0.mk (below_step (by repeat (first | (with_reducible first | exact HB.out | apply below_alloc | apply pw_below_drewN | apply below_drew1 | refine below_set ?_ GE240.out | refine below_set ?_ GE241.out | refine below_set ?_ GE257.out | refine below_set ?_ GE262.out | refine below_set ?_ GE267.out | refine below_set ?_ GE273.out | refine below_set ?_ GE306.out) | exact HB.out)) hb); clear HO_258001; clear HO_263001; clear HO_268001; clear HO_274001; clear HO296; clear HO300; clear HO304; clear BK240; clear BK241; clear BK257; clear BK262; clear BK267; clear BK273; clear BK306; clear HB; have HO_258001 := n0_; have HO_263001 := n1_; have HO_268001 := n2_; have HO_274001 := n3_; have HO296 := n4_; have HO300 := n5_; have HO304 := n6_; have BK240 := n7_; have BK241 := n8_; have BK257 := n9_; have BK262 := n10_; have BK267 := n11_; have BK273 := n12_; have BK306 := n13_; have HB := n14_; clear n0_ n1_ n2_ n3_ n4_ n5_ n6_ n7_ n8_ n9_ n10_ n11_ n12_ n13_ n14_; (try clear hb); (try clear hb2); (try clear hk); (try clear hi)))
       go_meet
       case rel => exact ⟨_, (true), (by first | rfl | (simp; done) | (simp [*]; done)), H', ⟨by have := HJ24.out; have := HJ107.out; first | omega | exact Nat.le_refl _⟩, ⟨by (try simp only [hl263001_107]); (try simp only [hl268001_107]); (with_reducible repeat (first | apply Kd.R_alloc | apply Kd.R_drewN | apply Kd.R_drew)); exact Kd.R_mono HO_258001.out (fun _ hk => ⟨hk.2.2.2.1, ⟨hk.2.2.2.2.1, ⟨hk.2.2.2.2.2, hk.2.2.1⟩⟩⟩)⟩, ⟨by (try simp only [hl263001_107]); (try simp only [hl268001_107]); (with_reducible repeat (first | apply Kd.R_alloc | apply Kd.R_drewN | apply Kd.R_drew)); exact Kd.R_mono HO_263001.out (fun _ hk => ⟨hk.2.2.2.1, ⟨hk.2.2.2.2.1, ⟨hk.2.2.2.2.2, hk.2.2.1⟩⟩⟩)⟩, ⟨by (try simp only [hl263001_107]); (try simp only [hl268001_107]); (with_reducible repeat (first | apply Kd.R_alloc | apply Kd.R_drewN | apply Kd.R_drew)); exact Kd.R_mono HO_268001.out (fun _ hk => ⟨hk.2.2.2.1, ⟨hk.2.2.2.2.1, ⟨hk.2.2.2.2.2, hk.2.2.1⟩⟩⟩)⟩, ⟨by (try simp only [hl263001_107]); (try simp only [hl268001_107]); (with_reducible repeat (first | apply Kd.R_alloc | apply Kd.R_drewN | apply Kd.R_drew)); exact Kd.R_mono HO_274001.out (fun _ hk => ⟨hk.2.2.2.1, ⟨hk.2.2.2.2.1, ⟨hk.2.2.2.2.2, hk.2.2.1⟩⟩⟩)⟩, ⟨by (try simp only [hl263001_107]); (try simp only [hl268001_107]); (with_reducible repeat (first | apply Kd.R_alloc | apply Kd.R_drewN | apply Kd.R_drew)); exact Kd.R_mono HO304.out (fun _ hk => ⟨hk.2.2.1, ⟨hk.2.2.2.1, ⟨hk.2.2.2.2.1, hk.2.2.2.2.2⟩⟩⟩)⟩, ⟨by (try simp only [hl263001_107]); (try simp only [hl268001_107]); (with_reducible repeat (first | refine blk_drewN ?_ _ | refine blk_drew ?_ | refine blk_alloc ?_ _)); exact BK240.out⟩, ⟨by (try simp only [hl263001_107]); (try simp only [hl268001_107]); (with_reducible repeat (first | refine blk_drewN ?_ _ | refine blk_drew ?_ | refine blk_alloc ?_ _)); exact BK241.out⟩, ⟨by (try simp only [hl263001_107]); (try simp only [hl268001_107]); (with_reducible repeat (first | refine blk_drewN ?_ _ | refine blk_drew ?_ | refine blk_alloc ?_ _)); exact BK257.out⟩, ⟨by (try simp only [hl263001_107]); (try simp only [hl268001_107]); (with_reducible repeat (first | refine blk_drewN ?_ _ | refine blk_drew ?_ | refine blk_alloc ?_ _)); exact BK262.out⟩, ⟨by (try simp only [hl263001_107]); (try simp only [hl268001_107]); (with_reducible repeat (first | refine blk_drewN ?_ _ | refine blk_drew ?_ | refine blk_alloc ?_ _)); exact BK267.out⟩, ⟨by (try simp only [hl263001_107]); (try simp only [hl268001_107]); (with_reducible repeat (first | refine blk_drewN ?_ _ | refine blk_drew ?_ | refine blk_alloc ?_ _)); exact BK273.out⟩, ⟨by (try simp only [hl263001_107]); (try simp only [hl268001_107]); (with_reducible repeat (first | refine blk_drewN ?_ _ | refine blk_drew ?_ | refine blk_alloc ?_ _)); exact BK306.out⟩, ⟨by repeat (first | (with_reducible first | exact HB.out | apply below_alloc | apply pw_below_drewN | apply below_drew1 | refine below_set ?_ GE240.out | refine below_set ?_ GE241.out | refine below_set ?_ GE257.out | refine below_set ?_ GE262.out | refine below_set ?_ GE267.out | refine below_set ?_ GE273.out | refine below_set ?_ GE306.out) | exact HB.out)⟩⟩
     case rest =>
      clear HC174
      obtain ⟨kq, x110_173, rfl, HA, HJ173, HO_258001, HO_263001, HO_268001, HO_274001, HO_307001, BK240, BK241, BK257, BK262, BK267, BK273, BK306, HB⟩ := hcut
      have hl274001_173 := (Kd.R_reads' HO_274001.out).1
      rw [hl274001_173] at HO_274001
      (try simp only [hl274001_173])
      (try simp only [hl274001_173] at BK240)
      (try simp only [hl274001_173] at BK241)
      (try simp only [hl274001_173] at BK257)
      (try simp only [hl274001_173] at BK262)
      (try simp only [hl274001_173] at BK267)
      (try simp only [hl274001_173] at BK273)
      (try simp only [hl274001_173] at BK306)
      (try simp only [hl274001_173] at HO_258001)
      (try simp only [hl274001_173] at HO_263001)
      (try simp only [hl274001_173] at HO_268001)
      (try simp only [hl274001_173] at HO_307001)
      cases kq with
      | zero => exact absurd HA.out (by simp [laws_FnExactBitsJoin.j2])
      | succ kj173 =>
       have H := HA.out
       clear HA
       simp only [laws_FnExactBitsJoin.j2] at H
       by_cases c225 : x110_173 = true
       ·subst c225
        have H1 : (some false) = some r := by rw [if_pos rfl] at H; exact H
        clear H
        have H := H1
        clear H1
        exact absurd ((Option.some.inj H).trans HRT_.out) (by decide)
       ·replace c225 := Bool.eq_false_iff.mpr c225
        subst c225
        have H1 : ((laws_heldBits.f kj173 t268 t291 1).bind fun t308 => (if t308 < 0 then (some false) else (if t308 = t290 then (some true) else (some false)))) = some r := by rw [if_neg (show ¬ (false = true) by decide)] at H; exact H
        clear H
        have H := H1
        clear H1
        replace H := Option.bind_eq_some_iff.mp H
        obtain ⟨t308, A2260, H⟩ := H
        replace H : (if t308 < 0 then (some false) else (if t308 = t290 then (some true) else (some false))) = some r := H
        have A226 := Aside0.mk A2260
        clear A2260
        by_cases c227 : t308 < 0
        ·rw [if_pos c227] at H
         have c227b0 : decide (t308 < 0) = true := decide_eq_true c227
         clear c227
         exact absurd ((Option.some.inj H).trans HRT_.out) (by decide)
        ·rw [if_neg c227] at H
         have c227b0 : decide (t308 < 0) = false := decide_eq_false c227
         clear c227
         by_cases c236 : t308 = t290
         ·rw [if_pos c236] at H
          have c236b0 : (t308 == t290) = true := beq_iff_eq.mpr c236
          have c236b1 : (t308 != t290) = false := bne_eq_false_iff_eq.mpr c236
          clear c236
          obtain rfl := Option.some.inj H
          have hnb237 := NB273_240.out
          have hnc237 := NB240_273.out
          have hnb238 := NB273_241.out
          have hnc238 := NB241_273.out
          have hnb239 := NB273_257.out
          have hnc239 := NB257_273.out
          have hnb240 := NB273_262.out
          have hnc240 := NB262_273.out
          have hnb241 := NB273_267.out
          have hnc241 := NB267_273.out
          have hnb242 := NB273_306.out
          have hnc242 := NB306_273.out
          have hcz243_0 : wc.cell? ⟨gb273, 0, none⟩ = some (.int .i64 t268) := (blk_cell BK273.out 0).trans rfl
          have hcz243_1 : wc.cell? ⟨gb273, 1, none⟩ = some (.slice Ao72 t291.length co72) := (blk_cell BK273.out 1).trans rfl
          have hfz243_0 := blk_frozen BK273.out 0
          have hfz243_1 := blk_frozen BK273.out 1
          go_wp2_with (first | ((with_reducible refine gate_callee (f := 20) rfl ?_); refine goesL_ (some 113) rfl rfl Try.func20 (by kernel_rfl) rfl #[.agg #[.int .i64 t268, .slice Ao72 t291.length co72], .int .i64 1] rfl (by (try simp only [List.map_toArray, List.map_cons, List.map_nil]); first | done | rfl | (simp only [List.length_drop, List.length_take]; rfl)) ?_; (with_reducible refine (laws_heldBits.calls kj173 t268 _ _ t291 1 t308 _ ?side1 ?side2 A226.out).mono ?_); (case side1 => repeat (first | exact (Kd.R_reads' HO_274001.out).2.2 | (with_reducible refine Kd.C_alloc ?_ _) | (with_reducible refine Kd.C_drewN ?_ _) | (with_reducible refine Kd.C_drew ?_))); (case side2 => exact (Kd.R_reads' HO_274001.out).2.1); rintro e w244 ⟨rfl, hb⟩; refine ⟨_, rfl, ?_⟩; have n0_ := Aside0.mk (Kd.R_below (by (with_reducible repeat (first | apply Kd.R_alloc | apply Kd.R_drewN | apply Kd.R_drew)); exact HO_258001.out) hb); have n1_ := Aside0.mk (Kd.R_below (by (with_reducible repeat (first | apply Kd.R_alloc | apply Kd.R_drewN | apply Kd.R_drew)); exact HO_263001.out) hb); have n2_ := Aside0.mk (Kd.R_below (by (with_reducible repeat (first | apply Kd.R_alloc | apply Kd.R_drewN | apply Kd.R_drew)); exact HO_268001.out) hb); have n3_ := Aside0.mk (Kd.R_below (by (with_reducible repeat (first | apply Kd.R_alloc | apply Kd.R_drewN | apply Kd.R_drew)); exact HO_274001.out) hb); have n4_ := Aside0.mk (Kd.R_below (by (with_reducible repeat (first | apply Kd.R_alloc | apply Kd.R_drewN | apply Kd.R_drew)); exact HO_307001.out) hb); have n5_ := Aside0.mk (blk_below (g := gb240) (o := .cells #[.int .i64 a0_0, .slice A0_1 l0_1.length c0_1] 34 (0, 0)) (by (with_reducible repeat (first | refine blk_drewN ?_ _ | refine blk_drew ?_ | refine blk_alloc ?_ _)); exact BK240.out) hb); have n6_ := Aside0.mk (blk_below (g := gb241) (o := .cells #[.int .i64 a1_0, .slice A1_1 l1_1.length c1_1] 34 (0, 0)) (by (with_reducible repeat (first | refine blk_drewN ?_ _ | refine blk_drew ?_ | refine blk_alloc ?_ _)); exact BK241.out) hb); have n7_ := Aside0.mk (blk_below (g := gb257) (o := .cells #[.int .i64 t252, .slice Ao42 t253.length co42] 25 (0, 0)) (by (with_reducible repeat (first | refine blk_drewN ?_ _ | refine blk_drew ?_ | refine blk_alloc ?_ _)); exact BK257.out) hb); have n8_ := Aside0.mk (blk_below (g := gb262) (o := .cells #[.int .i64 t258, .slice Ao52 t286.length co52] 25 (0, 0)) (by (with_reducible repeat (first | refine blk_drewN ?_ _ | refine blk_drew ?_ | refine blk_alloc ?_ _)); exact BK262.out) hb); have n9_ := Aside0.mk (blk_below (g := gb267) (o := .cells #[.int .i64 t263, .slice Ao62 t288.length co62] 25 (0, 0)) (by (with_reducible repeat (first | refine blk_drewN ?_ _ | refine blk_drew ?_ | refine blk_alloc ?_ _)); exact BK267.out) hb); have n10_ := Aside0.mk (blk_below (g := gb273) (o := .cells #[.int .i64 t268, .slice Ao72 t291.length co72] 25 (0, 0)) (by (with_reducible repeat (first | refine blk_drewN ?_ _ | refine blk_drew ?_ | refine blk_alloc ?_ _)); exact BK273.out) hb); have n11_ := Aside0.mk (blk_below (g := gb306) (o := .cells #[.int .i64 t301, .slice Ao193 t302.length co193] 25 (0, 0)) (by (with_reducible repeat (first | refine blk_drewN ?_ _ | refine blk_drew ?_ | refine blk_alloc ?_ _)); exact BK306.out) hb); have n12_ := Aside0.mk (below_step (by repeat (first | (with_reducible first | exact HB.out | apply below_alloc | apply pw_below_drewN | apply below_drew1 | refine below_set ?_ GE240.out | refine below_set ?_ GE241.out | refine below_set ?_ GE257.out | refine below_set ?_ GE262.out | refine below_set ?_ GE267.out | refine below_set ?_ GE273.out | refine below_set ?_ GE306.out) | exact HB.out)) hb); clear HO_258001; clear HO_263001; clear HO_268001; clear HO_274001; clear HO_307001; clear BK240; clear BK241; clear BK257; clear BK262; clear BK267; clear BK273; clear BK306; clear HB; have HO_258001 := n0_; have HO_263001 := n1_; have HO_268001 := n2_; have HO_274001 := n3_; have HO_307001 := n4_; have BK240 := n5_; have BK241 := n6_; have BK257 := n7_; have BK262 := n8_; have BK267 := n9_; have BK273 := n10_; have BK306 := n11_; have HB := n12_; clear n0_ n1_ n2_ n3_ n4_ n5_ n6_ n7_ n8_ n9_ n10_ n11_ n12_; (try clear hb); (try clear hb2); (try clear hk); (try clear hi)))
          go_ret
          exact ⟨by first | rfl | (simp [errW_none, errW_some] <;> rfl) | (simp [*, errW_none, errW_some] <;> rfl), by repeat (first | (with_reducible first | exact HB.out | apply below_alloc | apply pw_below_drewN | apply below_drew1 | refine below_set ?_ GE240.out | refine below_set ?_ GE241.out | refine below_set ?_ GE257.out | refine below_set ?_ GE262.out | refine below_set ?_ GE267.out | refine below_set ?_ GE273.out | refine below_set ?_ GE306.out) | exact HB.out)⟩
         ·rw [if_neg c236] at H
          have c236b0 : (t308 == t290) = false := beq_eq_false_iff_ne.mpr c236
          have c236b1 : (t308 != t290) = true := bne_iff_ne.mpr c236
          exact absurd ((Option.some.inj H).trans HRT_.out) (by decide)
    ·rw [if_neg c170] at H
     have c170b0 : (t292 == t290) = false := beq_eq_false_iff_ne.mpr c170
     have c170b1 : (t292 != t290) = true := bne_iff_ne.mpr c170
     exact absurd ((Option.some.inj H).trans HRT_.out) (by decide)
end Go.Proofs.Ytcbhepghmmbdmaa.QFnExactBitsJoin
