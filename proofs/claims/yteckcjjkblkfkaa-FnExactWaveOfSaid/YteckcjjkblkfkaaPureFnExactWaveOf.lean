/- The pure statement of the law FnExactWaveOf: the program's wavelet levels are the reference's, for all arguments within the row's bounds. -/
import Derived.Test.YteckcjjkblkfkaaQFnExactWaveOfx8
import Derived.Test.YteckcjjkblkfkaaLib
namespace Go.Proofs.Yteckcjjkblkfkaa.Pure
open Go.RowKit Go.Proofs.Yteckcjjkblkfkaa.QFnExactWaveOf Go.Proofs.Yteckcjjkblkfkaa.Lib Go.Proofs.YteckcjjkblkfkaaW.PrintWords Go.Proofs.YteckcjjkblkfkaaW.PrintLast Go.Proofs.YteckcjjkblkfkaaW.PrintMore
set_option linter.unusedVariables false
set_option linter.unusedSimpArgs false

theorem laws_toIntS_l0 (xs : List Int) (hm : xs.length ≤ 35184372088832) : ∀ (d n : Nat) (out : List Int), n + d = xs.length → out.length = xs.length → (∀ j, j < n → out[j]? = xs[j]?) → Ev (fun k => laws_toIntS.l0 k xs out (n : Int)) xs := by
  intro d
  induction d with
  | zero =>
    intro n out hn hl ho
    refine Ev.step (fun k => by rw [laws_toIntS.l0]) ?_
    refine ev_neg (by omega) (ev_now' ?_)
    apply List.ext_getElem? ; intro j
    by_cases hj : j < n
    · exact ho j hj
    · rw [List.getElem?_eq_none (by omega), List.getElem?_eq_none (by omega)]
  | succ d ih =>
    intro n out hn hl ho
    refine Ev.step (fun k => by rw [laws_toIntS.l0]) ?_
    refine ev_pos (by omega) (ev_pos (by omega) (ev_pos (by omega) ?_))
    rw [w64 (by omega) (by omega)]
    refine ih (n + 1) _ (by omega) (by simp [hl]) ?_
    intro j hj
    rw [Int.toNat_natCast, List.getElem?_set, rd_lt (by omega)]
    by_cases e : n = j
    · subst e; rw [if_pos rfl, if_pos (by omega), List.getElem?_eq_getElem (by omega)]
    · rw [if_neg e]; exact ho j (by omega)
theorem laws_toIntS_ev (xs : List Int) (hm : xs.length ≤ 35184372088832) : Ev (fun k => laws_toIntS.f k xs) xs := by
  unfold laws_toIntS.f
  refine ev_pos (by omega) (ev_pos (by omega) ?_)
  exact laws_toIntS_l0 xs hm xs.length 0 _ (by omega) (by simp) (by simp)
theorem laws_eqIntS_l0 (xs ys : List Int) (hl : xs.length = ys.length) (hm : xs.length ≤ 140737488355328) : ∀ (d n : Nat), n + d = xs.length → Ev (fun k => laws_eqIntS.l0 k xs ys (n : Int)) (decide (xs.drop n = ys.drop n)) := by
  intro d
  induction d with
  | zero =>
    intro n hn
    refine Ev.step (fun k => by rw [laws_eqIntS.l0]) ?_
    refine ev_neg (by omega) (ev_now' ?_)
    rw [List.drop_eq_nil_of_le (by omega), List.drop_eq_nil_of_le (by omega)]; rfl
  | succ d ih =>
    intro n hn
    refine Ev.step (fun k => by rw [laws_eqIntS.l0]) ?_
    refine ev_pos (by omega) (ev_pos (by omega) (ev_pos (by omega) ?_))
    rw [rd_lt (by omega), rd_lt (by omega), w64 (by omega) (by omega)]
    rw [List.drop_eq_getElem_cons (show n < xs.length by omega), List.drop_eq_getElem_cons (show n < ys.length by omega)]
    refine ev_ite (fun h => ev_eq (ih (n + 1) (by omega)) ?_) (fun h => ev_now' ?_)
    · simp only [List.cons.injEq, h, true_and]
    · exact (decide_eq_false (fun e => h (List.cons.inj e).1)).symm
theorem laws_eqIntS_ev (xs ys : List Int) (hm : xs.length ≤ 140737488355328) : Ev (fun k => laws_eqIntS.f k xs ys) (decide (xs = ys)) := by
  unfold laws_eqIntS.f
  refine ev_ite (fun h => ?_) (fun h => ev_now' ?_)
  · exact laws_eqIntS_l0 xs ys (by omega) hm xs.length 0 (by omega)
  · exact (decide_eq_false (fun e => h (by rw [e]))).symm
theorem laws_markIntS_l0 (xs : List Int) (a : Nat) (hm : a + xs.length ≤ 1099511627776) : ∀ (d n : Nat), n + d = xs.length → Ev (fun k => laws_markIntS.l0 k (marked (fun x => x) n a ++ xs.drop n) ((a + n : Nat) : Int) (n : Int)) (((a + xs.length : Nat) : Int), marked (fun x => x) xs.length a) := by
  intro d
  induction d with
  | zero =>
    intro n hn
    have e : n = xs.length := by omega
    subst e
    refine Ev.step (fun k => by rw [laws_markIntS.l0]) ?_
    refine ev_neg (by simp [marked_length]) (ev_now' ?_)
    rw [List.drop_length, List.append_nil]
  | succ d ih =>
    intro n hn
    refine Ev.step (fun k => by rw [laws_markIntS.l0]) ?_
    refine ev_pos (by simp [marked_length]; omega) (ev_pos (by omega) ?_)
    rw [w64 (by omega) (by omega), w64 (by omega) (by omega), Int.toNat_natCast]
    have e := set_mark (c := (fun x => x)) (a := a) (show n < xs.length by omega)
    rw [show (((a + n : Nat) : Int)) = (fun x => x) ((a + n : Nat) : Int) from rfl, e]
    exact ih (n + 1) (by omega)
theorem laws_markIntS_ev (xs : List Int) (a : Nat) (hm : a + xs.length ≤ 1099511627776) : Ev (fun k => laws_markIntS.f k xs (a : Int)) (((a + xs.length : Nat) : Int), marked (fun x => x) xs.length a) := by
  unfold laws_markIntS.f
  have h := laws_markIntS_l0 xs a hm xs.length 0 (by omega)
  simpa [marked] using h
theorem spec_l02Pow_l0 : ∀ (n m : Nat), n + m ≤ 62 → Ev (fun k => spec_l02Pow.l0 k (n : Int) ((2 ^ m : Nat) : Int)) ((2 ^ (n + m) : Nat) : Int) := by
  intro n
  induction n with
  | zero =>
    intro m hm
    refine Ev.step (fun k => by rw [spec_l02Pow.l0]) ?_
    exact ev_neg (by omega) (ev_now' (by rw [Nat.zero_add]))
  | succ n ih =>
    intro m hm
    refine Ev.step (fun k => by rw [spec_l02Pow.l0]) ?_
    have hp : 2 ^ m ≤ 2 ^ 61 := Nat.pow_le_pow_right (by decide) (by omega)
    have hpp : 2 ^ (m + 1) = 2 ^ m * 2 := Nat.pow_succ ..
    refine ev_pos (by omega) ?_
    rw [w64 (by omega) (by omega), w64 (by omega) (by omega), show ((n + 1 : Nat) : Int) - 1 = (n : Int) by omega, show (2 : Int) * ((2 ^ m : Nat) : Int) = ((2 ^ (m + 1) : Nat) : Int) by omega]
    refine ev_eq (ih (m + 1) (by omega)) ?_
    rw [show n + (m + 1) = n + 1 + m by omega]
theorem spec_l02Pow_ev (n : Nat) (h : n ≤ 62) : Ev (fun k => spec_l02Pow.f k (n : Int)) ((2 ^ n : Nat) : Int) := by
  unfold spec_l02Pow.f
  exact spec_l02Pow_l0 n 0 (by omega)
theorem spec_l02Pow_neg (a : Int) (h : a ≤ 0) : Ev (fun k => spec_l02Pow.f k a) 1 := by
  unfold spec_l02Pow.f
  refine Ev.step (fun k => by rw [spec_l02Pow.l0]) ?_
  exact ev_neg (by omega) (ev_now _)
theorem spec_l01Power_l0 : ∀ (n m : Nat), n + m ≤ 63 → Ev (fun k => spec_l01Power.l0 k (n : Int) ((2 ^ m : Nat) : Int)) ((2 ^ (n + m) : Nat) : Int) := by
  intro n
  induction n with
  | zero =>
    intro m hm
    refine Ev.step (fun k => by rw [spec_l01Power.l0]) ?_
    exact ev_neg (by omega) (ev_now' (by rw [Nat.zero_add]))
  | succ n ih =>
    intro m hm
    refine Ev.step (fun k => by rw [spec_l01Power.l0]) ?_
    have hp : 2 ^ m ≤ 2 ^ 62 := Nat.pow_le_pow_right (by decide) (by omega)
    have hpp : 2 ^ (m + 1) = 2 ^ m * 2 := Nat.pow_succ ..
    refine ev_pos (by omega) ?_
    rw [w64 (by omega) (by omega), show ((n + 1 : Nat) : Int) - 1 = (n : Int) by omega, show (2 : Int) * ((2 ^ m : Nat) : Int) = ((2 ^ (m + 1) : Nat) : Int) by omega, wraps_u64 _ (by omega) (by omega)]
    refine ev_eq (ih (m + 1) (by omega)) ?_
    rw [show n + (m + 1) = n + 1 + m by omega]
theorem spec_l01Power_ev (n : Nat) (h : n ≤ 63) : Ev (fun k => spec_l01Power.f k (n : Int)) ((2 ^ n : Nat) : Int) := by
  unfold spec_l01Power.f
  exact spec_l01Power_l0 n 0 (by omega)
theorem spec_BitsOf_one (xs : List Int) (hm : xs.length ≤ 5000) (N : Int) (r : Int × List Int × Bool) (n : Nat) (hlt : n < xs.length) (hp : isBits (xs.take n)) (hb : xs[n] = 0 ∨ xs[n] = 1)
    (h : Ev (fun k => spec_BitsOf.l0 k xs (((n + 1 : Nat)) : Int) N (wordsOf (xs.take (n + 1)))) r) : Ev (fun k => spec_BitsOf.j1 k xs (n : Int) false N (wordsOf (xs.take n))) r := by
  have lp : (xs.take n).length = n := by rw [List.length_take]; omega
  have e1 : Int.tmod (n : Int) 64 = ((n % 64 : Nat) : Int) := tmod_nat n 64
  have e2 : Int.tdiv (n : Int) 64 = ((n / 64 : Nat) : Int) := tdiv_nat n 64
  have ys : ∀ ys : List Int, ys = tab (n / 64 + 1) (fun w => ((wordAt (xs.take n) w : Nat) : Int)) → Ev (fun k => if 0 ≤ (n : Int) then (if (n : Int) < (xs.length : Int) then (if (rd xs (n : Int)) = 1 then (if 0 ≤ (wrap64 (Int.tdiv (n : Int) 64)) then (if (wrap64 (Int.tdiv (n : Int) 64)) < (ys.length : Int) then ((spec_l01Power.f k (Int.tmod (n : Int) 64)).bind fun t => (spec_BitsOf.l0 k xs (wrap64 ((n : Int) + 1)) N (ys.set ((wrap64 (Int.tdiv (n : Int) 64)) : Int).toNat (IntKind.u64.wrap ((rd ys (wrap64 (Int.tdiv (n : Int) 64))) + t))))) else (none)) else (none)) else (spec_BitsOf.l0 k xs (wrap64 ((n : Int) + 1)) N ys)) else (none)) else (none)) r := by
    intro ys hys
    refine ev_pos (by omega) (ev_pos (by omega) ?_)
    rw [rd_lt hlt, e1, e2, w64 (n := (n : Int) + 1) (by omega) (by omega), w64 (n := ((n / 64 : Nat) : Int)) (by omega) (by omega)]
    have hw : wordsOf (xs.take (n + 1)) = tab (n / 64 + 1) (fun w => (((if w = n / 64 then wordAt (xs.take n) w + xs[n].toNat * 2 ^ (n % 64) else wordAt (xs.take n) w) : Nat) : Int)) := by
      unfold wordsOf
      rw [show ((xs.take (n + 1)).length + 63) / 64 = n / 64 + 1 by rw [List.length_take]; omega, take_snoc' hlt]
      apply tab_congr
      intro i hi
      rw [wordAt_snoc, lp]
    have hlt2 := wordAt_lt' hp (n / 64) (by rw [lp])
    rw [lp] at hlt2
    have hpow : 2 ^ (n % 64) ≤ 2 ^ 63 := Nat.pow_le_pow_right (by decide) (by omega)
    rw [hw] at h
    refine ev_ite (fun h1 => ?_) (fun h1 => ?_)
    · refine ev_pos (by omega) (ev_pos (by rw [hys, tab_length]; omega) (ev_bind (spec_l01Power_ev (n % 64) (by omega)) ?_))
      rw [hys, rd_tab (by omega), Int.toNat_natCast, tab_set]
      refine Ev.congr (fun k => ?_) h
      congr 1
      apply tab_congr
      intro i hi
      by_cases e : i = n / 64
      · subst e
        rw [if_pos rfl, if_pos rfl, h1]
        generalize 2 ^ (n % 64) = q at *
        rw [wraps_u64 _ (by omega) (by omega)]
        simp
      · rw [if_neg e, if_neg e]
    · have h0 : xs[n] = 0 := by omega
      rw [hys]
      refine Ev.congr (fun k => ?_) h
      congr 1
      apply tab_congr
      intro i hi
      rw [h0]; simp
  refine Ev.step (fun k => by rw [spec_BitsOf.j1]) (ev_neg (by decide) ?_)
  have hws : (n % 64 = 0 → wordsOf (xs.take n) ++ [0] = tab (n / 64 + 1) (fun w => ((wordAt (xs.take n) w : Nat) : Int))) ∧ (n % 64 ≠ 0 → wordsOf (xs.take n) = tab (n / 64 + 1) (fun w => ((wordAt (xs.take n) w : Nat) : Int))) := by
    unfold wordsOf
    rw [lp]
    constructor
    · intro h0
      rw [show (n + 63) / 64 = n / 64 by omega, tab_succ, wordAt_nil (by rw [lp]; omega)]; rfl
    · intro h0
      rw [show (n + 63) / 64 = n / 64 + 1 by omega]
  have hl : (wordsOf (xs.take n)).length < 17592186044416 := by unfold wordsOf; rw [tab_length, lp]; omega
  by_cases h0 : n % 64 = 0
  · refine ev_pos (by rw [e1]; omega) (ev_pos hl ?_)
    exact ev_some rfl (ys _ (hws.1 h0))
  · refine ev_neg (by rw [e1]; omega) (ys _ (hws.2 h0))
theorem spec_BitsOf_l0 (xs : List Int) (hm : xs.length ≤ 5000) (N : Int) : ∀ (d n : Nat), n + d = xs.length → isBits (xs.take n) → Ev (fun k => spec_BitsOf.l0 k xs (n : Int) N (wordsOf (xs.take n))) (if (xs.drop n).all (fun a => decide (a = 0 ∨ a = 1)) = true then (N, wordsOf xs, true) else (0, [], false)) := by
  intro d
  induction d with
  | zero =>
    intro n hn hp
    refine Ev.step (fun k => by rw [spec_BitsOf.l0]) ?_
    refine ev_neg (by omega) (ev_now' ?_)
    rw [List.drop_eq_nil_of_le (by omega), List.take_of_length_le (by omega)]; rfl
  | succ d ih =>
    intro n hn hp
    have hlt : n < xs.length := by omega
    refine Ev.step (fun k => by rw [spec_BitsOf.l0]) ?_
    refine ev_pos (by omega) (ev_pos (by omega) ?_)
    rw [rd_lt hlt, List.drop_eq_getElem_cons hlt, List.all_cons]
    have good : (xs[n] = 0 ∨ xs[n] = 1) → Ev (fun k => spec_BitsOf.j1 k xs (n : Int) false N (wordsOf (xs.take n))) (if (xs.drop (n + 1)).all (fun a => decide (a = 0 ∨ a = 1)) = true then (N, wordsOf xs, true) else (0, [], false)) := by
      intro hb
      refine spec_BitsOf_one xs hm N _ n hlt hp hb (ih (n + 1) (by omega) ?_)
      rw [take_snoc' hlt]
      intro b hb'
      rcases List.mem_append.1 hb' with h | h
      · exact hp b h
      · rw [List.mem_singleton.1 h]; exact hb
    by_cases h0 : xs[n] = 0
    · rw [decide_eq_true (Or.inl h0), Bool.true_and]
      exact ev_pos h0 (good (Or.inl h0))
    · refine ev_neg h0 ?_
      by_cases h1 : xs[n] = 1
      · rw [decide_eq_true (Or.inr h1), Bool.true_and, bne_eq_false_iff_eq.2 h1]
        exact good (Or.inr h1)
      · rw [decide_eq_false (by omega), bne_iff_ne.2 h1]
        refine Ev.step (fun k => by rw [spec_BitsOf.j1]) ?_
        exact ev_pos rfl (ev_now _)
def bitsOfR (xs : List Int) : Int × List Int × Bool := if (decide (xs.length ≤ 5000) && xs.all fun a => decide (a = 0 ∨ a = 1)) = true then ((xs.length : Int), wordsOf xs, true) else (0, [], false)
theorem spec_BitsOf_ev (xs : List Int) : Ev (fun k => spec_BitsOf.f k xs) (bitsOfR xs) := by
  unfold spec_BitsOf.f bitsOfR
  refine ev_ite (fun h => ev_now' ?_) (fun h => ?_)
  · rw [decide_eq_false (by omega)]; rfl
  · rw [decide_eq_true (show xs.length ≤ 5000 by omega), Bool.true_and]
    have h := spec_BitsOf_l0 xs (by omega) (xs.length : Int) xs.length 0 (by omega) (fun b hb => by simp at hb)
    rw [List.drop_zero, show wordsOf (xs.take 0) = [] by rw [List.take_zero]; rfl] at h
    exact h
theorem impl_bitsOf_l0 (xs : List Int) (hm : xs.length ≤ 1000000) (hx : isBits xs) (N : Int) : ∀ (d n : Nat), n + d = xs.length → Ev (fun k => impl_bitsOf.l0 k xs (xs.length : Int) (n : Int) N (tab ((xs.length + 63) / 64) fun w => ((wordAt (xs.take n) w : Nat) : Int))) (N, wordsOf xs) := by
  intro d
  induction d with
  | zero =>
    intro n hn
    refine Ev.step (fun k => by rw [impl_bitsOf.l0]) ?_
    refine ev_neg (by omega) (ev_now' ?_)
    rw [List.take_of_length_le (by omega)]; rfl
  | succ d ih =>
    intro n hn
    have hlt : n < xs.length := by omega
    have lp : (xs.take n).length = n := by rw [List.length_take]; omega
    have e1 : Int.tmod (n : Int) 64 = ((n % 64 : Nat) : Int) := tmod_nat n 64
    have e2 : Int.tdiv (n : Int) 64 = ((n / 64 : Nat) : Int) := tdiv_nat n 64
    have hb := hx _ (List.getElem_mem hlt)
    refine Ev.step (fun k => by rw [impl_bitsOf.l0]) ?_
    rw [rd_lt hlt, e1, e2, w64 (n := (n : Int) + 1) (by omega) (by omega), w64 (n := ((n / 64 : Nat) : Int)) (by omega) (by omega), rd_tab (show n / 64 < (xs.length + 63) / 64 by omega)]
    refine ev_pos (by omega) (ev_pos (by omega) (ev_pos (by omega) (ev_pos (by omega) (ev_pos (by rw [tab_length]; omega) (ev_pos (by omega) ?_)))))
    rw [Int.toNat_natCast, tab_set]
    refine Ev.congr (fun k => ?_) (ih (n + 1) (by omega))
    congr 1
    apply tab_congr
    intro i hi
    rw [take_snoc' hlt, wordAt_snoc, lp]
    by_cases e : i = n / 64
    · subst e
      rw [if_pos rfl, if_pos rfl]
      have hlt2 := wordAt_lt' (isBits_take hx n) (n / 64) (by rw [lp])
      rw [lp] at hlt2
      have hpow : 2 ^ (n % 64) ≤ 2 ^ 63 := Nat.pow_le_pow_right (by decide) (by omega)
      have es : shl .u64 (IntKind.u64.wrap xs[n]) ((n % 64 : Nat) : Int) = ((2 ^ (n % 64) * xs[n].toNat : Nat) : Int) := by
        have hq : xs[n].toNat * 2 ^ (n % 64) < 2 ^ 64 := by
          generalize 2 ^ (n % 64) = q at *
          rcases hb with hb | hb <;> rw [hb] <;> simp <;> omega
        rw [wraps_u64 _ (by omega) (by omega), show xs[n] = ((xs[n].toNat : Nat) : Int) by omega, shl_u64 _ _ (by omega) hq, Int.toNat_natCast, Nat.mul_comm]
      have hlt3 : 2 ^ (n % 64) * xs[n].toNat < 2 ^ 64 := by
        generalize 2 ^ (n % 64) = q at *
        rcases hb with hb | hb <;> rw [hb] <;> simp <;> omega
      rw [es, u64_or_nat _ _ (by omega) (by omega), Nat.or_comm, ← Nat.two_pow_add_eq_or_of_lt hlt2, Nat.add_comm, Nat.mul_comm]
    · rw [if_neg e, if_neg e]
theorem impl_bitsOf_ev (xs : List Int) (hm : xs.length ≤ 1000000) (hx : isBits xs) : Ev (fun k => impl_bitsOf.f k xs) ((xs.length : Int), wordsOf xs) := by
  unfold impl_bitsOf.f
  have e : wrap64 (Int.tdiv (wrap64 (wrap64 ((xs.length : Int) + 64) - 1)) 64) = (((xs.length + 63) / 64 : Nat) : Int) := by
    rw [w64 (n := (xs.length : Int) + 64) (by omega) (by omega), w64 (n := (xs.length : Int) + 64 - 1) (by omega) (by omega), show (xs.length : Int) + 64 - 1 = ((xs.length + 63 : Nat) : Int) by omega]
    rw [show Int.tdiv ((xs.length + 63 : Nat) : Int) 64 = (((xs.length + 63) / 64 : Nat) : Int) from tdiv_nat (xs.length + 63) 64, w64 (by omega) (by omega)]
  rw [e]
  refine ev_pos (by omega) (ev_pos (by omega) ?_)
  rw [Int.toNat_natCast, tab_zero _ (fun w => ((wordAt (xs.take 0) w : Nat) : Int)) (fun i hi => by simp [wordAt, nb])]
  exact impl_bitsOf_l0 xs hm hx _ xs.length 0 (by omega)
theorem impl_within_f (a b c : Int) : impl_within.f a b c = some (decide (b ≤ a ∧ a ≤ c)) := by
  unfold impl_within.f
  by_cases h : b ≤ a <;> simp [h]
theorem impl_WaveOf_1_f (a : Int) : impl_WaveOf_1.f a = some (decide (0 ≤ a ∧ a ≤ 511)) := by
  unfold impl_WaveOf_1.f
  rw [impl_within_f]; rfl
theorem slices_Grow_f (a : Int) (h0 : 0 ≤ a) (h : a ≤ 1000000000) : slices_Grow_int_int.f a = some [] := by
  unfold slices_Grow_int_int.f
  have e : wrap64 (a - wrap64 (-(([] : List Int).length : Int))) = a := by
    rw [List.length_nil, w64 (n := -((0 : Nat) : Int)) (by omega) (by omega), w64 (by omega) (by omega)]
    omega
  rw [e, if_neg (by omega)]
  by_cases h1 : a > 0
  · rw [if_pos h1, if_pos h0, if_pos (by rw [List.length_nil]; omega), Option.bind_some, if_pos (by rw [List.length_nil]; omega), if_pos (by rw [List.length_nil]; omega)]
    rfl
  · rw [if_neg h1]
theorem slices_Concat_ev (a b : List Int) (ha : a.length ≤ 1000000) (hb : b.length ≤ 1000000) : Ev (fun k => slices_Concat_int_int.f k [a, b]) (a ++ b) := by
  unfold slices_Concat_int_int.f
  have l2 : (([a, b] : List (List Int)).length : Int) = 2 := rfl
  have r0 : rd_L4 [a, b] 0 = a := rfl
  have r1 : rd_L4 [a, b] 1 = b := rfl
  refine Ev.step (fun k => by rw [slices_Concat_int_int.l0]) ?_
  rw [l2, r0]
  rw [w64 (n := 0 + (a.length : Int)) (by omega) (by omega), w64 (n := (0 : Int) + 1) (by omega) (by omega)]
  refine ev_pos (by omega) (ev_pos (by omega) (ev_pos (by omega) (ev_neg (by omega) ?_)))
  refine Ev.step (fun k => by rw [slices_Concat_int_int.l0]) ?_
  rw [l2, show (0 : Int) + 1 = 1 from rfl, r1]
  rw [w64 (n := 0 + (a.length : Int) + (b.length : Int)) (by omega) (by omega), w64 (n := (1 : Int) + 1) (by omega) (by omega)]
  refine ev_pos (by omega) (ev_pos (by omega) (ev_pos (by omega) (ev_neg (by omega) ?_)))
  refine Ev.step (fun k => by rw [slices_Concat_int_int.l0]) ?_
  refine ev_neg (by omega) (ev_some (slices_Grow_f _ (by omega) (by omega)) ?_)
  refine Ev.step (fun k => by rw [slices_Concat_int_int.l1]) ?_
  rw [l2, r0, w64 (n := (0 : Int) + 1) (by omega) (by omega)]
  refine ev_pos (by omega) (ev_pos (by omega) (ev_pos (by omega) (ev_pos (by rw [List.length_nil]; omega) ?_)))
  refine Ev.step (fun k => by rw [slices_Concat_int_int.l1]) ?_
  rw [l2, show (0 : Int) + 1 = 1 from rfl, r1, w64 (n := (1 : Int) + 1) (by omega) (by omega)]
  refine ev_pos (by omega) (ev_pos (by omega) (ev_pos (by omega) (ev_pos (by rw [List.nil_append]; omega) ?_)))
  refine Ev.step (fun k => by rw [slices_Concat_int_int.l1]) ?_
  exact ev_neg (by omega) (ev_now' (by rw [List.nil_append]))
theorem allO_all (p : Int → Option Bool) (q : Int → Bool) (h : ∀ x, p x = some (q x)) (l : List Int) : allO p l = some (l.all q) := by
  induction l with
  | nil => rfl
  | cons x l ih =>
    rw [allO, h x, Option.bind_some]
    cases hq : q x
    · simp [hq]
    · rw [if_pos rfl, ih]; simp [hq]
theorem impl_areAll_WaveOf_1_f (l : List Int) : impl_areAll_WaveOf_1.f l = some (l.all fun a => decide (0 ≤ a ∧ a ≤ 511)) := allO_all _ _ impl_WaveOf_1_f l
theorem laws_eqUint64S_l0 (xs ys : List Int) (hl : xs.length = ys.length) (hm : xs.length ≤ 140737488355328) : ∀ (d n : Nat), n + d = xs.length → Ev (fun k => laws_eqUint64S.l0 k xs ys (n : Int)) (decide (xs.drop n = ys.drop n)) := by
  intro d
  induction d with
  | zero =>
    intro n hn
    refine Ev.step (fun k => by rw [laws_eqUint64S.l0]) ?_
    refine ev_neg (by omega) (ev_now' ?_)
    rw [List.drop_eq_nil_of_le (by omega), List.drop_eq_nil_of_le (by omega)]; rfl
  | succ d ih =>
    intro n hn
    refine Ev.step (fun k => by rw [laws_eqUint64S.l0]) ?_
    refine ev_pos (by omega) (ev_pos (by omega) (ev_pos (by omega) ?_))
    rw [rd_lt (by omega), rd_lt (by omega), w64 (by omega) (by omega)]
    rw [List.drop_eq_getElem_cons (show n < xs.length by omega), List.drop_eq_getElem_cons (show n < ys.length by omega)]
    refine ev_ite (fun h => ev_eq (ih (n + 1) (by omega)) ?_) (fun h => ev_now' ?_)
    · simp only [List.cons.injEq, h, true_and]
    · exact (decide_eq_false (fun e => h (List.cons.inj e).1)).symm
theorem laws_eqUint64S_ev (xs ys : List Int) (hm : xs.length ≤ 140737488355328) : Ev (fun k => laws_eqUint64S.f k xs ys) (decide (xs = ys)) := by
  unfold laws_eqUint64S.f
  refine ev_ite (fun h => ?_) (fun h => ev_now' ?_)
  · exact laws_eqUint64S_l0 xs ys (by omega) hm xs.length 0 (by omega)
  · exact (decide_eq_false (fun e => h (by rw [e]))).symm
theorem laws_eqBits_ev (a : Int) (l : List Int) (b : Int) (m : List Int) (hm : l.length ≤ 140737488355328) : Ev (fun k => laws_eqBits.f k a l b m) (decide (a = b ∧ l = m)) := by
  unfold laws_eqBits.f
  refine ev_ite (fun h => ev_bind (laws_eqUint64S_ev l m hm) (ev_ite (fun h' => ev_now' ?_) (fun h' => ev_now' ?_))) (fun h => ev_now' ?_)
  · simp at h'; simp [h, h']
  · simp at h'; simp [h']
  · simp [h]
theorem laws_markUint64S_l0 (xs : List Int) (a : Nat) (hm : a + xs.length ≤ 1099511627776) : ∀ (d n : Nat), n + d = xs.length → Ev (fun k => laws_markUint64S.l0 k (marked (fun x => IntKind.u64.wrap x) n a ++ xs.drop n) ((a + n : Nat) : Int) (n : Int)) (((a + xs.length : Nat) : Int), marked (fun x => IntKind.u64.wrap x) xs.length a) := by
  intro d
  induction d with
  | zero =>
    intro n hn
    have e : n = xs.length := by omega
    subst e
    refine Ev.step (fun k => by rw [laws_markUint64S.l0]) ?_
    refine ev_neg (by simp [marked_length]) (ev_now' ?_)
    rw [List.drop_length, List.append_nil]
  | succ d ih =>
    intro n hn
    refine Ev.step (fun k => by rw [laws_markUint64S.l0]) ?_
    refine ev_pos (by simp [marked_length]; omega) (ev_pos (by omega) ?_)
    rw [w64 (by omega) (by omega), w64 (by omega) (by omega), Int.toNat_natCast]
    have e := set_mark (c := (fun x => IntKind.u64.wrap x)) (a := a) (show n < xs.length by omega)
    rw [show (IntKind.u64.wrap ((a + n : Nat) : Int)) = (fun x => IntKind.u64.wrap x) ((a + n : Nat) : Int) from rfl, e]
    exact ih (n + 1) (by omega)
theorem laws_markUint64S_ev (xs : List Int) (a : Nat) (hm : a + xs.length ≤ 1099511627776) : Ev (fun k => laws_markUint64S.f k xs (a : Int)) (((a + xs.length : Nat) : Int), marked (fun x => IntKind.u64.wrap x) xs.length a) := by
  unfold laws_markUint64S.f
  have h := laws_markUint64S_l0 xs a hm xs.length 0 (by omega)
  simpa [marked] using h
theorem laws_heldIntS_l0 (m a : Nat) (hm : a + m ≤ 1099511627776) : ∀ (d n : Nat), n + d = m → Ev (fun k => laws_heldIntS.l0 k (marked (fun x => x) m a) ((a + n : Nat) : Int) (n : Int)) ((a + m : Nat) : Int) := by
  intro d
  induction d with
  | zero =>
    intro n hn
    have e : n = m := by omega
    subst e
    refine Ev.step (fun k => by rw [laws_heldIntS.l0]) ?_
    exact ev_neg (by simp [marked_length]) (ev_now _)
  | succ d ih =>
    intro n hn
    refine Ev.step (fun k => by rw [laws_heldIntS.l0]) ?_
    refine ev_pos (by rw [marked_length]; omega) (ev_pos (by omega) ?_)
    rw [rd_lt (by rw [marked_length]; omega), marked_get _ _ _ _ (by omega), w64 (by omega) (by omega), w64 (by omega) (by omega)]
    exact ev_pos rfl (ih (n + 1) (by omega))
theorem laws_heldIntS_ev (m a : Nat) (hm : a + m ≤ 1099511627776) : Ev (fun k => laws_heldIntS.f k (marked (fun x => x) m a) (a : Int)) ((a + m : Nat) : Int) := by
  unfold laws_heldIntS.f
  exact laws_heldIntS_l0 m a hm m 0 (by omega)
theorem laws_heldUint64S_l0 (m a : Nat) (hm : a + m ≤ 1099511627776) : ∀ (d n : Nat), n + d = m → Ev (fun k => laws_heldUint64S.l0 k (marked (fun x => IntKind.u64.wrap x) m a) ((a + n : Nat) : Int) (n : Int)) ((a + m : Nat) : Int) := by
  intro d
  induction d with
  | zero =>
    intro n hn
    have e : n = m := by omega
    subst e
    refine Ev.step (fun k => by rw [laws_heldUint64S.l0]) ?_
    exact ev_neg (by simp [marked_length]) (ev_now _)
  | succ d ih =>
    intro n hn
    refine Ev.step (fun k => by rw [laws_heldUint64S.l0]) ?_
    refine ev_pos (by rw [marked_length]; omega) (ev_pos (by omega) ?_)
    rw [rd_lt (by rw [marked_length]; omega), marked_get _ _ _ _ (by omega), w64 (by omega) (by omega), w64 (by omega) (by omega)]
    exact ev_pos rfl (ih (n + 1) (by omega))
theorem laws_heldUint64S_ev (m a : Nat) (hm : a + m ≤ 1099511627776) : Ev (fun k => laws_heldUint64S.f k (marked (fun x => IntKind.u64.wrap x) m a) (a : Int)) ((a + m : Nat) : Int) := by
  unfold laws_heldUint64S.f
  exact laws_heldUint64S_l0 m a hm m 0 (by omega)

def bitL (l : Nat) (x : Int) : Int := ((x.toNat / 2 ^ (8 - l) % 2 : Nat) : Int)
def loL (l : Nat) (xs : List Int) : List Int := xs.filter fun x => decide (bitL l x = 0)
def hiL (l : Nat) (xs : List Int) : List Int := xs.filter fun x => !decide (bitL l x = 0)
def bitsL (l : Nat) (xs : List Int) : List Int := xs.map (bitL l)
def small (xs : List Int) : Prop := ∀ x ∈ xs, 0 ≤ x ∧ x ≤ 511
theorem bitL_bit (l : Nat) (x : Int) : bitL l x = 0 ∨ bitL l x = 1 := by unfold bitL; omega
theorem bitsL_bits (l : Nat) (xs : List Int) : isBits (bitsL l xs) := by
  intro b hb
  obtain ⟨x, _, rfl⟩ := List.mem_map.1 hb
  exact bitL_bit l x
theorem bitsL_length (l : Nat) (xs : List Int) : (bitsL l xs).length = xs.length := by unfold bitsL; rw [List.length_map]
theorem parts_length (l : Nat) (xs : List Int) : (loL l xs).length + (hiL l xs).length = xs.length := by
  unfold loL hiL
  induction xs with
  | nil => rfl
  | cons x xs ih =>
    by_cases h : bitL l x = 0
    · rw [List.filter_cons_of_pos (by simp [h]), List.filter_cons_of_neg (by simp [h]), List.length_cons, List.length_cons]; omega
    · rw [List.filter_cons_of_neg (by simp [h]), List.filter_cons_of_pos (by simp [h]), List.length_cons, List.length_cons]; omega
theorem small_next {l : Nat} {xs : List Int} (h : small xs) : small (loL l xs ++ hiL l xs) := by
  intro x hx
  rcases List.mem_append.1 hx with g | g
  · exact h x (List.mem_filter.1 g).1
  · exact h x (List.mem_filter.1 g).1
theorem shr_i64n (a s : Nat) (hs : s ≤ 63) : shr .i64 (a : Int) (s : Int) = ((a / 2 ^ s : Nat) : Int) := by
  unfold shr
  rw [Int.toNat_natCast, Nat.min_eq_left (by simp [IntKind.bits]; omega), show ((2 : Int) ^ s) = ((2 ^ s : Nat) : Int) by simp]
  rfl
theorem w8 (l : Nat) (hl : l < 9) : wrap64 (8 - (l : Int)) = ((8 - l : Nat) : Int) := by rw [w64 (by omega) (by omega)]; omega
theorem impl_bit (x : Int) (l : Nat) (hx : 0 ≤ x ∧ x ≤ 511) (hl : l < 9) : Go.bits .and .i64 (shr .i64 x (wrap64 (8 - (l : Int)))) 1 = bitL l x := by
  obtain ⟨n, rfl⟩ := Int.eq_ofNat_of_zero_le hx.1
  have hn : n ≤ 511 := by omega
  rw [w8 l hl, shr_i64n n (8 - l) (by omega)]
  have hd : n / 2 ^ (8 - l) ≤ n := Nat.div_le_self _ _
  have h := and_i64 (n / 2 ^ (8 - l)) 1 (by omega) (by omega)
  rw [show ((1 : Nat) : Int) = 1 from rfl] at h
  rw [h, Nat.and_one_is_mod]
  unfold bitL
  rw [Int.toNat_natCast]
theorem spec_bit (x : Int) (l : Nat) (hx : 0 ≤ x ∧ x ≤ 511) : Int.tmod (wrap64 (Int.tdiv x ((2 ^ (8 - l) : Nat) : Int))) 2 = bitL l x := by
  obtain ⟨n, rfl⟩ := Int.eq_ofNat_of_zero_le hx.1
  have hn : n ≤ 511 := by omega
  have hd : n / 2 ^ (8 - l) ≤ n := Nat.div_le_self _ _
  unfold bitL
  rw [tdiv_nat, Int.toNat_natCast]
  generalize n / 2 ^ (8 - l) = q at *
  rw [w64 (by omega) (by omega)]
  exact tmod_nat q 2
theorem loL_cons_pos {l : Nat} {x : Int} {xs : List Int} (h : bitL l x = 0) : loL l (x :: xs) = x :: loL l xs ∧ hiL l (x :: xs) = hiL l xs := by
  unfold loL hiL
  exact ⟨List.filter_cons_of_pos (by simp [h]), List.filter_cons_of_neg (by simp [h])⟩
theorem loL_cons_neg {l : Nat} {x : Int} {xs : List Int} (h : ¬ bitL l x = 0) : loL l (x :: xs) = loL l xs ∧ hiL l (x :: xs) = x :: hiL l xs := by
  unfold loL hiL
  exact ⟨List.filter_cons_of_neg (by simp [h]), List.filter_cons_of_pos (by simp [h])⟩
theorem spec_WaveOf_l2 (xs : List Int) (hs : small xs) (hm : xs.length ≤ 1000) (l : Nat) (hl : l < 9) (N : Int) (Z : List Int) (V : List S29) (B Lo Hi : List Int) (r : Int × List Int × List S29 × Bool)
    (hfin : Ev (fun k => (spec_BitsOf.f k B).bind fun bt156 => (if V.length < 4398046511104 then (if Z.length < 17592186044416 then (if Lo.length + Hi.length < 17592186044416 then (spec_WaveOf.l1 k (Lo ++ Hi) (wrap64 ((l : Int) + 1)) N (Z ++ [(Lo.length : Int)]) (V ++ [(⟨bt156.1, bt156.2.1⟩ : S29)])) else (none)) else (none)) else (none))) r) :
    ∀ (d i : Nat) (b lo hi : List Int), i + d = xs.length → b.length ≤ i → lo.length ≤ i → hi.length ≤ i → b ++ bitsL l (xs.drop i) = B → lo ++ loL l (xs.drop i) = Lo → hi ++ hiL l (xs.drop i) = Hi → Ev (fun k => spec_WaveOf.l2 k xs (l : Int) b lo hi (i : Int) N Z V) r := by
  intro d
  induction d with
  | zero =>
    intro i b lo hi hi0 h1 h2 h3 hB hLo hHi
    rw [List.drop_eq_nil_of_le (by omega)] at hB hLo hHi
    have e1 : b = B := by simpa [bitsL] using hB
    have e2 : lo = Lo := by simpa [loL] using hLo
    have e3 : hi = Hi := by simpa [hiL] using hHi
    subst e1; subst e2; subst e3
    refine Ev.step (fun k => by rw [spec_WaveOf.l2]) ?_
    exact ev_neg (by omega) hfin
  | succ d ih =>
    intro i b lo hi hi0 h1 h2 h3 hB hLo hHi
    have hil : i < xs.length := by omega
    have hx := hs xs[i] (List.getElem_mem hil)
    rw [List.drop_eq_getElem_cons hil] at hB hLo hHi
    refine Ev.step (fun k => by rw [spec_WaveOf.l2]) ?_
    rw [rd_lt hil, w8 l hl, w64 (n := (i : Int) + 1) (by omega) (by omega), show (i : Int) + 1 = ((i + 1 : Nat) : Int) by omega]
    refine ev_pos (by omega) ?_
    refine ev_pos (by omega) ?_
    refine ev_bind (spec_l02Pow_ev (8 - l) (by omega)) ?_
    have hp := Nat.two_pow_pos (8 - l)
    refine ev_neg (by omega) ?_
    refine ev_pos (by omega) ?_
    rw [spec_bit xs[i] l hx]
    refine ev_some rfl ?_
    have hB' : (b ++ [bitL l xs[i]]) ++ bitsL l (xs.drop (i + 1)) = B := by rw [← hB, List.append_assoc]; rfl
    refine ev_ite (fun h => ?_) (fun h => ?_)
    · obtain ⟨c1, c2⟩ := loL_cons_pos (xs := xs.drop (i + 1)) h
      rw [c1] at hLo
      rw [c2] at hHi
      refine ev_pos (by omega) ?_
      exact ih (i + 1) _ _ _ (by omega) (by rw [List.length_append, List.length_singleton]; omega) (by rw [List.length_append, List.length_singleton]; omega) (by omega) hB' (by rw [← hLo, List.append_assoc]; rfl) hHi
    · obtain ⟨c1, c2⟩ := loL_cons_neg (xs := xs.drop (i + 1)) h
      rw [c1] at hLo
      rw [c2] at hHi
      refine ev_pos (by omega) ?_
      exact ih (i + 1) _ _ _ (by omega) (by rw [List.length_append, List.length_singleton]; omega) (by omega) (by rw [List.length_append, List.length_singleton]; omega) hB' hLo (by rw [← hHi, List.append_assoc]; rfl)
theorem impl_WaveOf_l1 (xs : List Int) (hs : small xs) (hm : xs.length ≤ 1000) (l : Nat) (hl : l < 9) (N : Int) (Z : List Int) (V : List S29) (B Lo Hi : List Int) (r : Int × List Int × List S29 × Bool)
    (hfin : Ev (fun k => (if Z.length < 17592186044416 then ((impl_bitsOf.f k B).bind fun bt210 => (if V.length < 4398046511104 then ((slices_Concat_int_int.f k (([Lo, Hi] : List (List Int)))).bind fun t220 => (impl_WaveOf.l0 k t220 (wrap64 ((l : Int) + 1)) N (Z ++ [(Lo.length : Int)]) (V ++ [(⟨bt210.1, bt210.2⟩ : S29)]))) else (none))) else (none))) r) :
    ∀ (d i : Nat) (b lo hi : List Int), i + d = xs.length → b.length ≤ i → lo.length ≤ i → hi.length ≤ i → b ++ bitsL l (xs.drop i) = B → lo ++ loL l (xs.drop i) = Lo → hi ++ hiL l (xs.drop i) = Hi → Ev (fun k => impl_WaveOf.l1 k (l : Int) lo hi b (l : Int) xs (xs.length : Int) (i : Int) N Z V) r := by
  intro d
  induction d with
  | zero =>
    intro i b lo hi hi0 h1 h2 h3 hB hLo hHi
    rw [List.drop_eq_nil_of_le (by omega)] at hB hLo hHi
    have e1 : b = B := by simpa [bitsL] using hB
    have e2 : lo = Lo := by simpa [loL] using hLo
    have e3 : hi = Hi := by simpa [hiL] using hHi
    subst e1; subst e2; subst e3
    refine Ev.step (fun k => by rw [impl_WaveOf.l1]) ?_
    exact ev_neg (by omega) hfin
  | succ d ih =>
    intro i b lo hi hi0 h1 h2 h3 hB hLo hHi
    have hil : i < xs.length := by omega
    have hx := hs xs[i] (List.getElem_mem hil)
    rw [List.drop_eq_getElem_cons hil] at hB hLo hHi
    refine Ev.step (fun k => by rw [impl_WaveOf.l1]) ?_
    rw [rd_lt hil, impl_bit xs[i] l hx hl, w64 (n := (i : Int) + 1) (by omega) (by omega), show (i : Int) + 1 = ((i + 1 : Nat) : Int) by omega]
    refine ev_pos (by omega) ?_
    refine ev_pos (by omega) ?_
    refine ev_pos (by omega) ?_
    refine ev_pos (by rw [w8 l hl]; omega) ?_
    refine ev_pos (by omega) ?_
    refine ev_some rfl ?_
    have hB' : (b ++ [bitL l xs[i]]) ++ bitsL l (xs.drop (i + 1)) = B := by rw [← hB, List.append_assoc]; rfl
    refine ev_ite (fun h => ?_) (fun h => ?_)
    · obtain ⟨c1, c2⟩ := loL_cons_pos (xs := xs.drop (i + 1)) h
      rw [c1] at hLo
      rw [c2] at hHi
      refine ev_pos (by omega) ?_
      exact ih (i + 1) _ _ _ (by omega) (by rw [List.length_append, List.length_singleton]; omega) (by rw [List.length_append, List.length_singleton]; omega) (by omega) hB' (by rw [← hLo, List.append_assoc]; rfl) hHi
    · obtain ⟨c1, c2⟩ := loL_cons_neg (xs := xs.drop (i + 1)) h
      rw [c1] at hLo
      rw [c2] at hHi
      refine ev_pos (by omega) ?_
      exact ih (i + 1) _ _ _ (by omega) (by rw [List.length_append, List.length_singleton]; omega) (by omega) (by rw [List.length_append, List.length_singleton]; omega) hB' hLo (by rw [← hHi, List.append_assoc]; rfl)
def waveGo : Nat → Nat → List Int → List Int → List S29 → List Int × List S29
  | 0, _, _, Z, V => (Z, V)
  | d + 1, l, xs, Z, V => waveGo d (l + 1) (loL l xs ++ hiL l xs) (Z ++ [((loL l xs).length : Int)]) (V ++ [⟨(xs.length : Int), wordsOf (bitsL l xs)⟩])
theorem wave_both (N : Int) : ∀ (d l : Nat) (xs : List Int) (Z : List Int) (V : List S29), l + d = 9 → small xs → xs.length ≤ 1000 → Z.length ≤ 9 → V.length ≤ 9 → Z.length = l → V.length = l →
    Ev (fun k => spec_WaveOf.l1 k xs (l : Int) N Z V) (N, (waveGo d l xs Z V).1, (waveGo d l xs Z V).2, true) ∧ Ev (fun k => impl_WaveOf.l0 k xs (l : Int) N Z V) (N, (waveGo d l xs Z V).1, (waveGo d l xs Z V).2, true) := by
  intro d
  induction d with
  | zero =>
    intro l xs Z V hd hs hm hz hv hz2 hv2
    rw [waveGo]
    constructor
    · refine Ev.step (fun k => by rw [spec_WaveOf.l1]) ?_
      exact ev_neg (by omega) (ev_now _)
    · refine Ev.step (fun k => by rw [impl_WaveOf.l0]) ?_
      exact ev_neg (by omega) (ev_now _)
  | succ d ih =>
    intro l xs Z V hd hs hm hz hv hz2 hv2
    have hl : l < 9 := by omega
    have hp := parts_length l xs
    have hnext := ih (l + 1) (loL l xs ++ hiL l xs) (Z ++ [((loL l xs).length : Int)]) (V ++ [⟨(xs.length : Int), wordsOf (bitsL l xs)⟩]) (by omega) (small_next hs) (by rw [List.length_append]; omega) (by rw [List.length_append, List.length_singleton]; omega) (by rw [List.length_append, List.length_singleton]; omega) (by rw [List.length_append, List.length_singleton]; omega) (by rw [List.length_append, List.length_singleton]; omega)
    rw [waveGo]
    have hbl := bitsL_length l xs
    have hbb := bitsL_bits l xs
    have e1 : wrap64 ((l : Int) + 1) = ((l + 1 : Nat) : Int) := by rw [w64 (by omega) (by omega)]; omega
    constructor
    · refine Ev.step (fun k => by rw [spec_WaveOf.l1]) ?_
      refine ev_pos (by omega) ?_
      have hb : Ev (fun k => spec_BitsOf.f k (bitsL l xs)) ((xs.length : Int), wordsOf (bitsL l xs), true) := by
        have := spec_BitsOf_ev (bitsL l xs)
        unfold bitsOfR at this
        rw [if_pos (by rw [decide_eq_true (by omega), Bool.true_and, List.all_eq_true]; intro x hx; exact decide_eq_true (hbb x hx)), hbl] at this
        exact this
      refine spec_WaveOf_l2 xs hs hm l hl N Z V (bitsL l xs) (loL l xs) (hiL l xs) _ ?_ xs.length 0 [] [] [] (by omega) (by simp) (by simp) (by simp) (by simp) (by simp) (by simp)
      refine ev_bind hb ?_
      refine ev_pos (by omega) ?_
      refine ev_pos (by omega) ?_
      refine ev_pos (by omega) ?_
      rw [e1]
      exact hnext.1
    · refine Ev.step (fun k => by rw [impl_WaveOf.l0]) ?_
      refine ev_pos (by omega) ?_
      have hb : Ev (fun k => impl_bitsOf.f k (bitsL l xs)) ((xs.length : Int), wordsOf (bitsL l xs)) := by
        have := impl_bitsOf_ev (bitsL l xs) (by omega) hbb
        rw [hbl] at this
        exact this
      refine impl_WaveOf_l1 xs hs hm l hl N Z V (bitsL l xs) (loL l xs) (hiL l xs) _ ?_ xs.length 0 [] [] [] (by omega) (by simp) (by simp) (by simp) (by simp) (by simp) (by simp)
      refine ev_pos (by omega) ?_
      refine ev_bind hb ?_
      refine ev_pos (by omega) ?_
      refine ev_bind (slices_Concat_ev (loL l xs) (hiL l xs) (by omega) (by omega)) ?_
      rw [e1]
      exact hnext.2
def sizeW : List S29 → Nat
  | [] => 0
  | x :: xs => 1 + x.f1.length + sizeW xs
theorem sizeW_append : ∀ a b : List S29, sizeW (a ++ b) = sizeW a + sizeW b
  | [], b => by rw [List.nil_append, sizeW, Nat.zero_add]
  | x :: xs, b => by rw [List.cons_append, sizeW, sizeW, sizeW_append xs b]; omega
theorem sizeW_mem : ∀ (l : List S29) (x : S29), x ∈ l → x.f1.length < sizeW l
  | y :: ys, x, h => by
    rw [sizeW]
    rcases List.mem_cons.1 h with g | g
    · subst g; omega
    · have := sizeW_mem ys x g; omega
theorem sizeW_len : ∀ l : List S29, l.length ≤ sizeW l
  | [] => Nat.le_refl _
  | x :: xs => by have := sizeW_len xs; rw [sizeW, List.length_cons]; omega
theorem waveGo_size : ∀ (d l : Nat) (xs : List Int) (Z : List Int) (V : List S29), xs.length ≤ 1000 → (waveGo d l xs Z V).1.length = Z.length + d ∧ sizeW (waveGo d l xs Z V).2 ≤ sizeW V + d * 17 := by
  intro d
  induction d with
  | zero => intro l xs Z V _; rw [waveGo]; exact ⟨rfl, Nat.le_add_right _ _⟩
  | succ d ih =>
    intro l xs Z V hm
    have hp := parts_length l xs
    have := ih (l + 1) (loL l xs ++ hiL l xs) (Z ++ [((loL l xs).length : Int)]) (V ++ [⟨(xs.length : Int), wordsOf (bitsL l xs)⟩]) (by rw [List.length_append]; omega)
    rw [waveGo]
    rw [List.length_append, List.length_singleton, sizeW_append, sizeW, sizeW] at this
    have hw : (wordsOf (bitsL l xs)).length = (xs.length + 63) / 64 := by rw [wordsOf_length, bitsL_length]
    have h2 := this.2
    have hw2 : (⟨(xs.length : Int), wordsOf (bitsL l xs)⟩ : S29).f1.length = (xs.length + 63) / 64 := hw
    rw [hw2] at h2
    exact ⟨by rw [this.1]; omega, by omega⟩
def smallB (xs : List Int) : Bool := xs.all fun a => decide (0 ≤ a ∧ a ≤ 511)
theorem smallB_is {xs : List Int} (h : smallB xs = true) : small xs := fun x hx => of_decide_eq_true (List.all_eq_true.1 h x hx)
def waveR (xs : List Int) : Int × List Int × List S29 × Bool := if (decide (xs.length ≤ 1000) && smallB xs) = true then ((xs.length : Int), (waveGo 9 0 xs [] []).1, (waveGo 9 0 xs [] []).2, true) else (0, [], [], false)
theorem waveR_size (xs : List Int) : (waveR xs).2.1.length ≤ 9 ∧ sizeW (waveR xs).2.2.1 ≤ 153 := by
  unfold waveR
  split
  · rename_i h
    have hm : xs.length ≤ 1000 := by
      rw [Bool.and_eq_true] at h
      exact of_decide_eq_true h.1
    have := waveGo_size 9 0 xs [] [] hm
    exact ⟨by show (waveGo 9 0 xs [] []).1.length ≤ 9; rw [this.1]; simp, by show sizeW (waveGo 9 0 xs [] []).2 ≤ 153; have h2 := this.2; rw [sizeW] at h2; omega⟩
  · exact ⟨Nat.zero_le _, Nat.zero_le _⟩
theorem spec_WaveOf_l0 (xs : List Int) (hm : xs.length ≤ 1000) (r : Int × List Int × List S29 × Bool) (h : smallB xs = true → Ev (fun k => spec_WaveOf.l1 k xs 0 (xs.length : Int) [] []) r) (h0 : smallB xs = false → r = (0, [], [], false)) :
    ∀ (d n : Nat), n + d = xs.length → smallB (xs.take n) = true → Ev (fun k => spec_WaveOf.l0 k xs (n : Int)) r := by
  intro d
  induction d with
  | zero =>
    intro n hn ht
    rw [List.take_of_length_le (by omega)] at ht
    refine Ev.step (fun k => by rw [spec_WaveOf.l0]) ?_
    refine ev_neg (by omega) ?_
    refine ev_some rfl ?_
    refine ev_pos (by rw [List.length_nil]; omega) ?_
    rw [List.nil_append]
    exact h ht
  | succ d ih =>
    intro n hn ht
    have hlt : n < xs.length := by omega
    refine Ev.step (fun k => by rw [spec_WaveOf.l0]) ?_
    rw [rd_lt hlt, w64 (n := (n : Int) + 1) (by omega) (by omega), show (n : Int) + 1 = ((n + 1 : Nat) : Int) by omega]
    refine ev_pos (by omega) ?_
    refine ev_pos (by omega) ?_
    have hbad : ¬ (0 ≤ xs[n] ∧ xs[n] ≤ 511) → smallB xs = false := by
      intro hb
      rw [Bool.eq_false_iff]
      intro hc
      exact hb (smallB_is hc _ (List.getElem_mem hlt))
    refine ev_ite (fun g => ?_) (fun g => ev_ite (fun g1 => ?_) (fun g1 => ?_))
    · rw [h0 (hbad (by omega))]; exact ev_now _
    · rw [h0 (hbad (by omega))]; exact ev_now _
    · refine ih (n + 1) (by omega) ?_
      rw [take_snoc' hlt]
      unfold smallB at ht ⊢
      rw [List.all_append, ht, Bool.true_and, List.all_cons, List.all_nil, Bool.and_true]
      exact decide_eq_true (by omega)
theorem spec_WaveOf_ev (xs : List Int) : Ev (fun k => spec_WaveOf.f k xs) (waveR xs) := by
  unfold spec_WaveOf.f waveR
  refine ev_ite (fun h => ev_now' (by rw [decide_eq_false (by omega), Bool.false_and]; rfl)) (fun h => ?_)
  have hm : xs.length ≤ 1000 := by omega
  rw [decide_eq_true hm, Bool.true_and]
  refine spec_WaveOf_l0 xs hm _ (fun hs => ?_) (fun hs => ?_) xs.length 0 (by omega) rfl
  · rw [if_pos hs]
    exact (wave_both (xs.length : Int) 9 0 xs [] [] (by omega) (smallB_is hs) hm (by simp) (by simp) rfl rfl).1
  · rw [hs]; rfl
theorem impl_WaveOf_ev (xs : List Int) : Ev (fun k => impl_WaveOf.f k xs) (waveR xs) := by
  unfold impl_WaveOf.f waveR
  refine ev_ite (fun h => ?_) (fun h => ?_)
  · rw [decide_eq_false (by omega), Bool.false_and]
    refine Ev.step (fun k => by rw [impl_WaveOf.j0]) ?_
    exact ev_pos rfl (ev_now _)
  · have hm : xs.length ≤ 1000 := by omega
    rw [decide_eq_true hm, Bool.true_and]
    refine ev_some (impl_areAll_WaveOf_1_f xs) ?_
    by_cases hs : smallB xs = true
    · rw [if_pos hs]
      have hs' : (xs.all fun a => decide (0 ≤ a ∧ a ≤ 511)) = true := hs
      rw [hs']
      refine Ev.step (fun k => by rw [impl_WaveOf.j0]) ?_
      refine ev_neg (by decide) ?_
      exact (wave_both (xs.length : Int) 9 0 xs [] [] (by omega) (smallB_is hs) hm (by simp) (by simp) rfl rfl).2
    · rw [if_neg hs]
      have hs' : (xs.all fun a => decide (0 ≤ a ∧ a ≤ 511)) = false := Bool.eq_false_iff.mpr hs
      rw [hs']
      refine Ev.step (fun k => by rw [impl_WaveOf.j0]) ?_
      exact ev_pos rfl (ev_now _)
theorem rdT29_lt {xs : List S29} {n : Nat} (h : n < xs.length) : rd_T29 xs (n : Int) = xs[n] := by simp [rd_T29, h]
theorem rdT29_mid (pre : List S29) (x : S29) (xs : List S29) : rd_T29 (pre ++ x :: xs) (pre.length : Int) = x := by rw [rdT29_lt (by simp)]; simp
theorem laws_eqBitsS_l0 (l : List S29) (hm : sizeW l ≤ 1099511627776) : ∀ (d n : Nat), n + d = l.length → Ev (fun k => laws_eqBitsS.l0 k l l (n : Int)) true := by
  have hl := sizeW_len l
  intro d
  induction d with
  | zero =>
    intro n hn
    refine Ev.step (fun k => by rw [laws_eqBitsS.l0]) ?_
    exact ev_neg (by omega) (ev_now _)
  | succ d ih =>
    intro n hn
    have hlt : n < l.length := by omega
    refine Ev.step (fun k => by rw [laws_eqBitsS.l0]) ?_
    refine ev_pos (by omega) (ev_pos (by omega) (ev_pos (by omega) ?_))
    rw [rdT29_lt hlt]
    have hs := sizeW_mem l l[n] (List.getElem_mem hlt)
    refine ev_bind (laws_eqBits_ev l[n].f0 l[n].f1 l[n].f0 l[n].f1 (by omega)) (ev_pos (by simp) ?_)
    rw [w64 (n := (n : Int) + 1) (by omega) (by omega)]
    exact ih (n + 1) (by omega)
theorem laws_eqBitsS_ev (l : List S29) (hm : sizeW l ≤ 1099511627776) : Ev (fun k => laws_eqBitsS.f k l l) true := by
  unfold laws_eqBitsS.f
  exact ev_pos rfl (laws_eqBitsS_l0 l hm l.length 0 (by omega))
theorem laws_eqWave_ev (a : Int) (Z : List Int) (V : List S29) (hz : Z.length ≤ 1099511627776) (hv : sizeW V ≤ 1099511627776) : Ev (fun k => laws_eqWave.f k a Z V a Z V) true := by
  unfold laws_eqWave.f
  exact ev_pos rfl (ev_bind (laws_eqIntS_ev Z Z (by omega)) (ev_pos (by simp) (ev_bind (laws_eqBitsS_ev V hv) (ev_pos rfl (ev_now _)))))
def markWL : Nat → List S29 → List S29
  | _, [] => []
  | a, x :: xs => ⟨(a : Int), marked (fun x => IntKind.u64.wrap x) x.f1.length (a + 1)⟩ :: markWL (a + 1 + x.f1.length) xs
theorem laws_markBitsS_l0 : ∀ (rest pre : List S29) (a : Nat), a + sizeW rest ≤ 1099511627776 → pre.length ≤ a → Ev (fun k => laws_markBitsS.l0 k (pre ++ rest) (a : Int) (pre.length : Int)) (((a + sizeW rest : Nat) : Int), pre ++ markWL a rest)
  | [], pre, a, _, _ => by
    rw [markWL, sizeW, Nat.add_zero, List.append_nil]
    refine Ev.step (fun k => by rw [laws_markBitsS.l0]) ?_
    exact ev_neg (by omega) (ev_now _)
  | x :: xs, pre, a, h, hp => by
    rw [sizeW] at h
    have hx := sizeW_len xs
    refine Ev.step (fun k => by rw [laws_markBitsS.l0]) ?_
    refine ev_pos (by simp; omega) (ev_pos (by omega) ?_)
    rw [rdT29_mid, w64 (n := (a : Int) + 1) (by omega) (by omega), show (a : Int) + 1 = ((a + 1 : Nat) : Int) by omega]
    refine ev_bind (laws_markUint64S_ev x.f1 (a + 1) (by omega)) ?_
    rw [w64 (n := (pre.length : Int) + 1) (by omega) (by omega), Int.toNat_natCast]
    have e : (pre ++ x :: xs).set pre.length (⟨(a : Int), marked (fun x => IntKind.u64.wrap x) x.f1.length (a + 1)⟩ : S29) = (pre ++ [⟨(a : Int), marked (fun x => IntKind.u64.wrap x) x.f1.length (a + 1)⟩]) ++ xs := by
      rw [List.set_append_right _ _ (Nat.le_refl _), Nat.sub_self, List.set_cons_zero, List.append_assoc]; rfl
    have ih := laws_markBitsS_l0 xs (pre ++ [⟨(a : Int), marked (fun x => IntKind.u64.wrap x) x.f1.length (a + 1)⟩]) (a + 1 + x.f1.length) (by omega) (by rw [List.length_append, List.length_singleton]; omega)
    rw [List.length_append, List.length_singleton, List.append_assoc _ _ (markWL _ _)] at ih
    refine ev_eq (s := (((a + 1 + x.f1.length + sizeW xs : Nat) : Int), pre ++ markWL a (x :: xs))) ?_ (by rw [sizeW, show a + 1 + x.f1.length + sizeW xs = a + (1 + x.f1.length + sizeW xs) by omega])
    show Ev (fun k => laws_markBitsS.l0 k ((pre ++ x :: xs).set pre.length (⟨(a : Int), marked (fun x => IntKind.u64.wrap x) x.f1.length (a + 1)⟩ : S29)) ((a + 1 + x.f1.length : Nat) : Int) ((pre.length : Int) + 1)) _
    rw [e]
    exact ih
theorem laws_markBitsS_ev (l : List S29) (a : Nat) (h : a + sizeW l ≤ 1099511627776) : Ev (fun k => laws_markBitsS.f k l (a : Int)) (((a + sizeW l : Nat) : Int), markWL a l) := laws_markBitsS_l0 l [] a h (by simp)
theorem laws_heldBitsS_l0 : ∀ (rest pre : List S29) (a : Nat), a + sizeW rest ≤ 1099511627776 → pre.length ≤ a → Ev (fun k => laws_heldBitsS.l0 k (pre ++ markWL a rest) (a : Int) (pre.length : Int)) ((a + sizeW rest : Nat) : Int)
  | [], pre, a, _, _ => by
    rw [markWL, sizeW, Nat.add_zero, List.append_nil]
    refine Ev.step (fun k => by rw [laws_heldBitsS.l0]) ?_
    exact ev_neg (by omega) (ev_now _)
  | x :: xs, pre, a, h, hp => by
    rw [sizeW] at h
    rw [markWL]
    refine Ev.step (fun k => by rw [laws_heldBitsS.l0]) ?_
    refine ev_pos (by simp; omega) (ev_pos (by omega) ?_)
    rw [rdT29_mid, w64 (n := (a : Int) + 1) (by omega) (by omega), show (a : Int) + 1 = ((a + 1 : Nat) : Int) by omega]
    refine ev_pos rfl (ev_bind (laws_heldUint64S_ev x.f1.length (a + 1) (by omega)) (ev_neg (by omega) ?_))
    rw [w64 (n := (pre.length : Int) + 1) (by omega) (by omega)]
    have ih := laws_heldBitsS_l0 xs (pre ++ [⟨(a : Int), marked (fun x => IntKind.u64.wrap x) x.f1.length (a + 1)⟩]) (a + 1 + x.f1.length) (by omega) (by rw [List.length_append, List.length_singleton]; omega)
    rw [List.length_append, List.length_singleton, List.append_assoc] at ih
    refine ev_eq ih ?_
    rw [sizeW]; omega
theorem laws_heldBitsS_ev (l : List S29) (a : Nat) (h : a + sizeW l ≤ 1099511627776) : Ev (fun k => laws_heldBitsS.f k (markWL a l) (a : Int)) ((a + sizeW l : Nat) : Int) := laws_heldBitsS_l0 l [] a h (by simp)
theorem FnExactWaveOf : laws_FnExactWaveOf.Pure := by
  intro l hl _ hw
  refine Ev.rounds ?_
  unfold laws_FnExactWaveOf.f
  refine ev_ite (fun _ => ev_now _) (fun h => ?_)
  have hm : l.length ≤ 35184372088832 := by omega
  have ht := laws_toIntS_ev l hm
  have hs := spec_WaveOf_ev l
  have hi := impl_WaveOf_ev l
  obtain ⟨hz, hv⟩ := waveR_size l
  generalize waveR l = R at *
  obtain ⟨N, Z, V, b⟩ := R
  have hz : Z.length ≤ 9 := hz
  have hv : sizeW V ≤ 153 := hv
  have hq := laws_eqWave_ev N Z V (by omega) (by omega)
  have hn : (b != b) = false := by simp
  have hmZ := laws_markIntS_ev Z 1 (by omega)
  have hhZ := laws_heldIntS_ev Z.length 1 (by omega)
  have hmV := laws_markBitsS_ev V (1 + Z.length) (by omega)
  have hhV := laws_heldBitsS_ev V (1 + Z.length) (by omega)
  have hheld : ∀ (Z' : List Int), Ev (fun k => laws_heldIntS.f k Z' ((1 : Nat) : Int)) ((1 + Z.length : Nat) : Int) → Ev (fun k => laws_heldWave.f k N Z' (markWL (1 + Z.length) V) 1) ((1 + Z.length + sizeW V : Nat) : Int) := by
    intro Z' hZ'
    unfold laws_heldWave.f
    exact ev_bind hZ' (ev_neg (by omega) (ev_bind hhV (ev_neg (by omega) (ev_now _))))
  have hj := hheld _ hhZ
  have k2 : Ev (fun k => laws_FnExactWaveOf.j2 k ((1 + Z.length + sizeW V : Nat) : Int) false N (marked (fun x => x) Z.length 1) (markWL (1 + Z.length) V)) true := by
    refine Ev.step (fun k => by rw [laws_FnExactWaveOf.j2]) ?_
    refine ev_neg (by decide) ?_
    exact ev_bind hj (ev_neg (by omega) (ev_pos rfl (ev_now _)))
  have hmark : Ev (fun k => laws_markWave.f k N Z V 1) (((1 + Z.length + sizeW V : Nat) : Int), marked (fun x => x) Z.length 1, markWL (1 + Z.length) V) := by
    unfold laws_markWave.f
    exact ev_bind hmZ (ev_bind hmV (ev_now _))
  have k1 : Ev (fun k => laws_FnExactWaveOf.j1 k l b false N Z V N Z V) true := by
    refine Ev.step (fun k => by rw [laws_FnExactWaveOf.j1]) ?_
    refine ev_neg (by decide) ?_
    refine ev_bind hmark ?_
    refine ev_bind hj (ev_neg (by omega) (ev_pos rfl ?_))
    refine ev_bind ht (ev_bind hi (ev_bind hq (ev_pos rfl ?_)))
    rw [hn]
    exact k2
  have k0 : Ev (fun k => laws_FnExactWaveOf.j0 k l b l b false N Z V N Z V) true := by
    refine Ev.step (fun k => by rw [laws_FnExactWaveOf.j0]) ?_
    refine ev_neg (by decide) ?_
    refine ev_bind ht (ev_bind (laws_eqIntS_ev l l (by omega)) (ev_pos (by simp) ?_))
    refine ev_bind (laws_markIntS_ev l 1 (by omega)) (ev_neg (by omega) (ev_bind hq (ev_pos rfl ?_)))
    rw [hn]
    exact k1
  refine ev_bind ht (ev_bind hs (ev_bind ht (ev_bind hi (ev_bind hq (ev_pos rfl ?_)))))
  rw [hn]
  exact k0

end Go.Proofs.Yteckcjjkblkfkaa.Pure
