/- The pure statement of the law FnExactPackOk: the program's answers equal the reference's, for all arguments within the row's bounds. -/
import Derived.Test.YteckcjjkblkfkaaQFnExactPackOkx4
import Derived.Test.YteckcjjkblkfkaaLib
namespace Go.Proofs.Yteckcjjkblkfkaa.Pure
open Go.RowKit Go.Proofs.Yteckcjjkblkfkaa.QFnExactPackOk Go.Proofs.Yteckcjjkblkfkaa.Lib Go.Proofs.YteckcjjkblkfkaaW.PrintWords Go.Proofs.YteckcjjkblkfkaaW.PrintLast Go.Proofs.YteckcjjkblkfkaaW.PrintMore
set_option linter.unusedVariables false
set_option linter.unusedSimpArgs false

theorem laws_szUint64S_f (l : List Int) (a : Nat) (hl : l.length ≤ maxLen) (ha : a ≤ 1099511627776) : laws_szUint64S.f l (a : Int) = some (if a < l.length then -1 else ((a - l.length : Nat) : Int)) := by
  unfold maxLen at hl
  unfold laws_szUint64S.f
  rw [w64 (by omega) (by omega)]
  by_cases h : a < l.length
  · rw [if_pos (by omega), if_pos h]
  · rw [if_neg (by omega), if_neg h]; congr 1; omega
theorem laws_szBits_f (x : Int) (l : List Int) (a : Nat) (hl : l.length ≤ maxLen) (ha : a ≤ 1099511627776) : laws_szBits.f x l (a : Int) = some (if a < l.length then -1 else ((a - l.length : Nat) : Int)) := by
  unfold laws_szBits.f
  rw [laws_szUint64S_f l a hl ha, Option.bind_some]
  by_cases h : a < l.length
  · rw [if_pos h]; rfl
  · rw [if_neg h, if_neg (by omega)]
theorem laws_szPacked_f (x y z : Int) (l : List Int) (a : Nat) (hl : l.length ≤ maxLen) (ha : a ≤ 1099511627776) : laws_szPacked.f x y z l (a : Int) = some (if a < l.length then -1 else ((a - l.length : Nat) : Int)) := by
  unfold laws_szPacked.f
  rw [laws_szBits_f z l a hl ha, Option.bind_some]
  by_cases h : a < l.length
  · rw [if_pos h]; rfl
  · rw [if_neg h, if_neg (by omega)]
theorem spec_l01Power_l0 : ∀ (n m : Nat), n + m ≤ 63 → Ev (fun k => spec_l01Power.l0 k (n : Int) ((2 ^ m : Nat) : Int)) ((2 ^ (n + m) : Nat) : Int) := by
  intro n
  induction n with
  | zero =>
    intro m hm
    refine Ev.step (fun k => by rw [spec_l01Power.l0]) ?_
    exact ev_neg (by omega) (ev_now' (by rw [Nat.zero_add]))
  | succ n ih =>
    intro m hm
    refine Ev.step (fun k => by rw [spec_l01Power.l0]) ?_
    have hp : 2 ^ m ≤ 2 ^ 62 := Nat.pow_le_pow_right (by decide) (by omega)
    have hpp : 2 ^ (m + 1) = 2 ^ m * 2 := Nat.pow_succ ..
    refine ev_pos (by omega) ?_
    rw [w64 (by omega) (by omega), show ((n + 1 : Nat) : Int) - 1 = (n : Int) by omega, show (2 : Int) * ((2 ^ m : Nat) : Int) = ((2 ^ (m + 1) : Nat) : Int) by omega, wraps_u64 _ (by omega) (by omega)]
    refine ev_eq (ih (m + 1) (by omega)) ?_
    rw [show n + (m + 1) = n + 1 + m by omega]
theorem spec_l01Power_ev (n : Nat) (h : n ≤ 63) : Ev (fun k => spec_l01Power.f k (n : Int)) ((2 ^ n : Nat) : Int) := by
  unfold spec_l01Power.f
  exact spec_l01Power_l0 n 0 (by omega)
theorem spec_BitsOf_one (xs : List Int) (hm : xs.length ≤ 5000) (N : Int) (r : Int × List Int × Bool) (n : Nat) (hlt : n < xs.length) (hp : isBits (xs.take n)) (hb : xs[n] = 0 ∨ xs[n] = 1)
    (h : Ev (fun k => spec_BitsOf.l0 k xs (((n + 1 : Nat)) : Int) N (wordsOf (xs.take (n + 1)))) r) : Ev (fun k => spec_BitsOf.j1 k xs (n : Int) false N (wordsOf (xs.take n))) r := by
  have lp : (xs.take n).length = n := by rw [List.length_take]; omega
  have e1 : Int.tmod (n : Int) 64 = ((n % 64 : Nat) : Int) := tmod_nat n 64
  have e2 : Int.tdiv (n : Int) 64 = ((n / 64 : Nat) : Int) := tdiv_nat n 64
  have ys : ∀ ys : List Int, ys = tab (n / 64 + 1) (fun w => ((wordAt (xs.take n) w : Nat) : Int)) → Ev (fun k => if 0 ≤ (n : Int) then (if (n : Int) < (xs.length : Int) then (if (rd xs (n : Int)) = 1 then (if 0 ≤ (wrap64 (Int.tdiv (n : Int) 64)) then (if (wrap64 (Int.tdiv (n : Int) 64)) < (ys.length : Int) then ((spec_l01Power.f k (Int.tmod (n : Int) 64)).bind fun t => (spec_BitsOf.l0 k xs (wrap64 ((n : Int) + 1)) N (ys.set ((wrap64 (Int.tdiv (n : Int) 64)) : Int).toNat (IntKind.u64.wrap ((rd ys (wrap64 (Int.tdiv (n : Int) 64))) + t))))) else (none)) else (none)) else (spec_BitsOf.l0 k xs (wrap64 ((n : Int) + 1)) N ys)) else (none)) else (none)) r := by
    intro ys hys
    refine ev_pos (by omega) (ev_pos (by omega) ?_)
    rw [rd_lt hlt, e1, e2, w64 (n := (n : Int) + 1) (by omega) (by omega), w64 (n := ((n / 64 : Nat) : Int)) (by omega) (by omega)]
    have hw : wordsOf (xs.take (n + 1)) = tab (n / 64 + 1) (fun w => (((if w = n / 64 then wordAt (xs.take n) w + xs[n].toNat * 2 ^ (n % 64) else wordAt (xs.take n) w) : Nat) : Int)) := by
      unfold wordsOf
      rw [show ((xs.take (n + 1)).length + 63) / 64 = n / 64 + 1 by rw [List.length_take]; omega, take_snoc' hlt]
      apply tab_congr
      intro i hi
      rw [wordAt_snoc, lp]
    have hlt2 := wordAt_lt' hp (n / 64) (by rw [lp])
    rw [lp] at hlt2
    have hpow : 2 ^ (n % 64) ≤ 2 ^ 63 := Nat.pow_le_pow_right (by decide) (by omega)
    rw [hw] at h
    refine ev_ite (fun h1 => ?_) (fun h1 => ?_)
    · refine ev_pos (by omega) (ev_pos (by rw [hys, tab_length]; omega) (ev_bind (spec_l01Power_ev (n % 64) (by omega)) ?_))
      rw [hys, rd_tab (by omega), Int.toNat_natCast, tab_set]
      refine Ev.congr (fun k => ?_) h
      congr 1
      apply tab_congr
      intro i hi
      by_cases e : i = n / 64
      · subst e
        rw [if_pos rfl, if_pos rfl, h1]
        generalize 2 ^ (n % 64) = q at *
        rw [wraps_u64 _ (by omega) (by omega)]
        simp
      · rw [if_neg e, if_neg e]
    · have h0 : xs[n] = 0 := by omega
      rw [hys]
      refine Ev.congr (fun k => ?_) h
      congr 1
      apply tab_congr
      intro i hi
      rw [h0]; simp
  refine Ev.step (fun k => by rw [spec_BitsOf.j1]) (ev_neg (by decide) ?_)
  have hws : (n % 64 = 0 → wordsOf (xs.take n) ++ [0] = tab (n / 64 + 1) (fun w => ((wordAt (xs.take n) w : Nat) : Int))) ∧ (n % 64 ≠ 0 → wordsOf (xs.take n) = tab (n / 64 + 1) (fun w => ((wordAt (xs.take n) w : Nat) : Int))) := by
    unfold wordsOf
    rw [lp]
    constructor
    · intro h0
      rw [show (n + 63) / 64 = n / 64 by omega, tab_succ, wordAt_nil (by rw [lp]; omega)]; rfl
    · intro h0
      rw [show (n + 63) / 64 = n / 64 + 1 by omega]
  have hl : (wordsOf (xs.take n)).length < 17592186044416 := by unfold wordsOf; rw [tab_length, lp]; omega
  by_cases h0 : n % 64 = 0
  · refine ev_pos (by rw [e1]; omega) (ev_pos hl ?_)
    exact ev_some rfl (ys _ (hws.1 h0))
  · refine ev_neg (by rw [e1]; omega) (ys _ (hws.2 h0))
theorem spec_BitsOf_l0 (xs : List Int) (hm : xs.length ≤ 5000) (N : Int) : ∀ (d n : Nat), n + d = xs.length → isBits (xs.take n) → Ev (fun k => spec_BitsOf.l0 k xs (n : Int) N (wordsOf (xs.take n))) (if (xs.drop n).all (fun a => decide (a = 0 ∨ a = 1)) = true then (N, wordsOf xs, true) else (0, [], false)) := by
  intro d
  induction d with
  | zero =>
    intro n hn hp
    refine Ev.step (fun k => by rw [spec_BitsOf.l0]) ?_
    refine ev_neg (by omega) (ev_now' ?_)
    rw [List.drop_eq_nil_of_le (by omega), List.take_of_length_le (by omega)]; rfl
  | succ d ih =>
    intro n hn hp
    have hlt : n < xs.length := by omega
    refine Ev.step (fun k => by rw [spec_BitsOf.l0]) ?_
    refine ev_pos (by omega) (ev_pos (by omega) ?_)
    rw [rd_lt hlt, List.drop_eq_getElem_cons hlt, List.all_cons]
    have good : (xs[n] = 0 ∨ xs[n] = 1) → Ev (fun k => spec_BitsOf.j1 k xs (n : Int) false N (wordsOf (xs.take n))) (if (xs.drop (n + 1)).all (fun a => decide (a = 0 ∨ a = 1)) = true then (N, wordsOf xs, true) else (0, [], false)) := by
      intro hb
      refine spec_BitsOf_one xs hm N _ n hlt hp hb (ih (n + 1) (by omega) ?_)
      rw [take_snoc' hlt]
      intro b hb'
      rcases List.mem_append.1 hb' with h | h
      · exact hp b h
      · rw [List.mem_singleton.1 h]; exact hb
    by_cases h0 : xs[n] = 0
    · rw [decide_eq_true (Or.inl h0), Bool.true_and]
      exact ev_pos h0 (good (Or.inl h0))
    · refine ev_neg h0 ?_
      by_cases h1 : xs[n] = 1
      · rw [decide_eq_true (Or.inr h1), Bool.true_and, bne_eq_false_iff_eq.2 h1]
        exact good (Or.inr h1)
      · rw [decide_eq_false (by omega), bne_iff_ne.2 h1]
        refine Ev.step (fun k => by rw [spec_BitsOf.j1]) ?_
        exact ev_pos rfl (ev_now _)
def bitsOfR (xs : List Int) : Int × List Int × Bool := if (decide (xs.length ≤ 5000) && xs.all fun a => decide (a = 0 ∨ a = 1)) = true then ((xs.length : Int), wordsOf xs, true) else (0, [], false)
theorem spec_BitsOf_ev (xs : List Int) : Ev (fun k => spec_BitsOf.f k xs) (bitsOfR xs) := by
  unfold spec_BitsOf.f bitsOfR
  refine ev_ite (fun h => ev_now' ?_) (fun h => ?_)
  · rw [decide_eq_false (by omega)]; rfl
  · rw [decide_eq_true (show xs.length ≤ 5000 by omega), Bool.true_and]
    have h := spec_BitsOf_l0 xs (by omega) (xs.length : Int) xs.length 0 (by omega) (fun b hb => by simp at hb)
    rw [List.drop_zero, show wordsOf (xs.take 0) = [] by rw [List.take_zero]; rfl] at h
    exact h
theorem spec_l01List_l1 (n : Nat) (ws : List Int) (hn : n ≤ 5000) (i v : Nat) (hi : i < n) (r : List Int)
    (h : Ev (fun k => spec_l01List.l0 k (tab (i + 1) (bitAt ws)) ((i + 1 : Nat) : Int) (n : Int) ws) r) : ∀ (s w : Nat), (w / 2 ^ s) % 2 = v % 2 → w < 2 ^ 64 → s ≤ 64 → ((v % 2 : Nat) : Int) = bitAt ws i → Ev (fun k => spec_l01List.l1 k (tab i (bitAt ws)) (i : Int) (w : Int) (s : Int) (n : Int) ws) r := by
  intro s
  induction s with
  | zero =>
    intro w hw hw2 _ hv
    refine Ev.step (fun k => by rw [spec_l01List.l1]) (ev_neg (by omega) (ev_pos (by rw [tab_length]; omega) ?_))
    rw [show Int.tmod (w : Int) 2 = ((w % 2 : Nat) : Int) from tmod_nat w 2, w64 (by omega) (by omega), w64 (by omega) (by omega)]
    refine Ev.congr (fun k => ?_) h
    rw [Nat.pow_zero, Nat.div_one] at hw
    rw [tab_succ, hw, hv]; rfl
  | succ s ih =>
    intro w hw hw2 hs hv
    refine Ev.step (fun k => by rw [spec_l01List.l1]) (ev_pos (by omega) ?_)
    rw [show Int.tdiv (w : Int) 2 = ((w / 2 : Nat) : Int) from tdiv_nat w 2, w64 (by omega) (by omega), wraps_u64 _ (by omega) (by omega), show ((s + 1 : Nat) : Int) - 1 = (s : Int) by omega]
    refine ih (w / 2) ?_ (by omega) (by omega) hv
    rw [← hw, Nat.div_div_eq_div_mul, Nat.pow_succ, Nat.mul_comm]
theorem spec_l01List_l0 (n : Nat) (ws : List Int) (hn : n ≤ 5000) (hl : (n + 63) / 64 ≤ ws.length) (hw : ∀ x ∈ ws, 0 ≤ x ∧ x ≤ 18446744073709551615) : ∀ (d i : Nat), i + d = n → Ev (fun k => spec_l01List.l0 k (tab i (bitAt ws)) (i : Int) (n : Int) ws) (listL n ws) := by
  intro d
  induction d with
  | zero =>
    intro i hi
    refine Ev.step (fun k => by rw [spec_l01List.l0]) ?_
    refine ev_neg (by omega) (ev_now' ?_)
    rw [show i = n by omega]; rfl
  | succ d ih =>
    intro i hi
    have hlt : i / 64 < ws.length := by omega
    refine Ev.step (fun k => by rw [spec_l01List.l0]) ?_
    rw [show Int.tdiv (i : Int) 64 = ((i / 64 : Nat) : Int) from tdiv_nat i 64, show Int.tmod (i : Int) 64 = ((i % 64 : Nat) : Int) from tmod_nat i 64, w64 (n := ((i / 64 : Nat) : Int)) (by omega) (by omega), rd_lt hlt]
    refine ev_pos (by omega) (ev_pos (by omega) (ev_pos (by omega) ?_))
    have hx := hw _ (List.getElem_mem hlt)
    obtain ⟨w, e⟩ : ∃ w : Nat, ws[i / 64] = (w : Int) := ⟨ws[i / 64].toNat, by omega⟩
    rw [e]
    refine spec_l01List_l1 n ws hn i (w / 2 ^ (i % 64)) (by omega) _ (ih (i + 1) (by omega)) (i % 64) w rfl (by omega) (by omega) ?_
    unfold bitAt
    rw [List.getD_eq_getElem?_getD, List.getElem?_eq_getElem hlt, Option.getD_some, e, Int.toNat_natCast]
theorem spec_l01List_ev (n : Nat) (ws : List Int) (hn : n ≤ 5000) (hl : (n + 63) / 64 ≤ ws.length) (hw : ∀ x ∈ ws, 0 ≤ x ∧ x ≤ 18446744073709551615) : Ev (fun k => spec_l01List.f k (n : Int) ws) (listL n ws) := by
  unfold spec_l01List.f
  exact spec_l01List_l0 n ws hn hl hw n 0 (by omega)
theorem spec_BitsOk_l0 (a b : Int) (xs ys : List Int) (hl : xs.length = ys.length) (hm : xs.length ≤ 140737488355328) : ∀ (d n : Nat), n + d = xs.length → Ev (fun k => spec_BitsOk.l0 k (n : Int) a xs b ys) (decide (xs.drop n = ys.drop n)) := by
  intro d
  induction d with
  | zero =>
    intro n hn
    refine Ev.step (fun k => by rw [spec_BitsOk.l0]) ?_
    refine ev_neg (by omega) (ev_now' ?_)
    rw [List.drop_eq_nil_of_le (by omega), List.drop_eq_nil_of_le (by omega)]; rfl
  | succ d ih =>
    intro n hn
    refine Ev.step (fun k => by rw [spec_BitsOk.l0]) ?_
    refine ev_pos (by omega) (ev_pos (by omega) (ev_pos (by omega) ?_))
    rw [rd_lt (by omega), rd_lt (by omega), w64 (by omega) (by omega)]
    rw [List.drop_eq_getElem_cons (show n < xs.length by omega), List.drop_eq_getElem_cons (show n < ys.length by omega)]
    refine ev_ite (fun h => ev_eq (ih (n + 1) (by omega)) ?_) (fun h => ev_now' ?_)
    · simp only [List.cons.injEq, h, true_and]
    · exact (decide_eq_false (fun e => h (List.cons.inj e).1)).symm
theorem spec_BitsOk_j0 (n : Nat) (ws : List Int) (hn : n ≤ 5000) (hl : ws.length = (n + 63) / 64) (hw : ∀ x ∈ ws, 0 ≤ x ∧ x ≤ 18446744073709551615) : Ev (fun k => spec_BitsOk.j0 k false (n : Int) ws) (bitsOk n ws) := by
  refine Ev.step (fun k => by rw [spec_BitsOk.j0]) (ev_neg (by decide) ?_)
  refine ev_bind (spec_l01List_ev n ws hn (by omega) hw) (ev_bind (spec_BitsOf_ev (listL n ws)) ?_)
  have e : bitsOfR (listL n ws) = ((n : Int), wordsOf (listL n ws), true) := by
    unfold bitsOfR
    rw [if_pos, listL_length]
    rw [listL_length, decide_eq_true hn, Bool.true_and, List.all_eq_true]
    intro b hb
    exact decide_eq_true (listL_bits n ws b hb)
  rw [e]
  refine ev_eq (spec_BitsOk_l0 (n : Int) (n : Int) ws _ (by rw [wordsOf_length, listL_length]; exact hl) (by omega) ws.length 0 (by omega)) ?_
  rw [List.drop_zero, List.drop_zero]
  unfold bitsOk
  refine decide_eq_decide.2 ?_
  rw [words_same n ws hl hw]
  constructor
  · intro h
    refine ⟨by omega, by omega, by omega, ?_⟩
    rw [show ((n : Int) % 64).toNat = n % 64 by omega]
    omega
  · intro h
    have := h.2.2.2
    rw [show ((n : Int) % 64).toNat = n % 64 by omega] at this
    omega
theorem spec_BitsOk_ev (n : Int) (ws : List Int) (hm : ws.length ≤ 140737488355328) (hw : ∀ x ∈ ws, 0 ≤ x ∧ x ≤ 18446744073709551615) : Ev (fun k => spec_BitsOk.f k n ws) (bitsOk n ws) := by
  unfold spec_BitsOk.f
  refine ev_ite (fun h => ?_) (fun h => ev_ite (fun h1 => ?_) (fun h1 => ?_))
  · refine Ev.step (fun k => by rw [spec_BitsOk.j0]) ?_
    refine ev_pos rfl (ev_now' ?_)
    exact (decide_eq_false (by omega)).symm
  · refine Ev.step (fun k => by rw [spec_BitsOk.j0]) ?_
    refine ev_pos rfl (ev_now' ?_)
    exact (decide_eq_false (by omega)).symm
  · obtain ⟨m, rfl⟩ : ∃ m : Nat, n = (m : Int) := ⟨n.toNat, by omega⟩
    rw [w64 (n := (m : Int) + 63) (by omega) (by omega), show Int.tdiv ((m : Int) + 63) 64 = (((m + 63) / 64 : Nat) : Int) from tdiv_nat (m + 63) 64, w64 (by omega) (by omega)]
    by_cases h2 : ws.length = (m + 63) / 64
    · rw [bne_eq_false_iff_eq.2 (show (ws.length : Int) = (((m + 63) / 64 : Nat) : Int) by omega)]
      exact spec_BitsOk_j0 m ws (by omega) h2 hw
    · rw [bne_iff_ne.2 (show (ws.length : Int) ≠ (((m + 63) / 64 : Nat) : Int) by omega)]
      refine Ev.step (fun k => by rw [spec_BitsOk.j0]) ?_
      refine ev_pos rfl (ev_now' ?_)
      exact (decide_eq_false (by omega)).symm
def packOk (w n b : Int) (ws : List Int) : Bool := decide (0 ≤ w ∧ w ≤ 32 ∧ 0 ≤ n ∧ n ≤ 5000) && bitsOk b ws && decide (b = w * n)
theorem pack_mul {w n : Int} (h : 0 ≤ w ∧ w ≤ 32 ∧ 0 ≤ n ∧ n ≤ 5000) : 0 ≤ w * n ∧ w * n ≤ 160000 := by
  obtain ⟨h1, h2, h3, h4⟩ := h
  refine ⟨Int.mul_nonneg h1 h3, ?_⟩
  have := Int.mul_le_mul h2 h4 h3 (by omega)
  omega
theorem packOk_true {w n b : Int} {ws : List Int} (h : packOk w n b ws = true) : ∃ w' n' : Nat, w = (w' : Int) ∧ n = (n' : Int) ∧ w' ≤ 32 ∧ n' ≤ 5000 ∧ b = ((n' * w' : Nat) : Int) ∧ n' * w' ≤ 5000 ∧ bitsOk ((n' * w' : Nat) : Int) ws = true ∧ ws.length = (n' * w' + 63) / 64 := by
  unfold packOk at h
  rw [Bool.and_eq_true, Bool.and_eq_true] at h
  have h1 := of_decide_eq_true h.1.1
  have h3 := of_decide_eq_true h.2
  have e : b = ((n.toNat * w.toNat : Nat) : Int) := by
    rw [h3, Int.natCast_mul, Int.mul_comm, Int.toNat_of_nonneg (by omega), Int.toNat_of_nonneg (by omega)]
  have h2 := h.1.2
  rw [e] at h2
  obtain ⟨m, hm1, hm2, hm3⟩ := bitsOk_true h2
  have e2 : n.toNat * w.toNat = m := by omega
  exact ⟨w.toNat, n.toNat, by omega, by omega, by omega, by omega, e, by omega, h2, by rw [e2]; exact hm3⟩
theorem spec_PackOk_ev (w n b : Int) (ws : List Int) (hm : ws.length ≤ 140737488355328) (hw : ∀ x ∈ ws, 0 ≤ x ∧ x ≤ 18446744073709551615) : Ev (fun k => spec_PackOk.f k w n b ws) (packOk w n b ws) := by
  unfold spec_PackOk.f packOk
  have bad : ¬ (0 ≤ w ∧ w ≤ 32 ∧ 0 ≤ n ∧ n ≤ 5000) → false = (decide (0 ≤ w ∧ w ≤ 32 ∧ 0 ≤ n ∧ n ≤ 5000) && bitsOk b ws && decide (b = w * n)) := by
    intro h; rw [decide_eq_false h]; rfl
  refine ev_ite (fun h1 => ev_ite (fun h2 => ev_ite (fun h3 => ev_ite (fun h4 => ?_) (fun h => ev_now' (bad (by omega)))) (fun h => ev_now' (bad (by omega)))) (fun h => ev_now' (bad (by omega)))) (fun h => ev_now' (bad (by omega)))
  have hr : 0 ≤ w ∧ w ≤ 32 ∧ 0 ≤ n ∧ n ≤ 5000 := ⟨by omega, by omega, by omega, by omega⟩
  have hmul := pack_mul hr
  rw [decide_eq_true hr, Bool.true_and, w64 (by omega) (by omega)]
  refine ev_bind (spec_BitsOk_ev b ws hm hw) (ev_ite (fun h => ev_now' ?_) (fun h => ev_now' ?_))
  · rw [h, Bool.true_and, Bool.eq_iff_iff, beq_iff_eq, decide_eq_true_iff]
  · rw [Bool.not_eq_true] at h
    rw [h]; rfl
theorem laws_toUint64S_l0 (xs : List Int) (hm : xs.length ≤ 35184372088832) : ∀ (d n : Nat) (out : List Int), n + d = xs.length → out.length = xs.length → (∀ j, j < n → out[j]? = xs[j]?) → Ev (fun k => laws_toUint64S.l0 k xs out (n : Int)) xs := by
  intro d
  induction d with
  | zero =>
    intro n out hn hl ho
    refine Ev.step (fun k => by rw [laws_toUint64S.l0]) ?_
    refine ev_neg (by omega) (ev_now' ?_)
    apply List.ext_getElem? ; intro j
    by_cases hj : j < n
    · exact ho j hj
    · rw [List.getElem?_eq_none (by omega), List.getElem?_eq_none (by omega)]
  | succ d ih =>
    intro n out hn hl ho
    refine Ev.step (fun k => by rw [laws_toUint64S.l0]) ?_
    refine ev_pos (by omega) (ev_pos (by omega) (ev_pos (by omega) ?_))
    rw [w64 (by omega) (by omega)]
    refine ih (n + 1) _ (by omega) (by simp [hl]) ?_
    intro j hj
    rw [Int.toNat_natCast, List.getElem?_set, rd_lt (by omega)]
    by_cases e : n = j
    · subst e; rw [if_pos rfl, if_pos (by omega), List.getElem?_eq_getElem (by omega)]
    · rw [if_neg e]; exact ho j (by omega)
theorem laws_toUint64S_ev (xs : List Int) (hm : xs.length ≤ 35184372088832) : Ev (fun k => laws_toUint64S.f k xs) xs := by
  unfold laws_toUint64S.f
  refine ev_pos (by omega) (ev_pos (by omega) ?_)
  exact laws_toUint64S_l0 xs hm xs.length 0 _ (by omega) (by simp) (by simp)
theorem laws_toBits_ev (a : Int) (l : List Int) (hm : l.length ≤ 35184372088832) : Ev (fun k => laws_toBits.f k a l) (a, l) := by
  unfold laws_toBits.f
  exact ev_bind (laws_toUint64S_ev l (by omega)) (ev_now _)
theorem laws_toPacked_ev (x y z : Int) (l : List Int) (hm : l.length ≤ 35184372088832) : Ev (fun k => laws_toPacked.f k x y z l) (x, y, z, l) := by
  unfold laws_toPacked.f
  exact ev_bind (laws_toBits_ev z l (by omega)) (ev_now _)
theorem impl_within_f (a b c : Int) : impl_within.f a b c = some (decide (b ≤ a ∧ a ≤ c)) := by
  unfold impl_within.f
  by_cases h : b ≤ a <;> simp [h]
theorem impl_BitsOk_f (n : Int) (ws : List Int) (hm : ws.length ≤ 140737488355328) (hw : ∀ x ∈ ws, 0 ≤ x ∧ x ≤ 18446744073709551615) : impl_BitsOk.f n ws = some (bitsOk n ws) := by
  unfold impl_BitsOk.f
  rw [impl_within_f, Option.bind_some]
  by_cases h : 0 ≤ n ∧ n ≤ 5000
  · rw [if_pos (by rw [decide_eq_true h])]
    obtain ⟨m, rfl⟩ : ∃ m : Nat, n = (m : Int) := ⟨n.toNat, by omega⟩
    rw [w64 (n := (m : Int) + 64) (by omega) (by omega), w64 (n := (m : Int) + 64 - 1) (by omega) (by omega), show (m : Int) + 64 - 1 = ((m + 63 : Nat) : Int) by omega, show Int.tdiv ((m + 63 : Nat) : Int) 64 = (((m + 63) / 64 : Nat) : Int) from tdiv_nat (m + 63) 64, w64 (n := (((m + 63) / 64 : Nat) : Int)) (by omega) (by omega), show Int.tmod (m : Int) 64 = ((m % 64 : Nat) : Int) from tmod_nat m 64]
    by_cases h1 : ws.length = (m + 63) / 64
    · rw [if_pos (by omega)]
      by_cases h2 : m % 64 = 0
      · rw [if_pos (by omega)]
        unfold bitsOk
        rw [decide_eq_true]
        refine ⟨by omega, by omega, by omega, Or.inl (by omega)⟩
      · rw [if_neg (by omega), w64 (by omega) (by omega), if_pos (by omega), if_pos (by omega), if_pos (by omega)]
        have hlt : ws.length - 1 < ws.length := by omega
        rw [show (ws.length : Int) - 1 = ((ws.length - 1 : Nat) : Int) by omega, rd_lt hlt]
        have hx := hw _ (List.getElem_mem hlt)
        obtain ⟨w, e⟩ : ∃ w : Nat, ws[ws.length - 1] = (w : Int) := ⟨ws[ws.length - 1].toNat, by omega⟩
        rw [e, shr_u64 _ _ (by omega)]
        congr 1
        unfold bitsOk
        rw [List.getD_eq_getElem?_getD, List.getElem?_eq_getElem hlt, Option.getD_some, e, Int.toNat_natCast, show ((m : Int) % 64).toNat = m % 64 by omega]
        generalize w / 2 ^ (m % 64) = q
        by_cases h3 : q = 0
        · subst h3
          rw [decide_eq_true]
          · rfl
          · exact ⟨by omega, by omega, by omega, Or.inr rfl⟩
        · rw [decide_eq_false (by omega)]
          exact beq_eq_false_iff_ne.2 (by omega)
    · rw [if_neg (by omega)]
      congr 1
      exact (decide_eq_false (by omega)).symm
  · rw [if_neg (by rw [decide_eq_false h]; decide)]
    congr 1
    exact (decide_eq_false (by omega)).symm
theorem impl_PackOk_f (w n b : Int) (ws : List Int) (hm : ws.length ≤ 140737488355328) (hw : ∀ x ∈ ws, 0 ≤ x ∧ x ≤ 18446744073709551615) : impl_PackOk.f w n b ws = some (packOk w n b ws) := by
  unfold impl_PackOk.f packOk
  rw [impl_within_f, Option.bind_some, impl_within_f, Option.bind_some, impl_BitsOk_f b ws hm hw, Option.bind_some]
  have bad : ¬ (0 ≤ w ∧ w ≤ 32 ∧ 0 ≤ n ∧ n ≤ 5000) → false = (decide (0 ≤ w ∧ w ≤ 32 ∧ 0 ≤ n ∧ n ≤ 5000) && bitsOk b ws && decide (b = w * n)) := by
    intro h; rw [decide_eq_false h]; rfl
  by_cases h1 : 0 ≤ w ∧ w ≤ 32
  · rw [if_pos (decide_eq_true h1)]
    by_cases h2 : 0 ≤ n ∧ n ≤ 5000
    · rw [if_pos (decide_eq_true h2)]
      have hr : 0 ≤ w ∧ w ≤ 32 ∧ 0 ≤ n ∧ n ≤ 5000 := ⟨by omega, by omega, by omega, by omega⟩
      have hmul := pack_mul hr
      rw [decide_eq_true hr, Bool.true_and, Int.mul_comm n w, w64 (by omega) (by omega)]
      by_cases h3 : bitsOk b ws = true
      · rw [if_pos h3, h3, Bool.true_and]
        congr 1
      · rw [if_neg h3]
        rw [Bool.not_eq_true] at h3
        rw [h3]; rfl
    · rw [if_neg (by rw [decide_eq_false h2]; decide)]
      exact congrArg some (bad (by omega))
  · rw [if_neg (by rw [decide_eq_false h1]; decide)]
    exact congrArg some (bad (by omega))
theorem laws_eqUint64S_l0 (xs ys : List Int) (hl : xs.length = ys.length) (hm : xs.length ≤ 140737488355328) : ∀ (d n : Nat), n + d = xs.length → Ev (fun k => laws_eqUint64S.l0 k xs ys (n : Int)) (decide (xs.drop n = ys.drop n)) := by
  intro d
  induction d with
  | zero =>
    intro n hn
    refine Ev.step (fun k => by rw [laws_eqUint64S.l0]) ?_
    refine ev_neg (by omega) (ev_now' ?_)
    rw [List.drop_eq_nil_of_le (by omega), List.drop_eq_nil_of_le (by omega)]; rfl
  | succ d ih =>
    intro n hn
    refine Ev.step (fun k => by rw [laws_eqUint64S.l0]) ?_
    refine ev_pos (by omega) (ev_pos (by omega) (ev_pos (by omega) ?_))
    rw [rd_lt (by omega), rd_lt (by omega), w64 (by omega) (by omega)]
    rw [List.drop_eq_getElem_cons (show n < xs.length by omega), List.drop_eq_getElem_cons (show n < ys.length by omega)]
    refine ev_ite (fun h => ev_eq (ih (n + 1) (by omega)) ?_) (fun h => ev_now' ?_)
    · simp only [List.cons.injEq, h, true_and]
    · exact (decide_eq_false (fun e => h (List.cons.inj e).1)).symm
theorem laws_eqUint64S_ev (xs ys : List Int) (hm : xs.length ≤ 140737488355328) : Ev (fun k => laws_eqUint64S.f k xs ys) (decide (xs = ys)) := by
  unfold laws_eqUint64S.f
  refine ev_ite (fun h => ?_) (fun h => ev_now' ?_)
  · exact laws_eqUint64S_l0 xs ys (by omega) hm xs.length 0 (by omega)
  · exact (decide_eq_false (fun e => h (by rw [e]))).symm
theorem laws_eqBits_ev (a : Int) (l : List Int) (b : Int) (m : List Int) (hm : l.length ≤ 140737488355328) : Ev (fun k => laws_eqBits.f k a l b m) (decide (a = b ∧ l = m)) := by
  unfold laws_eqBits.f
  refine ev_ite (fun h => ev_bind (laws_eqUint64S_ev l m hm) (ev_ite (fun h' => ev_now' ?_) (fun h' => ev_now' ?_))) (fun h => ev_now' ?_)
  · simp at h'; simp [h, h']
  · simp at h'; simp [h']
  · simp [h]
theorem laws_eqPacked_ev (a b c : Int) (l : List Int) (hm : l.length ≤ 140737488355328) : Ev (fun k => laws_eqPacked.f k a b c l a b c l) true := by
  unfold laws_eqPacked.f
  exact ev_pos rfl (ev_pos rfl (ev_bind (laws_eqBits_ev c l c l hm) (ev_pos (by simp) (ev_now _))))

theorem FnExactPackOk : laws_FnExactPackOk.Pure := by
  intro w n b ws  _ _ _ hl hw 
  refine Ev.rounds ?_
  unfold laws_FnExactPackOk.f
  refine ev_some (laws_szPacked_f w n b ws 1048576 hl (by omega)) ?_
  refine ev_ite (fun _ => ev_now _) (fun h => ?_)
  have hm : ws.length ≤ 1048576 := by
    rcases Nat.lt_or_ge 1048576 ws.length with g | g
    · rw [if_pos g] at h; omega
    · exact g
  have hw' : ∀ x ∈ ws, 0 ≤ x ∧ x ≤ 18446744073709551615 := fun x hx => wf_u64 (hw x hx)
  have ht := laws_toPacked_ev w n b ws (by omega)
  have hq := laws_eqPacked_ev w n b ws (by omega)
  refine ev_bind ht (ev_bind (spec_PackOk_ev w n b ws (by omega) hw') (ev_bind ht (ev_some (impl_PackOk_f w n b ws (by omega) hw') (ev_neg (by simp) ?_))))
  exact ev_bind ht (ev_bind hq (ev_pos rfl (ev_now _)))

end Go.Proofs.Yteckcjjkblkfkaa.Pure
