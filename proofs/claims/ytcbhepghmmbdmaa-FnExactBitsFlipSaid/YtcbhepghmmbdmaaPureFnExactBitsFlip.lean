/- The pure statement of the law FnExactBitsFlip: the program's answers equal the reference's, for all arguments within the row's bounds. -/
import Derived.Test.YtcbhepghmmbdmaaQFnExactBitsFlipx5
import Derived.Test.YtcbhepghmmbdmaaLib
namespace Go.Proofs.Ytcbhepghmmbdmaa.Pure
open Go.RowKit Go.Proofs.Ytcbhepghmmbdmaa.QFnExactBitsFlip Go.Proofs.Ytcbhepghmmbdmaa.Lib Go.Proofs.YtcbhepghmmbdmaaW.PrintWords Go.Proofs.YtcbhepghmmbdmaaW.PrintLast Go.Proofs.YtcbhepghmmbdmaaW.PrintMore
set_option linter.unusedVariables false
set_option linter.unusedSimpArgs false

theorem laws_eqUint64S_l0 (xs ys : List Int) (hl : xs.length = ys.length) (hm : xs.length ≤ 140737488355328) : ∀ (d n : Nat), n + d = xs.length → Ev (fun k => laws_eqUint64S.l0 k xs ys (n : Int)) (decide (xs.drop n = ys.drop n)) := by
  intro d
  induction d with
  | zero =>
    intro n hn
    refine Ev.step (fun k => by rw [laws_eqUint64S.l0]) ?_
    refine ev_neg (by omega) (ev_now' ?_)
    rw [List.drop_eq_nil_of_le (by omega), List.drop_eq_nil_of_le (by omega)]; rfl
  | succ d ih =>
    intro n hn
    refine Ev.step (fun k => by rw [laws_eqUint64S.l0]) ?_
    refine ev_pos (by omega) (ev_pos (by omega) (ev_pos (by omega) ?_))
    rw [rd_lt (by omega), rd_lt (by omega), w64 (by omega) (by omega)]
    rw [List.drop_eq_getElem_cons (show n < xs.length by omega), List.drop_eq_getElem_cons (show n < ys.length by omega)]
    refine ev_ite (fun h => ev_eq (ih (n + 1) (by omega)) ?_) (fun h => ev_now' ?_)
    · simp only [List.cons.injEq, h, true_and]
    · exact (decide_eq_false (fun e => h (List.cons.inj e).1)).symm
theorem laws_eqUint64S_ev (xs ys : List Int) (hm : xs.length ≤ 140737488355328) : Ev (fun k => laws_eqUint64S.f k xs ys) (decide (xs = ys)) := by
  unfold laws_eqUint64S.f
  refine ev_ite (fun h => ?_) (fun h => ev_now' ?_)
  · exact laws_eqUint64S_l0 xs ys (by omega) hm xs.length 0 (by omega)
  · exact (decide_eq_false (fun e => h (by rw [e]))).symm
theorem laws_eqBits_ev (a : Int) (l : List Int) (b : Int) (m : List Int) (hm : l.length ≤ 140737488355328) : Ev (fun k => laws_eqBits.f k a l b m) (decide (a = b ∧ l = m)) := by
  unfold laws_eqBits.f
  refine ev_ite (fun h => ev_bind (laws_eqUint64S_ev l m hm) (ev_ite (fun h' => ev_now' ?_) (fun h' => ev_now' ?_))) (fun h => ev_now' ?_)
  · simp at h'; simp [h, h']
  · simp at h'; simp [h']
  · simp [h]
theorem laws_markUint64S_l0 (xs : List Int) (a : Nat) (hm : a + xs.length ≤ 1099511627776) : ∀ (d n : Nat), n + d = xs.length → Ev (fun k => laws_markUint64S.l0 k (marked (fun x => IntKind.u64.wrap x) n a ++ xs.drop n) ((a + n : Nat) : Int) (n : Int)) (((a + xs.length : Nat) : Int), marked (fun x => IntKind.u64.wrap x) xs.length a) := by
  intro d
  induction d with
  | zero =>
    intro n hn
    have e : n = xs.length := by omega
    subst e
    refine Ev.step (fun k => by rw [laws_markUint64S.l0]) ?_
    refine ev_neg (by simp [marked_length]) (ev_now' ?_)
    rw [List.drop_length, List.append_nil]
  | succ d ih =>
    intro n hn
    refine Ev.step (fun k => by rw [laws_markUint64S.l0]) ?_
    refine ev_pos (by simp [marked_length]; omega) (ev_pos (by omega) ?_)
    rw [w64 (by omega) (by omega), w64 (by omega) (by omega), Int.toNat_natCast]
    have e := set_mark (c := (fun x => IntKind.u64.wrap x)) (a := a) (show n < xs.length by omega)
    rw [show (IntKind.u64.wrap ((a + n : Nat) : Int)) = (fun x => IntKind.u64.wrap x) ((a + n : Nat) : Int) from rfl, e]
    exact ih (n + 1) (by omega)
theorem laws_markUint64S_ev (xs : List Int) (a : Nat) (hm : a + xs.length ≤ 1099511627776) : Ev (fun k => laws_markUint64S.f k xs (a : Int)) (((a + xs.length : Nat) : Int), marked (fun x => IntKind.u64.wrap x) xs.length a) := by
  unfold laws_markUint64S.f
  have h := laws_markUint64S_l0 xs a hm xs.length 0 (by omega)
  simpa [marked] using h
theorem laws_markBits_ev (x : Int) (xs : List Int) (a : Nat) (hm : a + xs.length ≤ 1099511627776) : Ev (fun k => laws_markBits.f k x xs (a : Int)) (((a + xs.length : Nat) : Int), marked (fun x => IntKind.u64.wrap x) xs.length a) := by
  unfold laws_markBits.f
  exact ev_bind (laws_markUint64S_ev xs a hm) (ev_now _)
theorem laws_heldUint64S_l0 (m a : Nat) (hm : a + m ≤ 1099511627776) : ∀ (d n : Nat), n + d = m → Ev (fun k => laws_heldUint64S.l0 k (marked (fun x => IntKind.u64.wrap x) m a) ((a + n : Nat) : Int) (n : Int)) ((a + m : Nat) : Int) := by
  intro d
  induction d with
  | zero =>
    intro n hn
    have e : n = m := by omega
    subst e
    refine Ev.step (fun k => by rw [laws_heldUint64S.l0]) ?_
    exact ev_neg (by simp [marked_length]) (ev_now _)
  | succ d ih =>
    intro n hn
    refine Ev.step (fun k => by rw [laws_heldUint64S.l0]) ?_
    refine ev_pos (by rw [marked_length]; omega) (ev_pos (by omega) ?_)
    rw [rd_lt (by rw [marked_length]; omega), marked_get _ _ _ _ (by omega), w64 (by omega) (by omega), w64 (by omega) (by omega)]
    exact ev_pos rfl (ih (n + 1) (by omega))
theorem laws_heldUint64S_ev (m a : Nat) (hm : a + m ≤ 1099511627776) : Ev (fun k => laws_heldUint64S.f k (marked (fun x => IntKind.u64.wrap x) m a) (a : Int)) ((a + m : Nat) : Int) := by
  unfold laws_heldUint64S.f
  exact laws_heldUint64S_l0 m a hm m 0 (by omega)
theorem laws_heldBits_ev (x : Int) (m a : Nat) (hm : a + m ≤ 1099511627776) : Ev (fun k => laws_heldBits.f k x (marked (fun x => IntKind.u64.wrap x) m a) (a : Int)) ((a + m : Nat) : Int) := by
  unfold laws_heldBits.f
  exact ev_bind (laws_heldUint64S_ev m a hm) (ev_neg (by omega) (ev_now _))
theorem laws_szUint64S_f (l : List Int) (a : Nat) (hl : l.length ≤ maxLen) (ha : a ≤ 1099511627776) : laws_szUint64S.f l (a : Int) = some (if a < l.length then -1 else ((a - l.length : Nat) : Int)) := by
  unfold maxLen at hl
  unfold laws_szUint64S.f
  rw [w64 (by omega) (by omega)]
  by_cases h : a < l.length
  · rw [if_pos (by omega), if_pos h]
  · rw [if_neg (by omega), if_neg h]; congr 1; omega
theorem laws_szBits_f (x : Int) (l : List Int) (a : Nat) (hl : l.length ≤ maxLen) (ha : a ≤ 1099511627776) : laws_szBits.f x l (a : Int) = some (if a < l.length then -1 else ((a - l.length : Nat) : Int)) := by
  unfold laws_szBits.f
  rw [laws_szUint64S_f l a hl ha, Option.bind_some]
  by_cases h : a < l.length
  · rw [if_pos h]; rfl
  · rw [if_neg h, if_neg (by omega)]
theorem laws_toUint64S_l0 (xs : List Int) (hm : xs.length ≤ 35184372088832) : ∀ (d n : Nat) (out : List Int), n + d = xs.length → out.length = xs.length → (∀ j, j < n → out[j]? = xs[j]?) → Ev (fun k => laws_toUint64S.l0 k xs out (n : Int)) xs := by
  intro d
  induction d with
  | zero =>
    intro n out hn hl ho
    refine Ev.step (fun k => by rw [laws_toUint64S.l0]) ?_
    refine ev_neg (by omega) (ev_now' ?_)
    apply List.ext_getElem? ; intro j
    by_cases hj : j < n
    · exact ho j hj
    · rw [List.getElem?_eq_none (by omega), List.getElem?_eq_none (by omega)]
  | succ d ih =>
    intro n out hn hl ho
    refine Ev.step (fun k => by rw [laws_toUint64S.l0]) ?_
    refine ev_pos (by omega) (ev_pos (by omega) (ev_pos (by omega) ?_))
    rw [w64 (by omega) (by omega)]
    refine ih (n + 1) _ (by omega) (by simp [hl]) ?_
    intro j hj
    rw [Int.toNat_natCast, List.getElem?_set, rd_lt (by omega)]
    by_cases e : n = j
    · subst e; rw [if_pos rfl, if_pos (by omega), List.getElem?_eq_getElem (by omega)]
    · rw [if_neg e]; exact ho j (by omega)
theorem laws_toUint64S_ev (xs : List Int) (hm : xs.length ≤ 35184372088832) : Ev (fun k => laws_toUint64S.f k xs) xs := by
  unfold laws_toUint64S.f
  refine ev_pos (by omega) (ev_pos (by omega) ?_)
  exact laws_toUint64S_l0 xs hm xs.length 0 _ (by omega) (by simp) (by simp)
theorem laws_toBits_ev (a : Int) (l : List Int) (hm : l.length ≤ 35184372088832) : Ev (fun k => laws_toBits.f k a l) (a, l) := by
  unfold laws_toBits.f
  exact ev_bind (laws_toUint64S_ev l (by omega)) (ev_now _)
theorem spec_l01Power_l0 : ∀ (n m : Nat), n + m ≤ 63 → Ev (fun k => spec_l01Power.l0 k (n : Int) ((2 ^ m : Nat) : Int)) ((2 ^ (n + m) : Nat) : Int) := by
  intro n
  induction n with
  | zero =>
    intro m hm
    refine Ev.step (fun k => by rw [spec_l01Power.l0]) ?_
    exact ev_neg (by omega) (ev_now' (by rw [Nat.zero_add]))
  | succ n ih =>
    intro m hm
    refine Ev.step (fun k => by rw [spec_l01Power.l0]) ?_
    have hp : 2 ^ m ≤ 2 ^ 62 := Nat.pow_le_pow_right (by decide) (by omega)
    have hpp : 2 ^ (m + 1) = 2 ^ m * 2 := Nat.pow_succ ..
    refine ev_pos (by omega) ?_
    rw [w64 (by omega) (by omega), show ((n + 1 : Nat) : Int) - 1 = (n : Int) by omega, show (2 : Int) * ((2 ^ m : Nat) : Int) = ((2 ^ (m + 1) : Nat) : Int) by omega, wraps_u64 _ (by omega) (by omega)]
    refine ev_eq (ih (m + 1) (by omega)) ?_
    rw [show n + (m + 1) = n + 1 + m by omega]
theorem spec_l01Power_ev (n : Nat) (h : n ≤ 63) : Ev (fun k => spec_l01Power.f k (n : Int)) ((2 ^ n : Nat) : Int) := by
  unfold spec_l01Power.f
  exact spec_l01Power_l0 n 0 (by omega)
theorem spec_BitsOf_one (xs : List Int) (hm : xs.length ≤ 5000) (N : Int) (r : Int × List Int × Bool) (n : Nat) (hlt : n < xs.length) (hp : isBits (xs.take n)) (hb : xs[n] = 0 ∨ xs[n] = 1)
    (h : Ev (fun k => spec_BitsOf.l0 k xs (((n + 1 : Nat)) : Int) N (wordsOf (xs.take (n + 1)))) r) : Ev (fun k => spec_BitsOf.j1 k xs (n : Int) false N (wordsOf (xs.take n))) r := by
  have lp : (xs.take n).length = n := by rw [List.length_take]; omega
  have e1 : Int.tmod (n : Int) 64 = ((n % 64 : Nat) : Int) := tmod_nat n 64
  have e2 : Int.tdiv (n : Int) 64 = ((n / 64 : Nat) : Int) := tdiv_nat n 64
  have ys : ∀ ys : List Int, ys = tab (n / 64 + 1) (fun w => ((wordAt (xs.take n) w : Nat) : Int)) → Ev (fun k => if 0 ≤ (n : Int) then (if (n : Int) < (xs.length : Int) then (if (rd xs (n : Int)) = 1 then (if 0 ≤ (wrap64 (Int.tdiv (n : Int) 64)) then (if (wrap64 (Int.tdiv (n : Int) 64)) < (ys.length : Int) then ((spec_l01Power.f k (Int.tmod (n : Int) 64)).bind fun t => (spec_BitsOf.l0 k xs (wrap64 ((n : Int) + 1)) N (ys.set ((wrap64 (Int.tdiv (n : Int) 64)) : Int).toNat (IntKind.u64.wrap ((rd ys (wrap64 (Int.tdiv (n : Int) 64))) + t))))) else (none)) else (none)) else (spec_BitsOf.l0 k xs (wrap64 ((n : Int) + 1)) N ys)) else (none)) else (none)) r := by
    intro ys hys
    refine ev_pos (by omega) (ev_pos (by omega) ?_)
    rw [rd_lt hlt, e1, e2, w64 (n := (n : Int) + 1) (by omega) (by omega), w64 (n := ((n / 64 : Nat) : Int)) (by omega) (by omega)]
    have hw : wordsOf (xs.take (n + 1)) = tab (n / 64 + 1) (fun w => (((if w = n / 64 then wordAt (xs.take n) w + xs[n].toNat * 2 ^ (n % 64) else wordAt (xs.take n) w) : Nat) : Int)) := by
      unfold wordsOf
      rw [show ((xs.take (n + 1)).length + 63) / 64 = n / 64 + 1 by rw [List.length_take]; omega, take_snoc' hlt]
      apply tab_congr
      intro i hi
      rw [wordAt_snoc, lp]
    have hlt2 := wordAt_lt' hp (n / 64) (by rw [lp])
    rw [lp] at hlt2
    have hpow : 2 ^ (n % 64) ≤ 2 ^ 63 := Nat.pow_le_pow_right (by decide) (by omega)
    rw [hw] at h
    refine ev_ite (fun h1 => ?_) (fun h1 => ?_)
    · refine ev_pos (by omega) (ev_pos (by rw [hys, tab_length]; omega) (ev_bind (spec_l01Power_ev (n % 64) (by omega)) ?_))
      rw [hys, rd_tab (by omega), Int.toNat_natCast, tab_set]
      refine Ev.congr (fun k => ?_) h
      congr 1
      apply tab_congr
      intro i hi
      by_cases e : i = n / 64
      · subst e
        rw [if_pos rfl, if_pos rfl, h1]
        generalize 2 ^ (n % 64) = q at *
        rw [wraps_u64 _ (by omega) (by omega)]
        simp
      · rw [if_neg e, if_neg e]
    · have h0 : xs[n] = 0 := by omega
      rw [hys]
      refine Ev.congr (fun k => ?_) h
      congr 1
      apply tab_congr
      intro i hi
      rw [h0]; simp
  refine Ev.step (fun k => by rw [spec_BitsOf.j1]) (ev_neg (by decide) ?_)
  have hws : (n % 64 = 0 → wordsOf (xs.take n) ++ [0] = tab (n / 64 + 1) (fun w => ((wordAt (xs.take n) w : Nat) : Int))) ∧ (n % 64 ≠ 0 → wordsOf (xs.take n) = tab (n / 64 + 1) (fun w => ((wordAt (xs.take n) w : Nat) : Int))) := by
    unfold wordsOf
    rw [lp]
    constructor
    · intro h0
      rw [show (n + 63) / 64 = n / 64 by omega, tab_succ, wordAt_nil (by rw [lp]; omega)]; rfl
    · intro h0
      rw [show (n + 63) / 64 = n / 64 + 1 by omega]
  have hl : (wordsOf (xs.take n)).length < 17592186044416 := by unfold wordsOf; rw [tab_length, lp]; omega
  by_cases h0 : n % 64 = 0
  · refine ev_pos (by rw [e1]; omega) (ev_pos hl ?_)
    exact ev_some rfl (ys _ (hws.1 h0))
  · refine ev_neg (by rw [e1]; omega) (ys _ (hws.2 h0))
theorem spec_BitsOf_l0 (xs : List Int) (hm : xs.length ≤ 5000) (N : Int) : ∀ (d n : Nat), n + d = xs.length → isBits (xs.take n) → Ev (fun k => spec_BitsOf.l0 k xs (n : Int) N (wordsOf (xs.take n))) (if (xs.drop n).all (fun a => decide (a = 0 ∨ a = 1)) = true then (N, wordsOf xs, true) else (0, [], false)) := by
  intro d
  induction d with
  | zero =>
    intro n hn hp
    refine Ev.step (fun k => by rw [spec_BitsOf.l0]) ?_
    refine ev_neg (by omega) (ev_now' ?_)
    rw [List.drop_eq_nil_of_le (by omega), List.take_of_length_le (by omega)]; rfl
  | succ d ih =>
    intro n hn hp
    have hlt : n < xs.length := by omega
    refine Ev.step (fun k => by rw [spec_BitsOf.l0]) ?_
    refine ev_pos (by omega) (ev_pos (by omega) ?_)
    rw [rd_lt hlt, List.drop_eq_getElem_cons hlt, List.all_cons]
    have good : (xs[n] = 0 ∨ xs[n] = 1) → Ev (fun k => spec_BitsOf.j1 k xs (n : Int) false N (wordsOf (xs.take n))) (if (xs.drop (n + 1)).all (fun a => decide (a = 0 ∨ a = 1)) = true then (N, wordsOf xs, true) else (0, [], false)) := by
      intro hb
      refine spec_BitsOf_one xs hm N _ n hlt hp hb (ih (n + 1) (by omega) ?_)
      rw [take_snoc' hlt]
      intro b hb'
      rcases List.mem_append.1 hb' with h | h
      · exact hp b h
      · rw [List.mem_singleton.1 h]; exact hb
    by_cases h0 : xs[n] = 0
    · rw [decide_eq_true (Or.inl h0), Bool.true_and]
      exact ev_pos h0 (good (Or.inl h0))
    · refine ev_neg h0 ?_
      by_cases h1 : xs[n] = 1
      · rw [decide_eq_true (Or.inr h1), Bool.true_and, bne_eq_false_iff_eq.2 h1]
        exact good (Or.inr h1)
      · rw [decide_eq_false (by omega), bne_iff_ne.2 h1]
        refine Ev.step (fun k => by rw [spec_BitsOf.j1]) ?_
        exact ev_pos rfl (ev_now _)
def bitsOfR (xs : List Int) : Int × List Int × Bool := if (decide (xs.length ≤ 5000) && xs.all fun a => decide (a = 0 ∨ a = 1)) = true then ((xs.length : Int), wordsOf xs, true) else (0, [], false)
theorem spec_BitsOf_ev (xs : List Int) : Ev (fun k => spec_BitsOf.f k xs) (bitsOfR xs) := by
  unfold spec_BitsOf.f bitsOfR
  refine ev_ite (fun h => ev_now' ?_) (fun h => ?_)
  · rw [decide_eq_false (by omega)]; rfl
  · rw [decide_eq_true (show xs.length ≤ 5000 by omega), Bool.true_and]
    have h := spec_BitsOf_l0 xs (by omega) (xs.length : Int) xs.length 0 (by omega) (fun b hb => by simp at hb)
    rw [List.drop_zero, show wordsOf (xs.take 0) = [] by rw [List.take_zero]; rfl] at h
    exact h
theorem spec_l01List_l1 (n : Nat) (ws : List Int) (hn : n ≤ 5000) (i v : Nat) (hi : i < n) (r : List Int)
    (h : Ev (fun k => spec_l01List.l0 k (tab (i + 1) (bitAt ws)) ((i + 1 : Nat) : Int) (n : Int) ws) r) : ∀ (s w : Nat), (w / 2 ^ s) % 2 = v % 2 → w < 2 ^ 64 → s ≤ 64 → ((v % 2 : Nat) : Int) = bitAt ws i → Ev (fun k => spec_l01List.l1 k (tab i (bitAt ws)) (i : Int) (w : Int) (s : Int) (n : Int) ws) r := by
  intro s
  induction s with
  | zero =>
    intro w hw hw2 _ hv
    refine Ev.step (fun k => by rw [spec_l01List.l1]) (ev_neg (by omega) (ev_pos (by rw [tab_length]; omega) ?_))
    rw [show Int.tmod (w : Int) 2 = ((w % 2 : Nat) : Int) from tmod_nat w 2, w64 (by omega) (by omega), w64 (by omega) (by omega)]
    refine Ev.congr (fun k => ?_) h
    rw [Nat.pow_zero, Nat.div_one] at hw
    rw [tab_succ, hw, hv]; rfl
  | succ s ih =>
    intro w hw hw2 hs hv
    refine Ev.step (fun k => by rw [spec_l01List.l1]) (ev_pos (by omega) ?_)
    rw [show Int.tdiv (w : Int) 2 = ((w / 2 : Nat) : Int) from tdiv_nat w 2, w64 (by omega) (by omega), wraps_u64 _ (by omega) (by omega), show ((s + 1 : Nat) : Int) - 1 = (s : Int) by omega]
    refine ih (w / 2) ?_ (by omega) (by omega) hv
    rw [← hw, Nat.div_div_eq_div_mul, Nat.pow_succ, Nat.mul_comm]
theorem spec_l01List_l0 (n : Nat) (ws : List Int) (hn : n ≤ 5000) (hl : (n + 63) / 64 ≤ ws.length) (hw : ∀ x ∈ ws, 0 ≤ x ∧ x ≤ 18446744073709551615) : ∀ (d i : Nat), i + d = n → Ev (fun k => spec_l01List.l0 k (tab i (bitAt ws)) (i : Int) (n : Int) ws) (listL n ws) := by
  intro d
  induction d with
  | zero =>
    intro i hi
    refine Ev.step (fun k => by rw [spec_l01List.l0]) ?_
    refine ev_neg (by omega) (ev_now' ?_)
    rw [show i = n by omega]; rfl
  | succ d ih =>
    intro i hi
    have hlt : i / 64 < ws.length := by omega
    refine Ev.step (fun k => by rw [spec_l01List.l0]) ?_
    rw [show Int.tdiv (i : Int) 64 = ((i / 64 : Nat) : Int) from tdiv_nat i 64, show Int.tmod (i : Int) 64 = ((i % 64 : Nat) : Int) from tmod_nat i 64, w64 (n := ((i / 64 : Nat) : Int)) (by omega) (by omega), rd_lt hlt]
    refine ev_pos (by omega) (ev_pos (by omega) (ev_pos (by omega) ?_))
    have hx := hw _ (List.getElem_mem hlt)
    obtain ⟨w, e⟩ : ∃ w : Nat, ws[i / 64] = (w : Int) := ⟨ws[i / 64].toNat, by omega⟩
    rw [e]
    refine spec_l01List_l1 n ws hn i (w / 2 ^ (i % 64)) (by omega) _ (ih (i + 1) (by omega)) (i % 64) w rfl (by omega) (by omega) ?_
    unfold bitAt
    rw [List.getD_eq_getElem?_getD, List.getElem?_eq_getElem hlt, Option.getD_some, e, Int.toNat_natCast]
theorem spec_l01List_ev (n : Nat) (ws : List Int) (hn : n ≤ 5000) (hl : (n + 63) / 64 ≤ ws.length) (hw : ∀ x ∈ ws, 0 ≤ x ∧ x ≤ 18446744073709551615) : Ev (fun k => spec_l01List.f k (n : Int) ws) (listL n ws) := by
  unfold spec_l01List.f
  exact spec_l01List_l0 n ws hn hl hw n 0 (by omega)
theorem spec_BitsOk_l0 (a b : Int) (xs ys : List Int) (hl : xs.length = ys.length) (hm : xs.length ≤ 140737488355328) : ∀ (d n : Nat), n + d = xs.length → Ev (fun k => spec_BitsOk.l0 k (n : Int) a xs b ys) (decide (xs.drop n = ys.drop n)) := by
  intro d
  induction d with
  | zero =>
    intro n hn
    refine Ev.step (fun k => by rw [spec_BitsOk.l0]) ?_
    refine ev_neg (by omega) (ev_now' ?_)
    rw [List.drop_eq_nil_of_le (by omega), List.drop_eq_nil_of_le (by omega)]; rfl
  | succ d ih =>
    intro n hn
    refine Ev.step (fun k => by rw [spec_BitsOk.l0]) ?_
    refine ev_pos (by omega) (ev_pos (by omega) (ev_pos (by omega) ?_))
    rw [rd_lt (by omega), rd_lt (by omega), w64 (by omega) (by omega)]
    rw [List.drop_eq_getElem_cons (show n < xs.length by omega), List.drop_eq_getElem_cons (show n < ys.length by omega)]
    refine ev_ite (fun h => ev_eq (ih (n + 1) (by omega)) ?_) (fun h => ev_now' ?_)
    · simp only [List.cons.injEq, h, true_and]
    · exact (decide_eq_false (fun e => h (List.cons.inj e).1)).symm
theorem spec_BitsOk_j0 (n : Nat) (ws : List Int) (hn : n ≤ 5000) (hl : ws.length = (n + 63) / 64) (hw : ∀ x ∈ ws, 0 ≤ x ∧ x ≤ 18446744073709551615) : Ev (fun k => spec_BitsOk.j0 k false (n : Int) ws) (bitsOk n ws) := by
  refine Ev.step (fun k => by rw [spec_BitsOk.j0]) (ev_neg (by decide) ?_)
  refine ev_bind (spec_l01List_ev n ws hn (by omega) hw) (ev_bind (spec_BitsOf_ev (listL n ws)) ?_)
  have e : bitsOfR (listL n ws) = ((n : Int), wordsOf (listL n ws), true) := by
    unfold bitsOfR
    rw [if_pos, listL_length]
    rw [listL_length, decide_eq_true hn, Bool.true_and, List.all_eq_true]
    intro b hb
    exact decide_eq_true (listL_bits n ws b hb)
  rw [e]
  refine ev_eq (spec_BitsOk_l0 (n : Int) (n : Int) ws _ (by rw [wordsOf_length, listL_length]; exact hl) (by omega) ws.length 0 (by omega)) ?_
  rw [List.drop_zero, List.drop_zero]
  unfold bitsOk
  refine decide_eq_decide.2 ?_
  rw [words_same n ws hl hw]
  constructor
  · intro h
    refine ⟨by omega, by omega, by omega, ?_⟩
    rw [show ((n : Int) % 64).toNat = n % 64 by omega]
    omega
  · intro h
    have := h.2.2.2
    rw [show ((n : Int) % 64).toNat = n % 64 by omega] at this
    omega
theorem spec_BitsOk_ev (n : Int) (ws : List Int) (hm : ws.length ≤ 140737488355328) (hw : ∀ x ∈ ws, 0 ≤ x ∧ x ≤ 18446744073709551615) : Ev (fun k => spec_BitsOk.f k n ws) (bitsOk n ws) := by
  unfold spec_BitsOk.f
  refine ev_ite (fun h => ?_) (fun h => ev_ite (fun h1 => ?_) (fun h1 => ?_))
  · refine Ev.step (fun k => by rw [spec_BitsOk.j0]) ?_
    refine ev_pos rfl (ev_now' ?_)
    exact (decide_eq_false (by omega)).symm
  · refine Ev.step (fun k => by rw [spec_BitsOk.j0]) ?_
    refine ev_pos rfl (ev_now' ?_)
    exact (decide_eq_false (by omega)).symm
  · obtain ⟨m, rfl⟩ : ∃ m : Nat, n = (m : Int) := ⟨n.toNat, by omega⟩
    rw [w64 (n := (m : Int) + 63) (by omega) (by omega), show Int.tdiv ((m : Int) + 63) 64 = (((m + 63) / 64 : Nat) : Int) from tdiv_nat (m + 63) 64, w64 (by omega) (by omega)]
    by_cases h2 : ws.length = (m + 63) / 64
    · rw [bne_eq_false_iff_eq.2 (show (ws.length : Int) = (((m + 63) / 64 : Nat) : Int) by omega)]
      exact spec_BitsOk_j0 m ws (by omega) h2 hw
    · rw [bne_iff_ne.2 (show (ws.length : Int) ≠ (((m + 63) / 64 : Nat) : Int) by omega)]
      refine Ev.step (fun k => by rw [spec_BitsOk.j0]) ?_
      refine ev_pos rfl (ev_now' ?_)
      exact (decide_eq_false (by omega)).symm
def bitsListR (n : Int) (ws : List Int) : List Int := if bitsOk n ws = true then listL n.toNat ws else []
theorem bitsListR_length (n : Int) (ws : List Int) : (bitsListR n ws).length ≤ 5000 := by
  unfold bitsListR
  split
  · rename_i h
    obtain ⟨m, rfl, hm5, hl⟩ := bitsOk_true h
    rw [listL_length]; omega
  · simp
theorem spec_BitsList_ev (n : Int) (ws : List Int) (hm : ws.length ≤ 140737488355328) (hw : ∀ x ∈ ws, 0 ≤ x ∧ x ≤ 18446744073709551615) : Ev (fun k => spec_BitsList.f k n ws) (bitsListR n ws) := by
  unfold spec_BitsList.f bitsListR
  refine ev_bind (spec_BitsOk_ev n ws hm hw) (ev_ite (fun h => ?_) (fun h => ev_now' (by rw [if_neg h])))
  rw [if_pos h]
  obtain ⟨m, rfl, hm5, hl⟩ := bitsOk_true h
  exact ev_bind (spec_l01List_ev m ws hm5 (by omega) hw) (ev_now _)
def flipL (l : List Int) : List Int := l.map fun b => 1 - b
theorem flip_step {l : List Int} {n : Nat} (h : n < l.length) : ((l.take n).map (fun b : Int => 1 - b) ++ l.drop n).set n (1 - l[n]) = (l.take (n + 1)).map (fun b : Int => 1 - b) ++ l.drop (n + 1) := by
  have lp : ((l.take n).map (fun b : Int => 1 - b)).length = n := by rw [List.length_map, List.length_take]; omega
  rw [List.set_append_right _ _ (by omega), lp, Nat.sub_self, List.drop_eq_getElem_cons h, List.set_cons_zero, take_snoc' h, List.map_append, List.append_assoc]
  rfl
theorem flip_get {l : List Int} {n : Nat} (h : n < l.length) : rd ((l.take n).map (fun b : Int => 1 - b) ++ l.drop n) (n : Int) = l[n] := by
  have lp : ((l.take n).map (fun b : Int => 1 - b)).length = n := by rw [List.length_map, List.length_take]; omega
  have hl : n < ((l.take n).map (fun b : Int => 1 - b) ++ l.drop n).length := by rw [List.length_append, lp, List.length_drop]; omega
  rw [rd_lt hl, List.getElem_append_right (by omega)]
  simp only [lp, Nat.sub_self, List.getElem_drop, Nat.add_zero]
theorem flip_len {l : List Int} {n : Nat} (h : n ≤ l.length) : ((l.take n).map (fun b : Int => 1 - b) ++ l.drop n).length = l.length := by
  rw [List.length_append, List.length_map, List.length_take, List.length_drop]; omega
theorem flip_bits {l : List Int} (h : isBits l) : isBits (flipL l) := by
  intro b hb
  unfold flipL at hb
  obtain ⟨x, hx, rfl⟩ := List.mem_map.1 hb
  have := h x hx
  omega
def bitsFlipR (n : Int) (ws : List Int) : Int × List Int := (((bitsListR n ws).length : Int), wordsOf (flipL (bitsListR n ws)))
theorem bitsListR_bits (n : Int) (ws : List Int) : isBits (bitsListR n ws) := by
  unfold bitsListR
  split
  · exact listL_bits _ _
  · intro b hb; simp at hb
theorem flipL_length (l : List Int) : (flipL l).length = l.length := List.length_map ..
theorem spec_BitsFlip_l0 (l : List Int) (hm : l.length ≤ 5000) (hb : isBits l) : ∀ (d n : Nat), n + d = l.length → Ev (fun k => spec_BitsFlip.l0 k ((l.take n).map (fun b : Int => 1 - b) ++ l.drop n) (n : Int)) ((l.length : Int), wordsOf (flipL l)) := by
  intro d
  induction d with
  | zero =>
    intro n hn
    refine Ev.step (fun k => by rw [spec_BitsFlip.l0]) ?_
    rw [flip_len (by omega)]
    refine ev_neg (by omega) ?_
    rw [List.drop_eq_nil_of_le (by omega), List.append_nil, List.take_of_length_le (by omega)]
    refine ev_bind (spec_BitsOf_ev (flipL l)) (ev_now' ?_)
    have e : bitsOfR (flipL l) = (((flipL l).length : Int), wordsOf (flipL l), true) := by
      unfold bitsOfR
      rw [if_pos]
      rw [flipL_length, decide_eq_true hm, Bool.true_and, List.all_eq_true]
      intro b hb'
      exact decide_eq_true (flip_bits hb b hb')
    rw [e, flipL_length]
  | succ d ih =>
    intro n hn
    have hlt : n < l.length := by omega
    have hx := hb _ (List.getElem_mem hlt)
    refine Ev.step (fun k => by rw [spec_BitsFlip.l0]) ?_
    rw [flip_len (by omega), flip_get hlt, Int.toNat_natCast, w64 (n := 1 - l[n]) (by omega) (by omega), flip_step hlt, w64 (by omega) (by omega)]
    exact ev_pos (by omega) (ev_pos (by omega) (ih (n + 1) (by omega)))
theorem spec_BitsFlip_ev (n : Int) (ws : List Int) (hm : ws.length ≤ 140737488355328) (hw : ∀ x ∈ ws, 0 ≤ x ∧ x ≤ 18446744073709551615) : Ev (fun k => spec_BitsFlip.f k n ws) (bitsFlipR n ws) := by
  unfold spec_BitsFlip.f bitsFlipR
  refine ev_bind (spec_BitsList_ev n ws hm hw) ?_
  have := spec_BitsFlip_l0 (bitsListR n ws) (bitsListR_length n ws) (bitsListR_bits n ws) (bitsListR n ws).length 0 (by omega)
  rw [List.take_zero, List.drop_zero, List.map_nil, List.nil_append] at this
  exact this
theorem impl_within_f (a b c : Int) : impl_within.f a b c = some (decide (b ≤ a ∧ a ≤ c)) := by
  unfold impl_within.f
  by_cases h : b ≤ a <;> simp [h]
theorem impl_BitsOk_f (n : Int) (ws : List Int) (hm : ws.length ≤ 140737488355328) (hw : ∀ x ∈ ws, 0 ≤ x ∧ x ≤ 18446744073709551615) : impl_BitsOk.f n ws = some (bitsOk n ws) := by
  unfold impl_BitsOk.f
  rw [impl_within_f, Option.bind_some]
  by_cases h : 0 ≤ n ∧ n ≤ 5000
  · rw [if_pos (by rw [decide_eq_true h])]
    obtain ⟨m, rfl⟩ : ∃ m : Nat, n = (m : Int) := ⟨n.toNat, by omega⟩
    rw [w64 (n := (m : Int) + 64) (by omega) (by omega), w64 (n := (m : Int) + 64 - 1) (by omega) (by omega), show (m : Int) + 64 - 1 = ((m + 63 : Nat) : Int) by omega, show Int.tdiv ((m + 63 : Nat) : Int) 64 = (((m + 63) / 64 : Nat) : Int) from tdiv_nat (m + 63) 64, w64 (n := (((m + 63) / 64 : Nat) : Int)) (by omega) (by omega), show Int.tmod (m : Int) 64 = ((m % 64 : Nat) : Int) from tmod_nat m 64]
    by_cases h1 : ws.length = (m + 63) / 64
    · rw [if_pos (by omega)]
      by_cases h2 : m % 64 = 0
      · rw [if_pos (by omega)]
        unfold bitsOk
        rw [decide_eq_true]
        refine ⟨by omega, by omega, by omega, Or.inl (by omega)⟩
      · rw [if_neg (by omega), w64 (by omega) (by omega), if_pos (by omega), if_pos (by omega), if_pos (by omega)]
        have hlt : ws.length - 1 < ws.length := by omega
        rw [show (ws.length : Int) - 1 = ((ws.length - 1 : Nat) : Int) by omega, rd_lt hlt]
        have hx := hw _ (List.getElem_mem hlt)
        obtain ⟨w, e⟩ : ∃ w : Nat, ws[ws.length - 1] = (w : Int) := ⟨ws[ws.length - 1].toNat, by omega⟩
        rw [e, shr_u64 _ _ (by omega)]
        congr 1
        unfold bitsOk
        rw [List.getD_eq_getElem?_getD, List.getElem?_eq_getElem hlt, Option.getD_some, e, Int.toNat_natCast, show ((m : Int) % 64).toNat = m % 64 by omega]
        generalize w / 2 ^ (m % 64) = q
        by_cases h3 : q = 0
        · subst h3
          rw [decide_eq_true]
          · rfl
          · exact ⟨by omega, by omega, by omega, Or.inr rfl⟩
        · rw [decide_eq_false (by omega)]
          exact beq_eq_false_iff_ne.2 (by omega)
    · rw [if_neg (by omega)]
      congr 1
      exact (decide_eq_false (by omega)).symm
  · rw [if_neg (by rw [decide_eq_false h]; decide)]
    congr 1
    exact (decide_eq_false (by omega)).symm
theorem impl_bitsOf_l0 (xs : List Int) (hm : xs.length ≤ 1000000) (hx : isBits xs) (N : Int) : ∀ (d n : Nat), n + d = xs.length → Ev (fun k => impl_bitsOf.l0 k xs (xs.length : Int) (n : Int) N (tab ((xs.length + 63) / 64) fun w => ((wordAt (xs.take n) w : Nat) : Int))) (N, wordsOf xs) := by
  intro d
  induction d with
  | zero =>
    intro n hn
    refine Ev.step (fun k => by rw [impl_bitsOf.l0]) ?_
    refine ev_neg (by omega) (ev_now' ?_)
    rw [List.take_of_length_le (by omega)]; rfl
  | succ d ih =>
    intro n hn
    have hlt : n < xs.length := by omega
    have lp : (xs.take n).length = n := by rw [List.length_take]; omega
    have e1 : Int.tmod (n : Int) 64 = ((n % 64 : Nat) : Int) := tmod_nat n 64
    have e2 : Int.tdiv (n : Int) 64 = ((n / 64 : Nat) : Int) := tdiv_nat n 64
    have hb := hx _ (List.getElem_mem hlt)
    refine Ev.step (fun k => by rw [impl_bitsOf.l0]) ?_
    rw [rd_lt hlt, e1, e2, w64 (n := (n : Int) + 1) (by omega) (by omega), w64 (n := ((n / 64 : Nat) : Int)) (by omega) (by omega), rd_tab (show n / 64 < (xs.length + 63) / 64 by omega)]
    refine ev_pos (by omega) (ev_pos (by omega) (ev_pos (by omega) (ev_pos (by omega) (ev_pos (by rw [tab_length]; omega) (ev_pos (by omega) ?_)))))
    rw [Int.toNat_natCast, tab_set]
    refine Ev.congr (fun k => ?_) (ih (n + 1) (by omega))
    congr 1
    apply tab_congr
    intro i hi
    rw [take_snoc' hlt, wordAt_snoc, lp]
    by_cases e : i = n / 64
    · subst e
      rw [if_pos rfl, if_pos rfl]
      have hlt2 := wordAt_lt' (isBits_take hx n) (n / 64) (by rw [lp])
      rw [lp] at hlt2
      have hpow : 2 ^ (n % 64) ≤ 2 ^ 63 := Nat.pow_le_pow_right (by decide) (by omega)
      have es : shl .u64 (IntKind.u64.wrap xs[n]) ((n % 64 : Nat) : Int) = ((2 ^ (n % 64) * xs[n].toNat : Nat) : Int) := by
        have hq : xs[n].toNat * 2 ^ (n % 64) < 2 ^ 64 := by
          generalize 2 ^ (n % 64) = q at *
          rcases hb with hb | hb <;> rw [hb] <;> simp <;> omega
        rw [wraps_u64 _ (by omega) (by omega), show xs[n] = ((xs[n].toNat : Nat) : Int) by omega, shl_u64 _ _ (by omega) hq, Int.toNat_natCast, Nat.mul_comm]
      have hlt3 : 2 ^ (n % 64) * xs[n].toNat < 2 ^ 64 := by
        generalize 2 ^ (n % 64) = q at *
        rcases hb with hb | hb <;> rw [hb] <;> simp <;> omega
      rw [es, u64_or_nat _ _ (by omega) (by omega), Nat.or_comm, ← Nat.two_pow_add_eq_or_of_lt hlt2, Nat.add_comm, Nat.mul_comm]
    · rw [if_neg e, if_neg e]
theorem impl_bitsOf_ev (xs : List Int) (hm : xs.length ≤ 1000000) (hx : isBits xs) : Ev (fun k => impl_bitsOf.f k xs) ((xs.length : Int), wordsOf xs) := by
  unfold impl_bitsOf.f
  have e : wrap64 (Int.tdiv (wrap64 (wrap64 ((xs.length : Int) + 64) - 1)) 64) = (((xs.length + 63) / 64 : Nat) : Int) := by
    rw [w64 (n := (xs.length : Int) + 64) (by omega) (by omega), w64 (n := (xs.length : Int) + 64 - 1) (by omega) (by omega), show (xs.length : Int) + 64 - 1 = ((xs.length + 63 : Nat) : Int) by omega]
    rw [show Int.tdiv ((xs.length + 63 : Nat) : Int) 64 = (((xs.length + 63) / 64 : Nat) : Int) from tdiv_nat (xs.length + 63) 64, w64 (by omega) (by omega)]
  rw [e]
  refine ev_pos (by omega) (ev_pos (by omega) ?_)
  rw [Int.toNat_natCast, tab_zero _ (fun w => ((wordAt (xs.take 0) w : Nat) : Int)) (fun i hi => by simp [wordAt, nb])]
  exact impl_bitsOf_l0 xs hm hx _ xs.length 0 (by omega)
theorem impl_Bits_at_f (n : Int) (ws : List Int) (i : Nat) (hi : i / 64 < ws.length) (hm : ws.length ≤ 1000000) (hw : ∀ x ∈ ws, 0 ≤ x ∧ x ≤ 18446744073709551615) : impl_Bits_at.f n ws (i : Int) = some (bitAt ws i) := by
  unfold impl_Bits_at.f
  rw [show Int.tdiv (i : Int) 64 = ((i / 64 : Nat) : Int) from tdiv_nat i 64, show Int.tmod (i : Int) 64 = ((i % 64 : Nat) : Int) from tmod_nat i 64, w64 (n := ((i / 64 : Nat) : Int)) (by omega) (by omega), rd_lt hi]
  rw [if_pos (by omega), if_pos (by omega), if_pos (by omega)]
  have hx := hw _ (List.getElem_mem hi)
  obtain ⟨w, e⟩ : ∃ w : Nat, ws[i / 64] = (w : Int) := ⟨ws[i / 64].toNat, by omega⟩
  rw [e, shr_u64 _ _ (by omega), and1_u64 _ (Nat.lt_of_le_of_lt (Nat.div_le_self _ _) (by omega)), w64 (by omega) (by omega)]
  unfold bitAt
  rw [List.getD_eq_getElem?_getD, List.getElem?_eq_getElem hi, Option.getD_some, e, Int.toNat_natCast]
theorem impl_Bits_list_l0 (n : Nat) (ws : List Int) (hn : n ≤ 5000) (hl : ws.length = (n + 63) / 64) (hw : ∀ x ∈ ws, 0 ≤ x ∧ x ≤ 18446744073709551615) : ∀ (d i : Nat), i + d = n → Ev (fun k => impl_Bits_list.l0 k (tab i (bitAt ws)) (n : Int) (i : Int) (n : Int) ws) (listL n ws) := by
  intro d
  induction d with
  | zero =>
    intro i hi
    refine Ev.step (fun k => by rw [impl_Bits_list.l0]) ?_
    refine ev_neg (by omega) (ev_now' ?_)
    rw [show i = n by omega]; rfl
  | succ d ih =>
    intro i hi
    refine Ev.step (fun k => by rw [impl_Bits_list.l0]) ?_
    refine ev_pos (by omega) (ev_some (impl_Bits_at_f (n : Int) ws i (by omega) (by omega) hw) (ev_pos (by rw [tab_length]; omega) ?_))
    rw [w64 (by omega) (by omega), ← tab_succ]
    exact ih (i + 1) (by omega)
theorem impl_Bits_list_ev (n : Nat) (ws : List Int) (hn : n ≤ 5000) (hl : ws.length = (n + 63) / 64) (hw : ∀ x ∈ ws, 0 ≤ x ∧ x ≤ 18446744073709551615) : Ev (fun k => impl_Bits_list.f k (n : Int) ws) (listL n ws) := by
  unfold impl_Bits_list.f
  exact impl_Bits_list_l0 n ws hn hl hw n 0 (by omega)
theorem impl_BitsFlip_l0 (l : List Int) (hm : l.length ≤ 5000) (hb : isBits l) : ∀ (d n : Nat), n + d = l.length → Ev (fun k => impl_BitsFlip.l0 k ((l.take n).map (fun b : Int => 1 - b) ++ l.drop n) (l.length : Int) (n : Int)) ((l.length : Int), wordsOf (flipL l)) := by
  intro d
  induction d with
  | zero =>
    intro n hn
    refine Ev.step (fun k => by rw [impl_BitsFlip.l0]) ?_
    refine ev_neg (by omega) ?_
    rw [List.drop_eq_nil_of_le (by omega), List.append_nil, List.take_of_length_le (by omega)]
    refine ev_bind (impl_bitsOf_ev (flipL l) (by rw [flipL_length]; omega) (flip_bits hb)) (ev_now' ?_)
    rw [flipL_length]
  | succ d ih =>
    intro n hn
    have hlt : n < l.length := by omega
    have hx := hb _ (List.getElem_mem hlt)
    refine Ev.step (fun k => by rw [impl_BitsFlip.l0]) ?_
    rw [flip_len (by omega), flip_get hlt, Int.toNat_natCast, w64 (n := 1 - l[n]) (by omega) (by omega), flip_step hlt, w64 (by omega) (by omega)]
    exact ev_pos (by omega) (ev_pos (by omega) (ev_pos (by omega) (ih (n + 1) (by omega))))
theorem impl_BitsFlip_ev (n : Int) (ws : List Int) (hm : ws.length ≤ 140737488355328) (hw : ∀ x ∈ ws, 0 ≤ x ∧ x ≤ 18446744073709551615) : Ev (fun k => impl_BitsFlip.f k n ws) (bitsFlipR n ws) := by
  unfold impl_BitsFlip.f bitsFlipR
  have hlen := bitsListR_length n ws
  have hbit := bitsListR_bits n ws
  refine ev_some (impl_BitsOk_f n ws hm hw) (ev_ite (fun h => ?_) (fun h => ?_))
  · obtain ⟨m, rfl, hm5, hl⟩ := bitsOk_true h
    have e : bitsListR (m : Int) ws = listL m ws := by unfold bitsListR; rw [if_pos h, Int.toNat_natCast]
    rw [e] at hlen hbit ⊢
    refine ev_bind (impl_Bits_list_ev m ws hm5 (by omega) hw) ?_
    have := impl_BitsFlip_l0 (listL m ws) hlen hbit (listL m ws).length 0 (by omega)
    rw [List.take_zero, List.drop_zero, List.map_nil, List.nil_append] at this
    exact this
  · have e : bitsListR n ws = [] := by unfold bitsListR; rw [if_neg h]
    rw [e]; exact ev_now _

theorem FnExactBitsFlip : laws_FnExactBitsFlip.Pure := by
  intro n ws _ hl hw
  refine Ev.rounds ?_
  unfold laws_FnExactBitsFlip.f
  refine ev_some (laws_szBits_f n ws 1048576 hl (by omega)) ?_
  refine ev_ite (fun _ => ev_now _) (fun h => ?_)
  have hm : ws.length ≤ 1048576 := by
    rcases Nat.lt_or_ge 1048576 ws.length with g | g
    · rw [if_pos g] at h; omega
    · exact g
  have hw' : ∀ x ∈ ws, 0 ≤ x ∧ x ≤ 18446744073709551615 := fun x hx => wf_u64 (hw x hx)
  have ht := laws_toBits_ev n ws (by omega)
  have hs := spec_BitsFlip_ev n ws (by omega) hw'
  have hi := impl_BitsFlip_ev n ws (by omega) hw'
  have hlen := bitsListR_length n ws
  unfold bitsFlipR at hs hi
  have hwl : (wordsOf (flipL (bitsListR n ws))).length ≤ 1000 := by rw [wordsOf_length, flipL_length]; omega
  generalize wordsOf (flipL (bitsListR n ws)) = vs at *
  generalize ((bitsListR n ws).length : Int) = m at *
  have hmw : (1 : Nat) + ws.length ≤ 1099511627776 := by omega
  have hmv : (1 : Nat) + vs.length ≤ 1099511627776 := by omega
  have hq : Ev (fun k => laws_eqBits.f k m vs m vs) true := ev_eq (laws_eqBits_ev m vs m vs (by omega)) (by simp)
  have hj : Ev (fun k => laws_FnExactBitsFlip.j0 k false n ws m vs m vs) true := by
    refine Ev.step (fun k => by rw [laws_FnExactBitsFlip.j0]) (ev_neg (by decide) ?_)
    refine ev_bind (laws_markBits_ev m vs 1 hmv) (ev_bind (laws_heldBits_ev m vs.length 1 hmv) (ev_neg (by omega) (ev_pos rfl ?_)))
    refine ev_bind ht (ev_bind hi (ev_bind hq (ev_pos rfl ?_)))
    exact ev_bind (laws_heldBits_ev m vs.length 1 hmv) (ev_neg (by omega) (ev_pos rfl (ev_now _)))
  refine ev_bind ht (ev_bind hs (ev_bind ht (ev_bind hi (ev_bind hq (ev_pos rfl ?_)))))
  refine ev_bind ht (ev_bind (laws_eqBits_ev n ws n ws (by omega)) (ev_pos (by simp) ?_))
  refine ev_bind (laws_markBits_ev n ws 1 hmw) (ev_neg (by omega) (ev_bind hq ?_))
  exact hj

end Go.Proofs.Ytcbhepghmmbdmaa.Pure
