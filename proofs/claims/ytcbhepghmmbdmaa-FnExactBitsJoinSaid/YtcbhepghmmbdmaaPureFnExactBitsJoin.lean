/- The pure statement of the law FnExactBitsJoin: the program's answers equal the reference's, for all arguments within the row's bounds. -/
import Derived.Test.YtcbhepghmmbdmaaQFnExactBitsJoinx8
import Derived.Test.YtcbhepghmmbdmaaLib
namespace Go.Proofs.Ytcbhepghmmbdmaa.Pure
open Go.RowKit Go.Proofs.Ytcbhepghmmbdmaa.QFnExactBitsJoin Go.Proofs.Ytcbhepghmmbdmaa.Lib Go.Proofs.YtcbhepghmmbdmaaW.PrintWords Go.Proofs.YtcbhepghmmbdmaaW.PrintLast Go.Proofs.YtcbhepghmmbdmaaW.PrintMore
set_option linter.unusedVariables false
set_option linter.unusedSimpArgs false

theorem laws_eqUint64S_l0 (xs ys : List Int) (hl : xs.length = ys.length) (hm : xs.length ≤ 140737488355328) : ∀ (d n : Nat), n + d = xs.length → Ev (fun k => laws_eqUint64S.l0 k xs ys (n : Int)) (decide (xs.drop n = ys.drop n)) := by
  intro d
  induction d with
  | zero =>
    intro n hn
    refine Ev.step (fun k => by rw [laws_eqUint64S.l0]) ?_
    refine ev_neg (by omega) (ev_now' ?_)
    rw [List.drop_eq_nil_of_le (by omega), List.drop_eq_nil_of_le (by omega)]; rfl
  | succ d ih =>
    intro n hn
    refine Ev.step (fun k => by rw [laws_eqUint64S.l0]) ?_
    refine ev_pos (by omega) (ev_pos (by omega) (ev_pos (by omega) ?_))
    rw [rd_lt (by omega), rd_lt (by omega), w64 (by omega) (by omega)]
    rw [List.drop_eq_getElem_cons (show n < xs.length by omega), List.drop_eq_getElem_cons (show n < ys.length by omega)]
    refine ev_ite (fun h => ev_eq (ih (n + 1) (by omega)) ?_) (fun h => ev_now' ?_)
    · simp only [List.cons.injEq, h, true_and]
    · exact (decide_eq_false (fun e => h (List.cons.inj e).1)).symm
theorem laws_eqUint64S_ev (xs ys : List Int) (hm : xs.length ≤ 140737488355328) : Ev (fun k => laws_eqUint64S.f k xs ys) (decide (xs = ys)) := by
  unfold laws_eqUint64S.f
  refine ev_ite (fun h => ?_) (fun h => ev_now' ?_)
  · exact laws_eqUint64S_l0 xs ys (by omega) hm xs.length 0 (by omega)
  · exact (decide_eq_false (fun e => h (by rw [e]))).symm
theorem laws_eqBits_ev (a : Int) (l : List Int) (b : Int) (m : List Int) (hm : l.length ≤ 140737488355328) : Ev (fun k => laws_eqBits.f k a l b m) (decide (a = b ∧ l = m)) := by
  unfold laws_eqBits.f
  refine ev_ite (fun h => ev_bind (laws_eqUint64S_ev l m hm) (ev_ite (fun h' => ev_now' ?_) (fun h' => ev_now' ?_))) (fun h => ev_now' ?_)
  · simp at h'; simp [h, h']
  · simp at h'; simp [h']
  · simp [h]
theorem laws_markUint64S_l0 (xs : List Int) (a : Nat) (hm : a + xs.length ≤ 1099511627776) : ∀ (d n : Nat), n + d = xs.length → Ev (fun k => laws_markUint64S.l0 k (marked (fun x => IntKind.u64.wrap x) n a ++ xs.drop n) ((a + n : Nat) : Int) (n : Int)) (((a + xs.length : Nat) : Int), marked (fun x => IntKind.u64.wrap x) xs.length a) := by
  intro d
  induction d with
  | zero =>
    intro n hn
    have e : n = xs.length := by omega
    subst e
    refine Ev.step (fun k => by rw [laws_markUint64S.l0]) ?_
    refine ev_neg (by simp [marked_length]) (ev_now' ?_)
    rw [List.drop_length, List.append_nil]
  | succ d ih =>
    intro n hn
    refine Ev.step (fun k => by rw [laws_markUint64S.l0]) ?_
    refine ev_pos (by simp [marked_length]; omega) (ev_pos (by omega) ?_)
    rw [w64 (by omega) (by omega), w64 (by omega) (by omega), Int.toNat_natCast]
    have e := set_mark (c := (fun x => IntKind.u64.wrap x)) (a := a) (show n < xs.length by omega)
    rw [show (IntKind.u64.wrap ((a + n : Nat) : Int)) = (fun x => IntKind.u64.wrap x) ((a + n : Nat) : Int) from rfl, e]
    exact ih (n + 1) (by omega)
theorem laws_markUint64S_ev (xs : List Int) (a : Nat) (hm : a + xs.length ≤ 1099511627776) : Ev (fun k => laws_markUint64S.f k xs (a : Int)) (((a + xs.length : Nat) : Int), marked (fun x => IntKind.u64.wrap x) xs.length a) := by
  unfold laws_markUint64S.f
  have h := laws_markUint64S_l0 xs a hm xs.length 0 (by omega)
  simpa [marked] using h
theorem laws_markBits_ev (x : Int) (xs : List Int) (a : Nat) (hm : a + xs.length ≤ 1099511627776) : Ev (fun k => laws_markBits.f k x xs (a : Int)) (((a + xs.length : Nat) : Int), marked (fun x => IntKind.u64.wrap x) xs.length a) := by
  unfold laws_markBits.f
  exact ev_bind (laws_markUint64S_ev xs a hm) (ev_now _)
theorem laws_heldUint64S_l0 (m a : Nat) (hm : a + m ≤ 1099511627776) : ∀ (d n : Nat), n + d = m → Ev (fun k => laws_heldUint64S.l0 k (marked (fun x => IntKind.u64.wrap x) m a) ((a + n : Nat) : Int) (n : Int)) ((a + m : Nat) : Int) := by
  intro d
  induction d with
  | zero =>
    intro n hn
    have e : n = m := by omega
    subst e
    refine Ev.step (fun k => by rw [laws_heldUint64S.l0]) ?_
    exact ev_neg (by simp [marked_length]) (ev_now _)
  | succ d ih =>
    intro n hn
    refine Ev.step (fun k => by rw [laws_heldUint64S.l0]) ?_
    refine ev_pos (by rw [marked_length]; omega) (ev_pos (by omega) ?_)
    rw [rd_lt (by rw [marked_length]; omega), marked_get _ _ _ _ (by omega), w64 (by omega) (by omega), w64 (by omega) (by omega)]
    exact ev_pos rfl (ih (n + 1) (by omega))
theorem laws_heldUint64S_ev (m a : Nat) (hm : a + m ≤ 1099511627776) : Ev (fun k => laws_heldUint64S.f k (marked (fun x => IntKind.u64.wrap x) m a) (a : Int)) ((a + m : Nat) : Int) := by
  unfold laws_heldUint64S.f
  exact laws_heldUint64S_l0 m a hm m 0 (by omega)
theorem laws_heldBits_ev (x : Int) (m a : Nat) (hm : a + m ≤ 1099511627776) : Ev (fun k => laws_heldBits.f k x (marked (fun x => IntKind.u64.wrap x) m a) (a : Int)) ((a + m : Nat) : Int) := by
  unfold laws_heldBits.f
  exact ev_bind (laws_heldUint64S_ev m a hm) (ev_neg (by omega) (ev_now _))
theorem laws_szUint64S_f (l : List Int) (a : Nat) (hl : l.length ≤ maxLen) (ha : a ≤ 1099511627776) : laws_szUint64S.f l (a : Int) = some (if a < l.length then -1 else ((a - l.length : Nat) : Int)) := by
  unfold maxLen at hl
  unfold laws_szUint64S.f
  rw [w64 (by omega) (by omega)]
  by_cases h : a < l.length
  · rw [if_pos (by omega), if_pos h]
  · rw [if_neg (by omega), if_neg h]; congr 1; omega
theorem laws_szBits_f (x : Int) (l : List Int) (a : Nat) (hl : l.length ≤ maxLen) (ha : a ≤ 1099511627776) : laws_szBits.f x l (a : Int) = some (if a < l.length then -1 else ((a - l.length : Nat) : Int)) := by
  unfold laws_szBits.f
  rw [laws_szUint64S_f l a hl ha, Option.bind_some]
  by_cases h : a < l.length
  · rw [if_pos h]; rfl
  · rw [if_neg h, if_neg (by omega)]
theorem laws_toUint64S_l0 (xs : List Int) (hm : xs.length ≤ 35184372088832) : ∀ (d n : Nat) (out : List Int), n + d = xs.length → out.length = xs.length → (∀ j, j < n → out[j]? = xs[j]?) → Ev (fun k => laws_toUint64S.l0 k xs out (n : Int)) xs := by
  intro d
  induction d with
  | zero =>
    intro n out hn hl ho
    refine Ev.step (fun k => by rw [laws_toUint64S.l0]) ?_
    refine ev_neg (by omega) (ev_now' ?_)
    apply List.ext_getElem? ; intro j
    by_cases hj : j < n
    · exact ho j hj
    · rw [List.getElem?_eq_none (by omega), List.getElem?_eq_none (by omega)]
  | succ d ih =>
    intro n out hn hl ho
    refine Ev.step (fun k => by rw [laws_toUint64S.l0]) ?_
    refine ev_pos (by omega) (ev_pos (by omega) (ev_pos (by omega) ?_))
    rw [w64 (by omega) (by omega)]
    refine ih (n + 1) _ (by omega) (by simp [hl]) ?_
    intro j hj
    rw [Int.toNat_natCast, List.getElem?_set, rd_lt (by omega)]
    by_cases e : n = j
    · subst e; rw [if_pos rfl, if_pos (by omega), List.getElem?_eq_getElem (by omega)]
    · rw [if_neg e]; exact ho j (by omega)
theorem laws_toUint64S_ev (xs : List Int) (hm : xs.length ≤ 35184372088832) : Ev (fun k => laws_toUint64S.f k xs) xs := by
  unfold laws_toUint64S.f
  refine ev_pos (by omega) (ev_pos (by omega) ?_)
  exact laws_toUint64S_l0 xs hm xs.length 0 _ (by omega) (by simp) (by simp)
theorem laws_toBits_ev (a : Int) (l : List Int) (hm : l.length ≤ 35184372088832) : Ev (fun k => laws_toBits.f k a l) (a, l) := by
  unfold laws_toBits.f
  exact ev_bind (laws_toUint64S_ev l (by omega)) (ev_now _)
theorem spec_l01Power_l0 : ∀ (n m : Nat), n + m ≤ 63 → Ev (fun k => spec_l01Power.l0 k (n : Int) ((2 ^ m : Nat) : Int)) ((2 ^ (n + m) : Nat) : Int) := by
  intro n
  induction n with
  | zero =>
    intro m hm
    refine Ev.step (fun k => by rw [spec_l01Power.l0]) ?_
    exact ev_neg (by omega) (ev_now' (by rw [Nat.zero_add]))
  | succ n ih =>
    intro m hm
    refine Ev.step (fun k => by rw [spec_l01Power.l0]) ?_
    have hp : 2 ^ m ≤ 2 ^ 62 := Nat.pow_le_pow_right (by decide) (by omega)
    have hpp : 2 ^ (m + 1) = 2 ^ m * 2 := Nat.pow_succ ..
    refine ev_pos (by omega) ?_
    rw [w64 (by omega) (by omega), show ((n + 1 : Nat) : Int) - 1 = (n : Int) by omega, show (2 : Int) * ((2 ^ m : Nat) : Int) = ((2 ^ (m + 1) : Nat) : Int) by omega, wraps_u64 _ (by omega) (by omega)]
    refine ev_eq (ih (m + 1) (by omega)) ?_
    rw [show n + (m + 1) = n + 1 + m by omega]
theorem spec_l01Power_ev (n : Nat) (h : n ≤ 63) : Ev (fun k => spec_l01Power.f k (n : Int)) ((2 ^ n : Nat) : Int) := by
  unfold spec_l01Power.f
  exact spec_l01Power_l0 n 0 (by omega)
theorem spec_BitsOf_one (xs : List Int) (hm : xs.length ≤ 5000) (N : Int) (r : Int × List Int × Bool) (n : Nat) (hlt : n < xs.length) (hp : isBits (xs.take n)) (hb : xs[n] = 0 ∨ xs[n] = 1)
    (h : Ev (fun k => spec_BitsOf.l0 k xs (((n + 1 : Nat)) : Int) N (wordsOf (xs.take (n + 1)))) r) : Ev (fun k => spec_BitsOf.j1 k xs (n : Int) false N (wordsOf (xs.take n))) r := by
  have lp : (xs.take n).length = n := by rw [List.length_take]; omega
  have e1 : Int.tmod (n : Int) 64 = ((n % 64 : Nat) : Int) := tmod_nat n 64
  have e2 : Int.tdiv (n : Int) 64 = ((n / 64 : Nat) : Int) := tdiv_nat n 64
  have ys : ∀ ys : List Int, ys = tab (n / 64 + 1) (fun w => ((wordAt (xs.take n) w : Nat) : Int)) → Ev (fun k => if 0 ≤ (n : Int) then (if (n : Int) < (xs.length : Int) then (if (rd xs (n : Int)) = 1 then (if 0 ≤ (wrap64 (Int.tdiv (n : Int) 64)) then (if (wrap64 (Int.tdiv (n : Int) 64)) < (ys.length : Int) then ((spec_l01Power.f k (Int.tmod (n : Int) 64)).bind fun t => (spec_BitsOf.l0 k xs (wrap64 ((n : Int) + 1)) N (ys.set ((wrap64 (Int.tdiv (n : Int) 64)) : Int).toNat (IntKind.u64.wrap ((rd ys (wrap64 (Int.tdiv (n : Int) 64))) + t))))) else (none)) else (none)) else (spec_BitsOf.l0 k xs (wrap64 ((n : Int) + 1)) N ys)) else (none)) else (none)) r := by
    intro ys hys
    refine ev_pos (by omega) (ev_pos (by omega) ?_)
    rw [rd_lt hlt, e1, e2, w64 (n := (n : Int) + 1) (by omega) (by omega), w64 (n := ((n / 64 : Nat) : Int)) (by omega) (by omega)]
    have hw : wordsOf (xs.take (n + 1)) = tab (n / 64 + 1) (fun w => (((if w = n / 64 then wordAt (xs.take n) w + xs[n].toNat * 2 ^ (n % 64) else wordAt (xs.take n) w) : Nat) : Int)) := by
      unfold wordsOf
      rw [show ((xs.take (n + 1)).length + 63) / 64 = n / 64 + 1 by rw [List.length_take]; omega, take_snoc' hlt]
      apply tab_congr
      intro i hi
      rw [wordAt_snoc, lp]
    have hlt2 := wordAt_lt' hp (n / 64) (by rw [lp])
    rw [lp] at hlt2
    have hpow : 2 ^ (n % 64) ≤ 2 ^ 63 := Nat.pow_le_pow_right (by decide) (by omega)
    rw [hw] at h
    refine ev_ite (fun h1 => ?_) (fun h1 => ?_)
    · refine ev_pos (by omega) (ev_pos (by rw [hys, tab_length]; omega) (ev_bind (spec_l01Power_ev (n % 64) (by omega)) ?_))
      rw [hys, rd_tab (by omega), Int.toNat_natCast, tab_set]
      refine Ev.congr (fun k => ?_) h
      congr 1
      apply tab_congr
      intro i hi
      by_cases e : i = n / 64
      · subst e
        rw [if_pos rfl, if_pos rfl, h1]
        generalize 2 ^ (n % 64) = q at *
        rw [wraps_u64 _ (by omega) (by omega)]
        simp
      · rw [if_neg e, if_neg e]
    · have h0 : xs[n] = 0 := by omega
      rw [hys]
      refine Ev.congr (fun k => ?_) h
      congr 1
      apply tab_congr
      intro i hi
      rw [h0]; simp
  refine Ev.step (fun k => by rw [spec_BitsOf.j1]) (ev_neg (by decide) ?_)
  have hws : (n % 64 = 0 → wordsOf (xs.take n) ++ [0] = tab (n / 64 + 1) (fun w => ((wordAt (xs.take n) w : Nat) : Int))) ∧ (n % 64 ≠ 0 → wordsOf (xs.take n) = tab (n / 64 + 1) (fun w => ((wordAt (xs.take n) w : Nat) : Int))) := by
    unfold wordsOf
    rw [lp]
    constructor
    · intro h0
      rw [show (n + 63) / 64 = n / 64 by omega, tab_succ, wordAt_nil (by rw [lp]; omega)]; rfl
    · intro h0
      rw [show (n + 63) / 64 = n / 64 + 1 by omega]
  have hl : (wordsOf (xs.take n)).length < 17592186044416 := by unfold wordsOf; rw [tab_length, lp]; omega
  by_cases h0 : n % 64 = 0
  · refine ev_pos (by rw [e1]; omega) (ev_pos hl ?_)
    exact ev_some rfl (ys _ (hws.1 h0))
  · refine ev_neg (by rw [e1]; omega) (ys _ (hws.2 h0))
theorem spec_BitsOf_l0 (xs : List Int) (hm : xs.length ≤ 5000) (N : Int) : ∀ (d n : Nat), n + d = xs.length → isBits (xs.take n) → Ev (fun k => spec_BitsOf.l0 k xs (n : Int) N (wordsOf (xs.take n))) (if (xs.drop n).all (fun a => decide (a = 0 ∨ a = 1)) = true then (N, wordsOf xs, true) else (0, [], false)) := by
  intro d
  induction d with
  | zero =>
    intro n hn hp
    refine Ev.step (fun k => by rw [spec_BitsOf.l0]) ?_
    refine ev_neg (by omega) (ev_now' ?_)
    rw [List.drop_eq_nil_of_le (by omega), List.take_of_length_le (by omega)]; rfl
  | succ d ih =>
    intro n hn hp
    have hlt : n < xs.length := by omega
    refine Ev.step (fun k => by rw [spec_BitsOf.l0]) ?_
    refine ev_pos (by omega) (ev_pos (by omega) ?_)
    rw [rd_lt hlt, List.drop_eq_getElem_cons hlt, List.all_cons]
    have good : (xs[n] = 0 ∨ xs[n] = 1) → Ev (fun k => spec_BitsOf.j1 k xs (n : Int) false N (wordsOf (xs.take n))) (if (xs.drop (n + 1)).all (fun a => decide (a = 0 ∨ a = 1)) = true then (N, wordsOf xs, true) else (0, [], false)) := by
      intro hb
      refine spec_BitsOf_one xs hm N _ n hlt hp hb (ih (n + 1) (by omega) ?_)
      rw [take_snoc' hlt]
      intro b hb'
      rcases List.mem_append.1 hb' with h | h
      · exact hp b h
      · rw [List.mem_singleton.1 h]; exact hb
    by_cases h0 : xs[n] = 0
    · rw [decide_eq_true (Or.inl h0), Bool.true_and]
      exact ev_pos h0 (good (Or.inl h0))
    · refine ev_neg h0 ?_
      by_cases h1 : xs[n] = 1
      · rw [decide_eq_true (Or.inr h1), Bool.true_and, bne_eq_false_iff_eq.2 h1]
        exact good (Or.inr h1)
      · rw [decide_eq_false (by omega), bne_iff_ne.2 h1]
        refine Ev.step (fun k => by rw [spec_BitsOf.j1]) ?_
        exact ev_pos rfl (ev_now _)
def bitsOfR (xs : List Int) : Int × List Int × Bool := if (decide (xs.length ≤ 5000) && xs.all fun a => decide (a = 0 ∨ a = 1)) = true then ((xs.length : Int), wordsOf xs, true) else (0, [], false)
theorem spec_BitsOf_ev (xs : List Int) : Ev (fun k => spec_BitsOf.f k xs) (bitsOfR xs) := by
  unfold spec_BitsOf.f bitsOfR
  refine ev_ite (fun h => ev_now' ?_) (fun h => ?_)
  · rw [decide_eq_false (by omega)]; rfl
  · rw [decide_eq_true (show xs.length ≤ 5000 by omega), Bool.true_and]
    have h := spec_BitsOf_l0 xs (by omega) (xs.length : Int) xs.length 0 (by omega) (fun b hb => by simp at hb)
    rw [List.drop_zero, show wordsOf (xs.take 0) = [] by rw [List.take_zero]; rfl] at h
    exact h
theorem spec_l01List_l1 (n : Nat) (ws : List Int) (hn : n ≤ 5000) (i v : Nat) (hi : i < n) (r : List Int)
    (h : Ev (fun k => spec_l01List.l0 k (tab (i + 1) (bitAt ws)) ((i + 1 : Nat) : Int) (n : Int) ws) r) : ∀ (s w : Nat), (w / 2 ^ s) % 2 = v % 2 → w < 2 ^ 64 → s ≤ 64 → ((v % 2 : Nat) : Int) = bitAt ws i → Ev (fun k => spec_l01List.l1 k (tab i (bitAt ws)) (i : Int) (w : Int) (s : Int) (n : Int) ws) r := by
  intro s
  induction s with
  | zero =>
    intro w hw hw2 _ hv
    refine Ev.step (fun k => by rw [spec_l01List.l1]) (ev_neg (by omega) (ev_pos (by rw [tab_length]; omega) ?_))
    rw [show Int.tmod (w : Int) 2 = ((w % 2 : Nat) : Int) from tmod_nat w 2, w64 (by omega) (by omega), w64 (by omega) (by omega)]
    refine Ev.congr (fun k => ?_) h
    rw [Nat.pow_zero, Nat.div_one] at hw
    rw [tab_succ, hw, hv]; rfl
  | succ s ih =>
    intro w hw hw2 hs hv
    refine Ev.step (fun k => by rw [spec_l01List.l1]) (ev_pos (by omega) ?_)
    rw [show Int.tdiv (w : Int) 2 = ((w / 2 : Nat) : Int) from tdiv_nat w 2, w64 (by omega) (by omega), wraps_u64 _ (by omega) (by omega), show ((s + 1 : Nat) : Int) - 1 = (s : Int) by omega]
    refine ih (w / 2) ?_ (by omega) (by omega) hv
    rw [← hw, Nat.div_div_eq_div_mul, Nat.pow_succ, Nat.mul_comm]
theorem spec_l01List_l0 (n : Nat) (ws : List Int) (hn : n ≤ 5000) (hl : (n + 63) / 64 ≤ ws.length) (hw : ∀ x ∈ ws, 0 ≤ x ∧ x ≤ 18446744073709551615) : ∀ (d i : Nat), i + d = n → Ev (fun k => spec_l01List.l0 k (tab i (bitAt ws)) (i : Int) (n : Int) ws) (listL n ws) := by
  intro d
  induction d with
  | zero =>
    intro i hi
    refine Ev.step (fun k => by rw [spec_l01List.l0]) ?_
    refine ev_neg (by omega) (ev_now' ?_)
    rw [show i = n by omega]; rfl
  | succ d ih =>
    intro i hi
    have hlt : i / 64 < ws.length := by omega
    refine Ev.step (fun k => by rw [spec_l01List.l0]) ?_
    rw [show Int.tdiv (i : Int) 64 = ((i / 64 : Nat) : Int) from tdiv_nat i 64, show Int.tmod (i : Int) 64 = ((i % 64 : Nat) : Int) from tmod_nat i 64, w64 (n := ((i / 64 : Nat) : Int)) (by omega) (by omega), rd_lt hlt]
    refine ev_pos (by omega) (ev_pos (by omega) (ev_pos (by omega) ?_))
    have hx := hw _ (List.getElem_mem hlt)
    obtain ⟨w, e⟩ : ∃ w : Nat, ws[i / 64] = (w : Int) := ⟨ws[i / 64].toNat, by omega⟩
    rw [e]
    refine spec_l01List_l1 n ws hn i (w / 2 ^ (i % 64)) (by omega) _ (ih (i + 1) (by omega)) (i % 64) w rfl (by omega) (by omega) ?_
    unfold bitAt
    rw [List.getD_eq_getElem?_getD, List.getElem?_eq_getElem hlt, Option.getD_some, e, Int.toNat_natCast]
theorem spec_l01List_ev (n : Nat) (ws : List Int) (hn : n ≤ 5000) (hl : (n + 63) / 64 ≤ ws.length) (hw : ∀ x ∈ ws, 0 ≤ x ∧ x ≤ 18446744073709551615) : Ev (fun k => spec_l01List.f k (n : Int) ws) (listL n ws) := by
  unfold spec_l01List.f
  exact spec_l01List_l0 n ws hn hl hw n 0 (by omega)
theorem spec_BitsOk_l0 (a b : Int) (xs ys : List Int) (hl : xs.length = ys.length) (hm : xs.length ≤ 140737488355328) : ∀ (d n : Nat), n + d = xs.length → Ev (fun k => spec_BitsOk.l0 k (n : Int) a xs b ys) (decide (xs.drop n = ys.drop n)) := by
  intro d
  induction d with
  | zero =>
    intro n hn
    refine Ev.step (fun k => by rw [spec_BitsOk.l0]) ?_
    refine ev_neg (by omega) (ev_now' ?_)
    rw [List.drop_eq_nil_of_le (by omega), List.drop_eq_nil_of_le (by omega)]; rfl
  | succ d ih =>
    intro n hn
    refine Ev.step (fun k => by rw [spec_BitsOk.l0]) ?_
    refine ev_pos (by omega) (ev_pos (by omega) (ev_pos (by omega) ?_))
    rw [rd_lt (by omega), rd_lt (by omega), w64 (by omega) (by omega)]
    rw [List.drop_eq_getElem_cons (show n < xs.length by omega), List.drop_eq_getElem_cons (show n < ys.length by omega)]
    refine ev_ite (fun h => ev_eq (ih (n + 1) (by omega)) ?_) (fun h => ev_now' ?_)
    · simp only [List.cons.injEq, h, true_and]
    · exact (decide_eq_false (fun e => h (List.cons.inj e).1)).symm
theorem spec_BitsOk_j0 (n : Nat) (ws : List Int) (hn : n ≤ 5000) (hl : ws.length = (n + 63) / 64) (hw : ∀ x ∈ ws, 0 ≤ x ∧ x ≤ 18446744073709551615) : Ev (fun k => spec_BitsOk.j0 k false (n : Int) ws) (bitsOk n ws) := by
  refine Ev.step (fun k => by rw [spec_BitsOk.j0]) (ev_neg (by decide) ?_)
  refine ev_bind (spec_l01List_ev n ws hn (by omega) hw) (ev_bind (spec_BitsOf_ev (listL n ws)) ?_)
  have e : bitsOfR (listL n ws) = ((n : Int), wordsOf (listL n ws), true) := by
    unfold bitsOfR
    rw [if_pos, listL_length]
    rw [listL_length, decide_eq_true hn, Bool.true_and, List.all_eq_true]
    intro b hb
    exact decide_eq_true (listL_bits n ws b hb)
  rw [e]
  refine ev_eq (spec_BitsOk_l0 (n : Int) (n : Int) ws _ (by rw [wordsOf_length, listL_length]; exact hl) (by omega) ws.length 0 (by omega)) ?_
  rw [List.drop_zero, List.drop_zero]
  unfold bitsOk
  refine decide_eq_decide.2 ?_
  rw [words_same n ws hl hw]
  constructor
  · intro h
    refine ⟨by omega, by omega, by omega, ?_⟩
    rw [show ((n : Int) % 64).toNat = n % 64 by omega]
    omega
  · intro h
    have := h.2.2.2
    rw [show ((n : Int) % 64).toNat = n % 64 by omega] at this
    omega
theorem spec_BitsOk_ev (n : Int) (ws : List Int) (hm : ws.length ≤ 140737488355328) (hw : ∀ x ∈ ws, 0 ≤ x ∧ x ≤ 18446744073709551615) : Ev (fun k => spec_BitsOk.f k n ws) (bitsOk n ws) := by
  unfold spec_BitsOk.f
  refine ev_ite (fun h => ?_) (fun h => ev_ite (fun h1 => ?_) (fun h1 => ?_))
  · refine Ev.step (fun k => by rw [spec_BitsOk.j0]) ?_
    refine ev_pos rfl (ev_now' ?_)
    exact (decide_eq_false (by omega)).symm
  · refine Ev.step (fun k => by rw [spec_BitsOk.j0]) ?_
    refine ev_pos rfl (ev_now' ?_)
    exact (decide_eq_false (by omega)).symm
  · obtain ⟨m, rfl⟩ : ∃ m : Nat, n = (m : Int) := ⟨n.toNat, by omega⟩
    rw [w64 (n := (m : Int) + 63) (by omega) (by omega), show Int.tdiv ((m : Int) + 63) 64 = (((m + 63) / 64 : Nat) : Int) from tdiv_nat (m + 63) 64, w64 (by omega) (by omega)]
    by_cases h2 : ws.length = (m + 63) / 64
    · rw [bne_eq_false_iff_eq.2 (show (ws.length : Int) = (((m + 63) / 64 : Nat) : Int) by omega)]
      exact spec_BitsOk_j0 m ws (by omega) h2 hw
    · rw [bne_iff_ne.2 (show (ws.length : Int) ≠ (((m + 63) / 64 : Nat) : Int) by omega)]
      refine Ev.step (fun k => by rw [spec_BitsOk.j0]) ?_
      refine ev_pos rfl (ev_now' ?_)
      exact (decide_eq_false (by omega)).symm
def bitsJoinR (n : Int) (ws : List Int) (m : Int) (vs : List Int) : Int × List Int × Bool := if bitsOk n ws = true ∧ bitsOk m vs = true then bitsOfR (listL n.toNat ws ++ listL m.toNat vs) else (0, [], false)
theorem spec_BitsJoin_ev (n : Int) (ws : List Int) (m : Int) (vs : List Int) (hm : ws.length ≤ 140737488355328) (hw : ∀ x ∈ ws, 0 ≤ x ∧ x ≤ 18446744073709551615) (hm' : vs.length ≤ 140737488355328) (hw' : ∀ x ∈ vs, 0 ≤ x ∧ x ≤ 18446744073709551615) : Ev (fun k => spec_BitsJoin.f k n ws m vs) (bitsJoinR n ws m vs) := by
  unfold spec_BitsJoin.f bitsJoinR
  have bad : Ev (fun k => spec_BitsJoin.j0 k true n ws m vs) (0, [], false) := Ev.step (fun k => by rw [spec_BitsJoin.j0]) (ev_pos rfl (ev_now _))
  refine ev_bind (spec_BitsOk_ev n ws hm hw) (ev_ite (fun h => ?_) (fun h => ev_eq bad (by rw [if_neg (fun g => h g.1)])))
  refine ev_bind (spec_BitsOk_ev m vs hm' hw') ?_
  by_cases h2 : bitsOk m vs = true
  · rw [h2, if_pos ⟨h, rfl⟩]
    obtain ⟨a, rfl, ha5, hla⟩ := bitsOk_true h
    obtain ⟨b, rfl, hb5, hlb⟩ := bitsOk_true h2
    rw [Int.toNat_natCast, Int.toNat_natCast]
    refine Ev.step (fun k => by rw [spec_BitsJoin.j0]) (ev_neg (by decide) ?_)
    refine ev_bind (spec_l01List_ev a ws ha5 (by omega) hw) (ev_bind (spec_l01List_ev b vs hb5 (by omega) hw') (ev_pos (by rw [listL_length, listL_length]; omega) ?_))
    exact ev_bind (spec_BitsOf_ev _) (ev_now _)
  · rw [if_neg (fun g => h2 g.2), Bool.eq_false_iff.2 h2]
    exact bad
theorem impl_isBit_f (a : Int) : impl_isBit.f a = some (decide (a = 0 ∨ a = 1)) := by
  unfold impl_isBit.f
  by_cases h : a = 0
  · simp [h]
  · by_cases h1 : a = 1 <;> simp [h, h1]
theorem impl_bitsOf_l0 (xs : List Int) (hm : xs.length ≤ 1000000) (hx : isBits xs) (N : Int) : ∀ (d n : Nat), n + d = xs.length → Ev (fun k => impl_bitsOf.l0 k xs (xs.length : Int) (n : Int) N (tab ((xs.length + 63) / 64) fun w => ((wordAt (xs.take n) w : Nat) : Int))) (N, wordsOf xs) := by
  intro d
  induction d with
  | zero =>
    intro n hn
    refine Ev.step (fun k => by rw [impl_bitsOf.l0]) ?_
    refine ev_neg (by omega) (ev_now' ?_)
    rw [List.take_of_length_le (by omega)]; rfl
  | succ d ih =>
    intro n hn
    have hlt : n < xs.length := by omega
    have lp : (xs.take n).length = n := by rw [List.length_take]; omega
    have e1 : Int.tmod (n : Int) 64 = ((n % 64 : Nat) : Int) := tmod_nat n 64
    have e2 : Int.tdiv (n : Int) 64 = ((n / 64 : Nat) : Int) := tdiv_nat n 64
    have hb := hx _ (List.getElem_mem hlt)
    refine Ev.step (fun k => by rw [impl_bitsOf.l0]) ?_
    rw [rd_lt hlt, e1, e2, w64 (n := (n : Int) + 1) (by omega) (by omega), w64 (n := ((n / 64 : Nat) : Int)) (by omega) (by omega), rd_tab (show n / 64 < (xs.length + 63) / 64 by omega)]
    refine ev_pos (by omega) (ev_pos (by omega) (ev_pos (by omega) (ev_pos (by omega) (ev_pos (by rw [tab_length]; omega) (ev_pos (by omega) ?_)))))
    rw [Int.toNat_natCast, tab_set]
    refine Ev.congr (fun k => ?_) (ih (n + 1) (by omega))
    congr 1
    apply tab_congr
    intro i hi
    rw [take_snoc' hlt, wordAt_snoc, lp]
    by_cases e : i = n / 64
    · subst e
      rw [if_pos rfl, if_pos rfl]
      have hlt2 := wordAt_lt' (isBits_take hx n) (n / 64) (by rw [lp])
      rw [lp] at hlt2
      have hpow : 2 ^ (n % 64) ≤ 2 ^ 63 := Nat.pow_le_pow_right (by decide) (by omega)
      have es : shl .u64 (IntKind.u64.wrap xs[n]) ((n % 64 : Nat) : Int) = ((2 ^ (n % 64) * xs[n].toNat : Nat) : Int) := by
        have hq : xs[n].toNat * 2 ^ (n % 64) < 2 ^ 64 := by
          generalize 2 ^ (n % 64) = q at *
          rcases hb with hb | hb <;> rw [hb] <;> simp <;> omega
        rw [wraps_u64 _ (by omega) (by omega), show xs[n] = ((xs[n].toNat : Nat) : Int) by omega, shl_u64 _ _ (by omega) hq, Int.toNat_natCast, Nat.mul_comm]
      have hlt3 : 2 ^ (n % 64) * xs[n].toNat < 2 ^ 64 := by
        generalize 2 ^ (n % 64) = q at *
        rcases hb with hb | hb <;> rw [hb] <;> simp <;> omega
      rw [es, u64_or_nat _ _ (by omega) (by omega), Nat.or_comm, ← Nat.two_pow_add_eq_or_of_lt hlt2, Nat.add_comm, Nat.mul_comm]
    · rw [if_neg e, if_neg e]
theorem impl_bitsOf_ev (xs : List Int) (hm : xs.length ≤ 1000000) (hx : isBits xs) : Ev (fun k => impl_bitsOf.f k xs) ((xs.length : Int), wordsOf xs) := by
  unfold impl_bitsOf.f
  have e : wrap64 (Int.tdiv (wrap64 (wrap64 ((xs.length : Int) + 64) - 1)) 64) = (((xs.length + 63) / 64 : Nat) : Int) := by
    rw [w64 (n := (xs.length : Int) + 64) (by omega) (by omega), w64 (n := (xs.length : Int) + 64 - 1) (by omega) (by omega), show (xs.length : Int) + 64 - 1 = ((xs.length + 63 : Nat) : Int) by omega]
    rw [show Int.tdiv ((xs.length + 63 : Nat) : Int) 64 = (((xs.length + 63) / 64 : Nat) : Int) from tdiv_nat (xs.length + 63) 64, w64 (by omega) (by omega)]
  rw [e]
  refine ev_pos (by omega) (ev_pos (by omega) ?_)
  rw [Int.toNat_natCast, tab_zero _ (fun w => ((wordAt (xs.take 0) w : Nat) : Int)) (fun i hi => by simp [wordAt, nb])]
  exact impl_bitsOf_l0 xs hm hx _ xs.length 0 (by omega)
theorem allO_all (p : Int → Option Bool) (q : Int → Bool) (h : ∀ x, p x = some (q x)) (l : List Int) : allO p l = some (l.all q) := by
  induction l with
  | nil => rfl
  | cons x l ih =>
    rw [allO, h x, Option.bind_some]
    cases hq : q x
    · simp [hq]
    · rw [if_pos rfl, ih]; simp [hq]
theorem impl_areAll_isBit_f (l : List Int) : impl_areAll_isBit.f l = some (l.all fun a => decide (a = 0 ∨ a = 1)) := allO_all _ _ impl_isBit_f l
theorem all_isBits {xs : List Int} : (xs.all fun a => decide (a = 0 ∨ a = 1)) = true ↔ isBits xs := by
  rw [List.all_eq_true]
  exact ⟨fun h b hb => of_decide_eq_true (h b hb), fun h b hb => decide_eq_true (h b hb)⟩
theorem impl_BitsOf_ev (xs : List Int) : Ev (fun k => impl_BitsOf.f k xs) (bitsOfR xs) := by
  unfold impl_BitsOf.f bitsOfR
  refine ev_ite (fun h => ev_now' ?_) (fun h => ?_)
  · rw [decide_eq_false (by omega)]; rfl
  · rw [decide_eq_true (show xs.length ≤ 5000 by omega), Bool.true_and]
    refine ev_some (impl_areAll_isBit_f xs) (ev_ite (fun h1 => ?_) (fun h1 => ?_))
    · rw [if_pos h1]; exact ev_bind (impl_bitsOf_ev xs (by omega) (all_isBits.1 h1)) (ev_now _)
    · rw [if_neg h1]; exact ev_now _
theorem impl_within_f (a b c : Int) : impl_within.f a b c = some (decide (b ≤ a ∧ a ≤ c)) := by
  unfold impl_within.f
  by_cases h : b ≤ a <;> simp [h]
theorem impl_BitsOk_f (n : Int) (ws : List Int) (hm : ws.length ≤ 140737488355328) (hw : ∀ x ∈ ws, 0 ≤ x ∧ x ≤ 18446744073709551615) : impl_BitsOk.f n ws = some (bitsOk n ws) := by
  unfold impl_BitsOk.f
  rw [impl_within_f, Option.bind_some]
  by_cases h : 0 ≤ n ∧ n ≤ 5000
  · rw [if_pos (by rw [decide_eq_true h])]
    obtain ⟨m, rfl⟩ : ∃ m : Nat, n = (m : Int) := ⟨n.toNat, by omega⟩
    rw [w64 (n := (m : Int) + 64) (by omega) (by omega), w64 (n := (m : Int) + 64 - 1) (by omega) (by omega), show (m : Int) + 64 - 1 = ((m + 63 : Nat) : Int) by omega, show Int.tdiv ((m + 63 : Nat) : Int) 64 = (((m + 63) / 64 : Nat) : Int) from tdiv_nat (m + 63) 64, w64 (n := (((m + 63) / 64 : Nat) : Int)) (by omega) (by omega), show Int.tmod (m : Int) 64 = ((m % 64 : Nat) : Int) from tmod_nat m 64]
    by_cases h1 : ws.length = (m + 63) / 64
    · rw [if_pos (by omega)]
      by_cases h2 : m % 64 = 0
      · rw [if_pos (by omega)]
        unfold bitsOk
        rw [decide_eq_true]
        refine ⟨by omega, by omega, by omega, Or.inl (by omega)⟩
      · rw [if_neg (by omega), w64 (by omega) (by omega), if_pos (by omega), if_pos (by omega), if_pos (by omega)]
        have hlt : ws.length - 1 < ws.length := by omega
        rw [show (ws.length : Int) - 1 = ((ws.length - 1 : Nat) : Int) by omega, rd_lt hlt]
        have hx := hw _ (List.getElem_mem hlt)
        obtain ⟨w, e⟩ : ∃ w : Nat, ws[ws.length - 1] = (w : Int) := ⟨ws[ws.length - 1].toNat, by omega⟩
        rw [e, shr_u64 _ _ (by omega)]
        congr 1
        unfold bitsOk
        rw [List.getD_eq_getElem?_getD, List.getElem?_eq_getElem hlt, Option.getD_some, e, Int.toNat_natCast, show ((m : Int) % 64).toNat = m % 64 by omega]
        generalize w / 2 ^ (m % 64) = q
        by_cases h3 : q = 0
        · subst h3
          rw [decide_eq_true]
          · rfl
          · exact ⟨by omega, by omega, by omega, Or.inr rfl⟩
        · rw [decide_eq_false (by omega)]
          exact beq_eq_false_iff_ne.2 (by omega)
    · rw [if_neg (by omega)]
      congr 1
      exact (decide_eq_false (by omega)).symm
  · rw [if_neg (by rw [decide_eq_false h]; decide)]
    congr 1
    exact (decide_eq_false (by omega)).symm
theorem impl_Bits_at_f (n : Int) (ws : List Int) (i : Nat) (hi : i / 64 < ws.length) (hm : ws.length ≤ 1000000) (hw : ∀ x ∈ ws, 0 ≤ x ∧ x ≤ 18446744073709551615) : impl_Bits_at.f n ws (i : Int) = some (bitAt ws i) := by
  unfold impl_Bits_at.f
  rw [show Int.tdiv (i : Int) 64 = ((i / 64 : Nat) : Int) from tdiv_nat i 64, show Int.tmod (i : Int) 64 = ((i % 64 : Nat) : Int) from tmod_nat i 64, w64 (n := ((i / 64 : Nat) : Int)) (by omega) (by omega), rd_lt hi]
  rw [if_pos (by omega), if_pos (by omega), if_pos (by omega)]
  have hx := hw _ (List.getElem_mem hi)
  obtain ⟨w, e⟩ : ∃ w : Nat, ws[i / 64] = (w : Int) := ⟨ws[i / 64].toNat, by omega⟩
  rw [e, shr_u64 _ _ (by omega), and1_u64 _ (Nat.lt_of_le_of_lt (Nat.div_le_self _ _) (by omega)), w64 (by omega) (by omega)]
  unfold bitAt
  rw [List.getD_eq_getElem?_getD, List.getElem?_eq_getElem hi, Option.getD_some, e, Int.toNat_natCast]
theorem impl_Bits_list_l0 (n : Nat) (ws : List Int) (hn : n ≤ 5000) (hl : ws.length = (n + 63) / 64) (hw : ∀ x ∈ ws, 0 ≤ x ∧ x ≤ 18446744073709551615) : ∀ (d i : Nat), i + d = n → Ev (fun k => impl_Bits_list.l0 k (tab i (bitAt ws)) (n : Int) (i : Int) (n : Int) ws) (listL n ws) := by
  intro d
  induction d with
  | zero =>
    intro i hi
    refine Ev.step (fun k => by rw [impl_Bits_list.l0]) ?_
    refine ev_neg (by omega) (ev_now' ?_)
    rw [show i = n by omega]; rfl
  | succ d ih =>
    intro i hi
    refine Ev.step (fun k => by rw [impl_Bits_list.l0]) ?_
    refine ev_pos (by omega) (ev_some (impl_Bits_at_f (n : Int) ws i (by omega) (by omega) hw) (ev_pos (by rw [tab_length]; omega) ?_))
    rw [w64 (by omega) (by omega), ← tab_succ]
    exact ih (i + 1) (by omega)
theorem impl_Bits_list_ev (n : Nat) (ws : List Int) (hn : n ≤ 5000) (hl : ws.length = (n + 63) / 64) (hw : ∀ x ∈ ws, 0 ≤ x ∧ x ≤ 18446744073709551615) : Ev (fun k => impl_Bits_list.f k (n : Int) ws) (listL n ws) := by
  unfold impl_Bits_list.f
  exact impl_Bits_list_l0 n ws hn hl hw n 0 (by omega)
theorem slices_Grow_f (a : Int) (h0 : 0 ≤ a) (h : a ≤ 1000000000) : slices_Grow_int_int.f a = some [] := by
  unfold slices_Grow_int_int.f
  have e : wrap64 (a - wrap64 (-(([] : List Int).length : Int))) = a := by
    rw [List.length_nil, w64 (n := -((0 : Nat) : Int)) (by omega) (by omega), w64 (by omega) (by omega)]
    omega
  rw [e, if_neg (by omega)]
  by_cases h1 : a > 0
  · rw [if_pos h1, if_pos h0, if_pos (by rw [List.length_nil]; omega), Option.bind_some, if_pos (by rw [List.length_nil]; omega), if_pos (by rw [List.length_nil]; omega)]
    rfl
  · rw [if_neg h1]
theorem slices_Concat_ev (a b : List Int) (ha : a.length ≤ 1000000) (hb : b.length ≤ 1000000) : Ev (fun k => slices_Concat_int_int.f k [a, b]) (a ++ b) := by
  unfold slices_Concat_int_int.f
  have l2 : (([a, b] : List (List Int)).length : Int) = 2 := rfl
  have r0 : rd_L2 [a, b] 0 = a := rfl
  have r1 : rd_L2 [a, b] 1 = b := rfl
  refine Ev.step (fun k => by rw [slices_Concat_int_int.l0]) ?_
  rw [l2, r0]
  rw [w64 (n := 0 + (a.length : Int)) (by omega) (by omega), w64 (n := (0 : Int) + 1) (by omega) (by omega)]
  refine ev_pos (by omega) (ev_pos (by omega) (ev_pos (by omega) (ev_neg (by omega) ?_)))
  refine Ev.step (fun k => by rw [slices_Concat_int_int.l0]) ?_
  rw [l2, show (0 : Int) + 1 = 1 from rfl, r1]
  rw [w64 (n := 0 + (a.length : Int) + (b.length : Int)) (by omega) (by omega), w64 (n := (1 : Int) + 1) (by omega) (by omega)]
  refine ev_pos (by omega) (ev_pos (by omega) (ev_pos (by omega) (ev_neg (by omega) ?_)))
  refine Ev.step (fun k => by rw [slices_Concat_int_int.l0]) ?_
  refine ev_neg (by omega) (ev_some (slices_Grow_f _ (by omega) (by omega)) ?_)
  refine Ev.step (fun k => by rw [slices_Concat_int_int.l1]) ?_
  rw [l2, r0, w64 (n := (0 : Int) + 1) (by omega) (by omega)]
  refine ev_pos (by omega) (ev_pos (by omega) (ev_pos (by omega) (ev_pos (by rw [List.length_nil]; omega) ?_)))
  refine Ev.step (fun k => by rw [slices_Concat_int_int.l1]) ?_
  rw [l2, show (0 : Int) + 1 = 1 from rfl, r1, w64 (n := (1 : Int) + 1) (by omega) (by omega)]
  refine ev_pos (by omega) (ev_pos (by omega) (ev_pos (by omega) (ev_pos (by rw [List.nil_append]; omega) ?_)))
  refine Ev.step (fun k => by rw [slices_Concat_int_int.l1]) ?_
  exact ev_neg (by omega) (ev_now' (by rw [List.nil_append]))
theorem impl_BitsJoin_ev (n : Int) (ws : List Int) (m : Int) (vs : List Int) (hm : ws.length ≤ 140737488355328) (hw : ∀ x ∈ ws, 0 ≤ x ∧ x ≤ 18446744073709551615) (hm' : vs.length ≤ 140737488355328) (hw' : ∀ x ∈ vs, 0 ≤ x ∧ x ≤ 18446744073709551615) : Ev (fun k => impl_BitsJoin.f k n ws m vs) (bitsJoinR n ws m vs) := by
  unfold impl_BitsJoin.f bitsJoinR
  have bad : Ev (fun k => impl_BitsJoin.j0 k true n ws m vs) (0, [], false) := Ev.step (fun k => by rw [impl_BitsJoin.j0]) (ev_pos rfl (ev_now _))
  refine ev_some (impl_BitsOk_f n ws hm hw) (ev_ite (fun h => ?_) (fun h => ev_eq bad (by rw [if_neg (fun g => h g.1)])))
  refine ev_some (impl_BitsOk_f m vs hm' hw') ?_
  by_cases h2 : bitsOk m vs = true
  · rw [h2, if_pos ⟨h, rfl⟩]
    obtain ⟨a, rfl, ha5, hla⟩ := bitsOk_true h
    obtain ⟨b, rfl, hb5, hlb⟩ := bitsOk_true h2
    rw [Int.toNat_natCast, Int.toNat_natCast]
    refine Ev.step (fun k => by rw [impl_BitsJoin.j0]) (ev_neg (by decide) ?_)
    refine ev_bind (impl_Bits_list_ev a ws ha5 (by omega) hw) (ev_bind (impl_Bits_list_ev b vs hb5 (by omega) hw') (ev_bind (slices_Concat_ev _ _ (by rw [listL_length]; omega) (by rw [listL_length]; omega)) ?_))
    exact ev_bind (impl_BitsOf_ev _) (ev_now _)
  · rw [if_neg (fun g => h2 g.2), Bool.eq_false_iff.2 h2]
    exact bad

theorem bitsJoinR_len (n : Int) (ws : List Int) (m : Int) (vs : List Int) : (bitsJoinR n ws m vs).2.1.length ≤ 1000 := by
  unfold bitsJoinR
  split
  · unfold bitsOfR
    split
    · rename_i h
      have := wordsOf_length (listL n.toNat ws ++ listL m.toNat vs)
      simp only [Bool.and_eq_true, decide_eq_true_eq] at h
      have := h.1
      simp only
      omega
    · simp
  · simp
theorem FnExactBitsJoin : laws_FnExactBitsJoin.Pure := by
  intro n ws m vs _ hl hw _ hl' hw'
  refine Ev.rounds ?_
  unfold laws_FnExactBitsJoin.f
  refine ev_some (laws_szBits_f n ws 1048576 hl (by omega)) ?_
  refine ev_ite (fun _ => ev_now _) (fun h => ?_)
  have hm : ws.length ≤ 1048576 := by
    rcases Nat.lt_or_ge 1048576 ws.length with g | g
    · rw [if_pos g] at h; omega
    · exact g
  rw [if_neg (by omega)]
  refine ev_some (laws_szBits_f m vs (1048576 - ws.length) hl' (by omega)) ?_
  refine ev_ite (fun _ => ev_now _) (fun h' => ?_)
  have hm' : vs.length ≤ 1048576 := by
    rcases Nat.lt_or_ge (1048576 - ws.length) vs.length with g | g
    · rw [if_pos g] at h'; omega
    · omega
  clear h h'
  have hw1 : ∀ x ∈ ws, 0 ≤ x ∧ x ≤ 18446744073709551615 := fun x hx => wf_u64 (hw x hx)
  have hw2 : ∀ x ∈ vs, 0 ≤ x ∧ x ≤ 18446744073709551615 := fun x hx => wf_u64 (hw' x hx)
  have ht := laws_toBits_ev n ws (by omega)
  have ht' := laws_toBits_ev m vs (by omega)
  have hs := spec_BitsJoin_ev n ws m vs (by omega) hw1 (by omega) hw2
  have hi := impl_BitsJoin_ev n ws m vs (by omega) hw1 (by omega) hw2
  have hlen := bitsJoinR_len n ws m vs
  generalize bitsJoinR n ws m vs = R at *
  obtain ⟨c, us, o⟩ := R
  have hlu : us.length ≤ 1000 := hlen
  have hq : Ev (fun k => laws_eqBits.f k c us c us) true := ev_eq (laws_eqBits_ev c us c us (by omega)) (by simp)
  have ho : (o != o) = false := by cases o <;> rfl
  have h2 : Ev (fun k => laws_FnExactBitsJoin.j2 k ((1 + us.length : Nat) : Int) false c (marked (fun x => IntKind.u64.wrap x) us.length 1)) true := by
    refine Ev.step (fun k => by rw [laws_FnExactBitsJoin.j2]) (ev_neg (by decide) ?_)
    exact ev_bind (laws_heldBits_ev c us.length 1 (by omega)) (ev_neg (by omega) (ev_pos rfl (ev_now _)))
  have h1 : Ev (fun k => laws_FnExactBitsJoin.j1 k o false n ws m vs c us c us) true := by
    refine Ev.step (fun k => by rw [laws_FnExactBitsJoin.j1]) (ev_neg (by decide) ?_)
    refine ev_bind (laws_markBits_ev c us 1 (by omega)) (ev_bind (laws_heldBits_ev c us.length 1 (by omega)) (ev_neg (by omega) (ev_pos rfl ?_)))
    refine ev_bind ht (ev_bind ht' (ev_bind hi (ev_bind hq (ev_pos rfl ?_))))
    rw [ho]
    exact h2
  have h0 : Ev (fun k => laws_FnExactBitsJoin.j0 k o o false n ws m vs c us n ws m vs c us) true := by
    refine Ev.step (fun k => by rw [laws_FnExactBitsJoin.j0]) (ev_neg (by decide) ?_)
    refine ev_bind ht (ev_bind (laws_eqBits_ev n ws n ws (by omega)) (ev_pos (by simp) ?_))
    refine ev_bind ht' (ev_bind (laws_eqBits_ev m vs m vs (by omega)) (ev_pos (by simp) ?_))
    refine ev_bind (laws_markBits_ev n ws 1 (by omega)) (ev_bind (laws_markBits_ev m vs (1 + ws.length) (by omega)) (ev_neg (by omega) (ev_bind hq (ev_pos rfl ?_))))
    rw [ho]
    exact h1
  refine ev_bind ht (ev_bind ht' (ev_bind hs (ev_bind ht (ev_bind ht' (ev_bind hi (ev_bind hq (ev_pos rfl ?_)))))))
  show Ev (fun k => laws_FnExactBitsJoin.j0 k o o (o != o) n ws m vs c us n ws m vs c us) true
  rw [ho]
  exact h0

end Go.Proofs.Ytcbhepghmmbdmaa.Pure
