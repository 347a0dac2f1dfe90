/- The pure statement of the law FnExactPackOf: the program's answers equal the reference's, for all arguments within the row's bounds. -/
import Derived.Test.YteckcjjkblkfkaaQFnExactPackOfx7
import Derived.Test.YteckcjjkblkfkaaLib
namespace Go.Proofs.Yteckcjjkblkfkaa.Pure
open Go.RowKit Go.Proofs.Yteckcjjkblkfkaa.QFnExactPackOf Go.Proofs.Yteckcjjkblkfkaa.Lib Go.Proofs.YteckcjjkblkfkaaW.PrintWords Go.Proofs.YteckcjjkblkfkaaW.PrintLast Go.Proofs.YteckcjjkblkfkaaW.PrintMore
set_option linter.unusedVariables false
set_option linter.unusedSimpArgs false

theorem laws_eqUint64S_l0 (xs ys : List Int) (hl : xs.length = ys.length) (hm : xs.length ≤ 140737488355328) : ∀ (d n : Nat), n + d = xs.length → Ev (fun k => laws_eqUint64S.l0 k xs ys (n : Int)) (decide (xs.drop n = ys.drop n)) := by
  intro d
  induction d with
  | zero =>
    intro n hn
    refine Ev.step (fun k => by rw [laws_eqUint64S.l0]) ?_
    refine ev_neg (by omega) (ev_now' ?_)
    rw [List.drop_eq_nil_of_le (by omega), List.drop_eq_nil_of_le (by omega)]; rfl
  | succ d ih =>
    intro n hn
    refine Ev.step (fun k => by rw [laws_eqUint64S.l0]) ?_
    refine ev_pos (by omega) (ev_pos (by omega) (ev_pos (by omega) ?_))
    rw [rd_lt (by omega), rd_lt (by omega), w64 (by omega) (by omega)]
    rw [List.drop_eq_getElem_cons (show n < xs.length by omega), List.drop_eq_getElem_cons (show n < ys.length by omega)]
    refine ev_ite (fun h => ev_eq (ih (n + 1) (by omega)) ?_) (fun h => ev_now' ?_)
    · simp only [List.cons.injEq, h, true_and]
    · exact (decide_eq_false (fun e => h (List.cons.inj e).1)).symm
theorem laws_eqUint64S_ev (xs ys : List Int) (hm : xs.length ≤ 140737488355328) : Ev (fun k => laws_eqUint64S.f k xs ys) (decide (xs = ys)) := by
  unfold laws_eqUint64S.f
  refine ev_ite (fun h => ?_) (fun h => ev_now' ?_)
  · exact laws_eqUint64S_l0 xs ys (by omega) hm xs.length 0 (by omega)
  · exact (decide_eq_false (fun e => h (by rw [e]))).symm
theorem laws_eqBits_ev (a : Int) (l : List Int) (b : Int) (m : List Int) (hm : l.length ≤ 140737488355328) : Ev (fun k => laws_eqBits.f k a l b m) (decide (a = b ∧ l = m)) := by
  unfold laws_eqBits.f
  refine ev_ite (fun h => ev_bind (laws_eqUint64S_ev l m hm) (ev_ite (fun h' => ev_now' ?_) (fun h' => ev_now' ?_))) (fun h => ev_now' ?_)
  · simp at h'; simp [h, h']
  · simp at h'; simp [h']
  · simp [h]
theorem laws_eqPacked_ev (a b c : Int) (l : List Int) (hm : l.length ≤ 140737488355328) : Ev (fun k => laws_eqPacked.f k a b c l a b c l) true := by
  unfold laws_eqPacked.f
  exact ev_pos rfl (ev_pos rfl (ev_bind (laws_eqBits_ev c l c l hm) (ev_pos (by simp) (ev_now _))))
theorem spec_l02Pow_l0 : ∀ (n m : Nat), n + m ≤ 62 → Ev (fun k => spec_l02Pow.l0 k (n : Int) ((2 ^ m : Nat) : Int)) ((2 ^ (n + m) : Nat) : Int) := by
  intro n
  induction n with
  | zero =>
    intro m hm
    refine Ev.step (fun k => by rw [spec_l02Pow.l0]) ?_
    exact ev_neg (by omega) (ev_now' (by rw [Nat.zero_add]))
  | succ n ih =>
    intro m hm
    refine Ev.step (fun k => by rw [spec_l02Pow.l0]) ?_
    have hp : 2 ^ m ≤ 2 ^ 61 := Nat.pow_le_pow_right (by decide) (by omega)
    have hpp : 2 ^ (m + 1) = 2 ^ m * 2 := Nat.pow_succ ..
    refine ev_pos (by omega) ?_
    rw [w64 (by omega) (by omega), w64 (by omega) (by omega), show ((n + 1 : Nat) : Int) - 1 = (n : Int) by omega, show (2 : Int) * ((2 ^ m : Nat) : Int) = ((2 ^ (m + 1) : Nat) : Int) by omega]
    refine ev_eq (ih (m + 1) (by omega)) ?_
    rw [show n + (m + 1) = n + 1 + m by omega]
theorem spec_l02Pow_ev (n : Nat) (h : n ≤ 62) : Ev (fun k => spec_l02Pow.f k (n : Int)) ((2 ^ n : Nat) : Int) := by
  unfold spec_l02Pow.f
  exact spec_l02Pow_l0 n 0 (by omega)
theorem spec_l02Pow_neg (a : Int) (h : a ≤ 0) : Ev (fun k => spec_l02Pow.f k a) 1 := by
  unfold spec_l02Pow.f
  refine Ev.step (fun k => by rw [spec_l02Pow.l0]) ?_
  exact ev_neg (by omega) (ev_now _)
theorem spec_l01Power_l0 : ∀ (n m : Nat), n + m ≤ 63 → Ev (fun k => spec_l01Power.l0 k (n : Int) ((2 ^ m : Nat) : Int)) ((2 ^ (n + m) : Nat) : Int) := by
  intro n
  induction n with
  | zero =>
    intro m hm
    refine Ev.step (fun k => by rw [spec_l01Power.l0]) ?_
    exact ev_neg (by omega) (ev_now' (by rw [Nat.zero_add]))
  | succ n ih =>
    intro m hm
    refine Ev.step (fun k => by rw [spec_l01Power.l0]) ?_
    have hp : 2 ^ m ≤ 2 ^ 62 := Nat.pow_le_pow_right (by decide) (by omega)
    have hpp : 2 ^ (m + 1) = 2 ^ m * 2 := Nat.pow_succ ..
    refine ev_pos (by omega) ?_
    rw [w64 (by omega) (by omega), show ((n + 1 : Nat) : Int) - 1 = (n : Int) by omega, show (2 : Int) * ((2 ^ m : Nat) : Int) = ((2 ^ (m + 1) : Nat) : Int) by omega, wraps_u64 _ (by omega) (by omega)]
    refine ev_eq (ih (m + 1) (by omega)) ?_
    rw [show n + (m + 1) = n + 1 + m by omega]
theorem spec_l01Power_ev (n : Nat) (h : n ≤ 63) : Ev (fun k => spec_l01Power.f k (n : Int)) ((2 ^ n : Nat) : Int) := by
  unfold spec_l01Power.f
  exact spec_l01Power_l0 n 0 (by omega)
theorem spec_BitsOf_one (xs : List Int) (hm : xs.length ≤ 5000) (N : Int) (r : Int × List Int × Bool) (n : Nat) (hlt : n < xs.length) (hp : isBits (xs.take n)) (hb : xs[n] = 0 ∨ xs[n] = 1)
    (h : Ev (fun k => spec_BitsOf.l0 k xs (((n + 1 : Nat)) : Int) N (wordsOf (xs.take (n + 1)))) r) : Ev (fun k => spec_BitsOf.j1 k xs (n : Int) false N (wordsOf (xs.take n))) r := by
  have lp : (xs.take n).length = n := by rw [List.length_take]; omega
  have e1 : Int.tmod (n : Int) 64 = ((n % 64 : Nat) : Int) := tmod_nat n 64
  have e2 : Int.tdiv (n : Int) 64 = ((n / 64 : Nat) : Int) := tdiv_nat n 64
  have ys : ∀ ys : List Int, ys = tab (n / 64 + 1) (fun w => ((wordAt (xs.take n) w : Nat) : Int)) → Ev (fun k => if 0 ≤ (n : Int) then (if (n : Int) < (xs.length : Int) then (if (rd xs (n : Int)) = 1 then (if 0 ≤ (wrap64 (Int.tdiv (n : Int) 64)) then (if (wrap64 (Int.tdiv (n : Int) 64)) < (ys.length : Int) then ((spec_l01Power.f k (Int.tmod (n : Int) 64)).bind fun t => (spec_BitsOf.l0 k xs (wrap64 ((n : Int) + 1)) N (ys.set ((wrap64 (Int.tdiv (n : Int) 64)) : Int).toNat (IntKind.u64.wrap ((rd ys (wrap64 (Int.tdiv (n : Int) 64))) + t))))) else (none)) else (none)) else (spec_BitsOf.l0 k xs (wrap64 ((n : Int) + 1)) N ys)) else (none)) else (none)) r := by
    intro ys hys
    refine ev_pos (by omega) (ev_pos (by omega) ?_)
    rw [rd_lt hlt, e1, e2, w64 (n := (n : Int) + 1) (by omega) (by omega), w64 (n := ((n / 64 : Nat) : Int)) (by omega) (by omega)]
    have hw : wordsOf (xs.take (n + 1)) = tab (n / 64 + 1) (fun w => (((if w = n / 64 then wordAt (xs.take n) w + xs[n].toNat * 2 ^ (n % 64) else wordAt (xs.take n) w) : Nat) : Int)) := by
      unfold wordsOf
      rw [show ((xs.take (n + 1)).length + 63) / 64 = n / 64 + 1 by rw [List.length_take]; omega, take_snoc' hlt]
      apply tab_congr
      intro i hi
      rw [wordAt_snoc, lp]
    have hlt2 := wordAt_lt' hp (n / 64) (by rw [lp])
    rw [lp] at hlt2
    have hpow : 2 ^ (n % 64) ≤ 2 ^ 63 := Nat.pow_le_pow_right (by decide) (by omega)
    rw [hw] at h
    refine ev_ite (fun h1 => ?_) (fun h1 => ?_)
    · refine ev_pos (by omega) (ev_pos (by rw [hys, tab_length]; omega) (ev_bind (spec_l01Power_ev (n % 64) (by omega)) ?_))
      rw [hys, rd_tab (by omega), Int.toNat_natCast, tab_set]
      refine Ev.congr (fun k => ?_) h
      congr 1
      apply tab_congr
      intro i hi
      by_cases e : i = n / 64
      · subst e
        rw [if_pos rfl, if_pos rfl, h1]
        generalize 2 ^ (n % 64) = q at *
        rw [wraps_u64 _ (by omega) (by omega)]
        simp
      · rw [if_neg e, if_neg e]
    · have h0 : xs[n] = 0 := by omega
      rw [hys]
      refine Ev.congr (fun k => ?_) h
      congr 1
      apply tab_congr
      intro i hi
      rw [h0]; simp
  refine Ev.step (fun k => by rw [spec_BitsOf.j1]) (ev_neg (by decide) ?_)
  have hws : (n % 64 = 0 → wordsOf (xs.take n) ++ [0] = tab (n / 64 + 1) (fun w => ((wordAt (xs.take n) w : Nat) : Int))) ∧ (n % 64 ≠ 0 → wordsOf (xs.take n) = tab (n / 64 + 1) (fun w => ((wordAt (xs.take n) w : Nat) : Int))) := by
    unfold wordsOf
    rw [lp]
    constructor
    · intro h0
      rw [show (n + 63) / 64 = n / 64 by omega, tab_succ, wordAt_nil (by rw [lp]; omega)]; rfl
    · intro h0
      rw [show (n + 63) / 64 = n / 64 + 1 by omega]
  have hl : (wordsOf (xs.take n)).length < 17592186044416 := by unfold wordsOf; rw [tab_length, lp]; omega
  by_cases h0 : n % 64 = 0
  · refine ev_pos (by rw [e1]; omega) (ev_pos hl ?_)
    exact ev_some rfl (ys _ (hws.1 h0))
  · refine ev_neg (by rw [e1]; omega) (ys _ (hws.2 h0))
theorem spec_BitsOf_l0 (xs : List Int) (hm : xs.length ≤ 5000) (N : Int) : ∀ (d n : Nat), n + d = xs.length → isBits (xs.take n) → Ev (fun k => spec_BitsOf.l0 k xs (n : Int) N (wordsOf (xs.take n))) (if (xs.drop n).all (fun a => decide (a = 0 ∨ a = 1)) = true then (N, wordsOf xs, true) else (0, [], false)) := by
  intro d
  induction d with
  | zero =>
    intro n hn hp
    refine Ev.step (fun k => by rw [spec_BitsOf.l0]) ?_
    refine ev_neg (by omega) (ev_now' ?_)
    rw [List.drop_eq_nil_of_le (by omega), List.take_of_length_le (by omega)]; rfl
  | succ d ih =>
    intro n hn hp
    have hlt : n < xs.length := by omega
    refine Ev.step (fun k => by rw [spec_BitsOf.l0]) ?_
    refine ev_pos (by omega) (ev_pos (by omega) ?_)
    rw [rd_lt hlt, List.drop_eq_getElem_cons hlt, List.all_cons]
    have good : (xs[n] = 0 ∨ xs[n] = 1) → Ev (fun k => spec_BitsOf.j1 k xs (n : Int) false N (wordsOf (xs.take n))) (if (xs.drop (n + 1)).all (fun a => decide (a = 0 ∨ a = 1)) = true then (N, wordsOf xs, true) else (0, [], false)) := by
      intro hb
      refine spec_BitsOf_one xs hm N _ n hlt hp hb (ih (n + 1) (by omega) ?_)
      rw [take_snoc' hlt]
      intro b hb'
      rcases List.mem_append.1 hb' with h | h
      · exact hp b h
      · rw [List.mem_singleton.1 h]; exact hb
    by_cases h0 : xs[n] = 0
    · rw [decide_eq_true (Or.inl h0), Bool.true_and]
      exact ev_pos h0 (good (Or.inl h0))
    · refine ev_neg h0 ?_
      by_cases h1 : xs[n] = 1
      · rw [decide_eq_true (Or.inr h1), Bool.true_and, bne_eq_false_iff_eq.2 h1]
        exact good (Or.inr h1)
      · rw [decide_eq_false (by omega), bne_iff_ne.2 h1]
        refine Ev.step (fun k => by rw [spec_BitsOf.j1]) ?_
        exact ev_pos rfl (ev_now _)
def bitsOfR (xs : List Int) : Int × List Int × Bool := if (decide (xs.length ≤ 5000) && xs.all fun a => decide (a = 0 ∨ a = 1)) = true then ((xs.length : Int), wordsOf xs, true) else (0, [], false)
theorem spec_BitsOf_ev (xs : List Int) : Ev (fun k => spec_BitsOf.f k xs) (bitsOfR xs) := by
  unfold spec_BitsOf.f bitsOfR
  refine ev_ite (fun h => ev_now' ?_) (fun h => ?_)
  · rw [decide_eq_false (by omega)]; rfl
  · rw [decide_eq_true (show xs.length ≤ 5000 by omega), Bool.true_and]
    have h := spec_BitsOf_l0 xs (by omega) (xs.length : Int) xs.length 0 (by omega) (fun b hb => by simp at hb)
    rw [List.drop_zero, show wordsOf (xs.take 0) = [] by rw [List.take_zero]; rfl] at h
    exact h
def digs (w : Nat) (x : Int) : List Int := tab w fun j => ((x.toNat / 2 ^ j % 2 : Nat) : Int)
def digAll (w : Nat) : List Int → List Int
  | [] => []
  | x :: l => digs w x ++ digAll w l
theorem digs_length (w : Nat) (x : Int) : (digs w x).length = w := tab_length _ _
theorem digAll_length (w : Nat) (l : List Int) : (digAll w l).length = l.length * w := by
  induction l with
  | nil => simp [digAll]
  | cons x l ih => rw [digAll, List.length_append, digs_length, ih, List.length_cons, Nat.succ_mul]; omega
theorem digs_bits (w : Nat) (x : Int) : isBits (digs w x) := by
  intro b hb
  unfold digs tab at hb
  obtain ⟨i, _, rfl⟩ := List.mem_map.1 hb
  omega
theorem digAll_bits (w : Nat) (l : List Int) : isBits (digAll w l) := by
  induction l with
  | nil => intro b hb; simp [digAll] at hb
  | cons x l ih =>
    intro b hb
    rw [digAll] at hb
    rcases List.mem_append.1 hb with h | h
    · exact digs_bits w x b h
    · exact ih b h
theorem w64_nat (n : Nat) (h : n ≤ 9223372036854775807) : wrap64 (n : Int) = n := w64 (by omega) (by omega)
def packIn (w : Nat) (x : Int) : Bool := decide (0 ≤ x ∧ x < ((2 ^ w : Nat) : Int))
theorem pow32 {w : Nat} (h : w ≤ 32) : 2 ^ w ≤ 4294967296 := Nat.le_trans (Nat.pow_le_pow_right (by decide) h) (by decide)
def packGood (w : Nat) (xs all : List Int) : Int × Int × Int × List Int × Bool := ((w : Int), (xs.length : Int), (all.length : Int), wordsOf all, true)
theorem spec_PackOf_l1 (xs : List Int) (w : Nat) (hw : w ≤ 32) (acc : List Int) (n : Nat) (v : Int) (hv : 0 ≤ v ∧ v < 4294967296) (hn : n < 5000) (hacc : acc.length ≤ 5000) (r : Int × Int × Int × List Int × Bool)
    (h : Ev (fun k => spec_PackOf.l0 k xs (w : Int) (acc ++ digs w v) ((n + 1 : Nat) : Int)) r) : ∀ (d j : Nat), j + d = w → Ev (fun k => spec_PackOf.l1 k xs (w : Int) (acc ++ tab j fun j => ((v.toNat / 2 ^ j % 2 : Nat) : Int)) (n : Int) ((v.toNat / 2 ^ j : Nat) : Int) (j : Int)) r := by
  intro d
  induction d with
  | zero =>
    intro j hj
    have e : j = w := by omega
    subst e
    refine Ev.step (fun k => by rw [spec_PackOf.l1]) (ev_neg (by omega) ?_)
    rw [w64 (by omega) (by omega)]
    exact h
  | succ d ih =>
    intro j hj
    refine Ev.step (fun k => by rw [spec_PackOf.l1]) (ev_pos (by omega) (ev_pos (by rw [List.length_append, tab_length]; omega) ?_))
    have hle : v.toNat / 2 ^ j ≤ v.toNat := Nat.div_le_self _ _
    rw [show Int.tmod ((v.toNat / 2 ^ j : Nat) : Int) 2 = ((v.toNat / 2 ^ j % 2 : Nat) : Int) from tmod_nat _ 2, show Int.tdiv ((v.toNat / 2 ^ j : Nat) : Int) 2 = ((v.toNat / 2 ^ j / 2 : Nat) : Int) from tdiv_nat _ 2, w64_nat (v.toNat / 2 ^ j / 2) (Nat.le_trans (Nat.div_le_self _ _) (by omega)), w64 (n := (j : Int) + 1) (by omega) (by omega), Nat.div_div_eq_div_mul, ← Nat.pow_succ, List.append_assoc, ← tab_succ (f := fun j => ((v.toNat / 2 ^ j % 2 : Nat) : Int))]
    exact ih (j + 1) (by omega)
theorem spec_PackOf_l0 (xs : List Int) (w : Nat) (hw : w ≤ 32) (hm : xs.length ≤ 5000) (hmw : xs.length * w ≤ 5000) : ∀ (d n : Nat) (acc : List Int), n + d = xs.length → acc.length = n * w → isBits acc → Ev (fun k => spec_PackOf.l0 k xs (w : Int) acc (n : Int)) (if (xs.drop n).all (packIn w) = true then packGood w xs (acc ++ digAll w (xs.drop n)) else (0, 0, 0, [], false)) := by
  intro d
  induction d with
  | zero =>
    intro n acc hn ha hb
    have hnx : n = xs.length := by omega
    have hal : acc.length ≤ 5000 := by rw [ha, hnx]; exact hmw
    refine Ev.step (fun k => by rw [spec_PackOf.l0]) (ev_neg (by omega) ?_)
    rw [List.drop_eq_nil_of_le (by omega), digAll, List.append_nil]
    refine ev_bind (spec_BitsOf_ev acc) (ev_now' ?_)
    have e : bitsOfR acc = ((acc.length : Int), wordsOf acc, true) := by
      unfold bitsOfR
      rw [if_pos]
      rw [decide_eq_true hal, Bool.true_and, List.all_eq_true]
      intro b hb'
      exact decide_eq_true (hb b hb')
    rw [e]; rfl
  | succ d ih =>
    intro n acc hn ha hb
    have hlt : n < xs.length := by omega
    have hnw : n * w ≤ xs.length * w := Nat.mul_le_mul_right w (by omega)
    have bad : ∀ v : Int, Ev (fun k => spec_PackOf.j2 k xs (w : Int) acc (n : Int) v true) (0, 0, 0, [], false) := by
      intro v
      refine Ev.step (fun k => by rw [spec_PackOf.j2]) ?_
      exact ev_pos rfl (ev_now _)
    refine Ev.step (fun k => by rw [spec_PackOf.l0]) (ev_pos (by omega) (ev_pos (by omega) ?_))
    rw [rd_lt hlt, List.drop_eq_getElem_cons hlt, List.all_cons]
    refine ev_ite (fun h0 => ?_) (fun h0 => ev_bind (spec_l02Pow_ev w (by omega)) ?_)
    · rw [show packIn w xs[n] = false from decide_eq_false (by omega)]; exact bad _
    · by_cases h1 : xs[n] ≥ ((2 ^ w : Nat) : Int)
      · rw [decide_eq_true h1, show packIn w xs[n] = false from decide_eq_false (by omega)]; exact bad _
      · rw [decide_eq_false h1, show packIn w xs[n] = true from decide_eq_true (by omega), Bool.true_and, digAll, ← List.append_assoc]
        refine Ev.step (fun k => by rw [spec_PackOf.j2]) (ev_neg (by decide) ?_)
        have hp := pow32 hw
        have h := ih (n + 1) (acc ++ digs w xs[n]) (by omega) (by rw [List.length_append, digs_length, ha, Nat.succ_mul]) (by
          intro b hb'
          rcases List.mem_append.1 hb' with h | h
          · exact hb b h
          · exact digs_bits w _ b h)
        have := spec_PackOf_l1 xs w hw acc n xs[n] (by omega) (by omega) (by omega) _ h w 0 (by omega)
        rw [Nat.pow_zero, Nat.div_one, show ((xs[n].toNat : Nat) : Int) = xs[n] by omega, show (tab 0 fun j => ((xs[n].toNat / 2 ^ j % 2 : Nat) : Int)) = [] from rfl, List.append_nil] at this
        exact this
def packOfR (xs : List Int) (a : Int) : Int × Int × Int × List Int × Bool := if 0 ≤ a ∧ a ≤ 32 ∧ xs.length ≤ 5000 ∧ xs.length * a.toNat ≤ 5000 ∧ xs.all (packIn a.toNat) = true then packGood a.toNat xs (digAll a.toNat xs) else (0, 0, 0, [], false)
theorem packOfR_length (xs : List Int) (a : Int) : (packOfR xs a).2.2.2.1.length ≤ 100 := by
  unfold packOfR
  split
  · rename_i h
    show (wordsOf (digAll a.toNat xs)).length ≤ 100
    rw [wordsOf_length, digAll_length]; omega
  · simp
theorem spec_PackOf_ev (xs : List Int) (a : Int) (hm : xs.length ≤ 1048576) : Ev (fun k => spec_PackOf.f k xs a) (packOfR xs a) := by
  unfold spec_PackOf.f packOfR
  have bad : Ev (fun k => spec_PackOf.j0 k xs a true) (0, 0, 0, [], false) := by
    refine Ev.step (fun k => by rw [spec_PackOf.j0]) ?_
    exact ev_pos rfl (ev_now _)
  refine ev_ite (fun h => ?_) (fun h => ev_ite (fun h1 => ?_) (fun h1 => ev_ite (fun h2 => ?_) (fun h2 => ?_)))
  · rw [if_neg (by omega)]; exact bad
  · rw [if_neg (by omega)]; exact bad
  · rw [if_neg (by omega)]; exact bad
  · obtain ⟨w, rfl⟩ : ∃ w : Nat, a = (w : Int) := ⟨a.toNat, by omega⟩
    have hmul : xs.length * w ≤ 5000 * 32 := Nat.mul_le_mul (by omega) (by omega)
    rw [Int.toNat_natCast, ← Int.natCast_mul, w64 (by omega) (by omega)]
    by_cases h3 : xs.length * w ≤ 5000
    · rw [decide_eq_false (by omega)]
      refine Ev.step (fun k => by rw [spec_PackOf.j0]) (ev_neg (by decide) ?_)
      have h := spec_PackOf_l0 xs w (by omega) (by omega) h3 xs.length 0 [] (by omega) (by simp) (fun b hb => by simp at hb)
      rw [List.drop_zero, List.nil_append] at h
      refine ev_eq h ?_
      by_cases h4 : xs.all (packIn w) = true
      · rw [if_pos h4, if_pos ⟨by omega, by omega, by omega, h3, h4⟩]
      · rw [if_neg h4, if_neg (fun g => h4 g.2.2.2.2)]
    · rw [decide_eq_true (by omega), if_neg (by omega)]; exact bad
theorem laws_toIntS_l0 (xs : List Int) (hm : xs.length ≤ 35184372088832) : ∀ (d n : Nat) (out : List Int), n + d = xs.length → out.length = xs.length → (∀ j, j < n → out[j]? = xs[j]?) → Ev (fun k => laws_toIntS.l0 k xs out (n : Int)) xs := by
  intro d
  induction d with
  | zero =>
    intro n out hn hl ho
    refine Ev.step (fun k => by rw [laws_toIntS.l0]) ?_
    refine ev_neg (by omega) (ev_now' ?_)
    apply List.ext_getElem? ; intro j
    by_cases hj : j < n
    · exact ho j hj
    · rw [List.getElem?_eq_none (by omega), List.getElem?_eq_none (by omega)]
  | succ d ih =>
    intro n out hn hl ho
    refine Ev.step (fun k => by rw [laws_toIntS.l0]) ?_
    refine ev_pos (by omega) (ev_pos (by omega) (ev_pos (by omega) ?_))
    rw [w64 (by omega) (by omega)]
    refine ih (n + 1) _ (by omega) (by simp [hl]) ?_
    intro j hj
    rw [Int.toNat_natCast, List.getElem?_set, rd_lt (by omega)]
    by_cases e : n = j
    · subst e; rw [if_pos rfl, if_pos (by omega), List.getElem?_eq_getElem (by omega)]
    · rw [if_neg e]; exact ho j (by omega)
theorem laws_toIntS_ev (xs : List Int) (hm : xs.length ≤ 35184372088832) : Ev (fun k => laws_toIntS.f k xs) xs := by
  unfold laws_toIntS.f
  refine ev_pos (by omega) (ev_pos (by omega) ?_)
  exact laws_toIntS_l0 xs hm xs.length 0 _ (by omega) (by simp) (by simp)
theorem impl_within_f (a b c : Int) : impl_within.f a b c = some (decide (b ≤ a ∧ a ≤ c)) := by
  unfold impl_within.f
  by_cases h : b ≤ a <;> simp [h]
theorem impl_digits_l0 (w : Nat) (hw : w ≤ 32) (v : Int) (hv : 0 ≤ v ∧ v < 4294967296) : ∀ (d j : Nat), j + d = w → Ev (fun k => impl_digits.l0 k ((v.toNat / 2 ^ j : Nat) : Int) (tab j fun j => ((v.toNat / 2 ^ j % 2 : Nat) : Int)) (w : Int) (j : Int)) (digs w v) := by
  intro d
  induction d with
  | zero =>
    intro j hj
    have e : j = w := by omega
    subst e
    refine Ev.step (fun k => by rw [impl_digits.l0]) ?_
    exact ev_neg (by omega) (ev_now _)
  | succ d ih =>
    intro j hj
    refine Ev.step (fun k => by rw [impl_digits.l0]) (ev_pos (by omega) (ev_pos (by rw [tab_length]; omega) ?_))
    have hle : v.toNat / 2 ^ j ≤ v.toNat := Nat.div_le_self _ _
    have e1 : Go.bits .and .i64 ((v.toNat / 2 ^ j : Nat) : Int) 1 = ((v.toNat / 2 ^ j % 2 : Nat) : Int) := by
      have h := bits_mask .i64 63 (by decide) wraps_i64 1 (by decide) ((v.toNat / 2 ^ j : Nat) : Int) (Int.natCast_nonneg _) (by
        have hq : v.toNat / 2 ^ j < 2 ^ 63 := Nat.lt_of_le_of_lt hle (by omega)
        exact_mod_cast hq)
      simpa using h
    rw [e1, show ((v.toNat / 2 ^ j : Nat) : Int) / 2 = ((v.toNat / 2 ^ j / 2 : Nat) : Int) from rfl, w64 (n := (j : Int) + 1) (by omega) (by omega), Nat.div_div_eq_div_mul, ← Nat.pow_succ, ← tab_succ (f := fun j => ((v.toNat / 2 ^ j % 2 : Nat) : Int))]
    exact ih (j + 1) (by omega)
theorem impl_digits_ev (w : Nat) (hw : w ≤ 32) (v : Int) (hv : 0 ≤ v ∧ v < 4294967296) : Ev (fun k => impl_digits.f k v (w : Int)) (digs w v) := by
  unfold impl_digits.f
  have h := impl_digits_l0 w hw v hv w 0 (by omega)
  rw [Nat.pow_zero, Nat.div_one, show ((v.toNat : Nat) : Int) = v by omega] at h
  exact h
theorem impl_bitsOf_l0 (xs : List Int) (hm : xs.length ≤ 1000000) (hx : isBits xs) (N : Int) : ∀ (d n : Nat), n + d = xs.length → Ev (fun k => impl_bitsOf.l0 k xs (xs.length : Int) (n : Int) N (tab ((xs.length + 63) / 64) fun w => ((wordAt (xs.take n) w : Nat) : Int))) (N, wordsOf xs) := by
  intro d
  induction d with
  | zero =>
    intro n hn
    refine Ev.step (fun k => by rw [impl_bitsOf.l0]) ?_
    refine ev_neg (by omega) (ev_now' ?_)
    rw [List.take_of_length_le (by omega)]; rfl
  | succ d ih =>
    intro n hn
    have hlt : n < xs.length := by omega
    have lp : (xs.take n).length = n := by rw [List.length_take]; omega
    have e1 : Int.tmod (n : Int) 64 = ((n % 64 : Nat) : Int) := tmod_nat n 64
    have e2 : Int.tdiv (n : Int) 64 = ((n / 64 : Nat) : Int) := tdiv_nat n 64
    have hb := hx _ (List.getElem_mem hlt)
    refine Ev.step (fun k => by rw [impl_bitsOf.l0]) ?_
    rw [rd_lt hlt, e1, e2, w64 (n := (n : Int) + 1) (by omega) (by omega), w64 (n := ((n / 64 : Nat) : Int)) (by omega) (by omega), rd_tab (show n / 64 < (xs.length + 63) / 64 by omega)]
    refine ev_pos (by omega) (ev_pos (by omega) (ev_pos (by omega) (ev_pos (by omega) (ev_pos (by rw [tab_length]; omega) (ev_pos (by omega) ?_)))))
    rw [Int.toNat_natCast, tab_set]
    refine Ev.congr (fun k => ?_) (ih (n + 1) (by omega))
    congr 1
    apply tab_congr
    intro i hi
    rw [take_snoc' hlt, wordAt_snoc, lp]
    by_cases e : i = n / 64
    · subst e
      rw [if_pos rfl, if_pos rfl]
      have hlt2 := wordAt_lt' (isBits_take hx n) (n / 64) (by rw [lp])
      rw [lp] at hlt2
      have hpow : 2 ^ (n % 64) ≤ 2 ^ 63 := Nat.pow_le_pow_right (by decide) (by omega)
      have es : shl .u64 (IntKind.u64.wrap xs[n]) ((n % 64 : Nat) : Int) = ((2 ^ (n % 64) * xs[n].toNat : Nat) : Int) := by
        have hq : xs[n].toNat * 2 ^ (n % 64) < 2 ^ 64 := by
          generalize 2 ^ (n % 64) = q at *
          rcases hb with hb | hb <;> rw [hb] <;> simp <;> omega
        rw [wraps_u64 _ (by omega) (by omega), show xs[n] = ((xs[n].toNat : Nat) : Int) by omega, shl_u64 _ _ (by omega) hq, Int.toNat_natCast, Nat.mul_comm]
      have hlt3 : 2 ^ (n % 64) * xs[n].toNat < 2 ^ 64 := by
        generalize 2 ^ (n % 64) = q at *
        rcases hb with hb | hb <;> rw [hb] <;> simp <;> omega
      rw [es, u64_or_nat _ _ (by omega) (by omega), Nat.or_comm, ← Nat.two_pow_add_eq_or_of_lt hlt2, Nat.add_comm, Nat.mul_comm]
    · rw [if_neg e, if_neg e]
theorem impl_bitsOf_ev (xs : List Int) (hm : xs.length ≤ 1000000) (hx : isBits xs) : Ev (fun k => impl_bitsOf.f k xs) ((xs.length : Int), wordsOf xs) := by
  unfold impl_bitsOf.f
  have e : wrap64 (Int.tdiv (wrap64 (wrap64 ((xs.length : Int) + 64) - 1)) 64) = (((xs.length + 63) / 64 : Nat) : Int) := by
    rw [w64 (n := (xs.length : Int) + 64) (by omega) (by omega), w64 (n := (xs.length : Int) + 64 - 1) (by omega) (by omega), show (xs.length : Int) + 64 - 1 = ((xs.length + 63 : Nat) : Int) by omega]
    rw [show Int.tdiv ((xs.length + 63 : Nat) : Int) 64 = (((xs.length + 63) / 64 : Nat) : Int) from tdiv_nat (xs.length + 63) 64, w64 (by omega) (by omega)]
  rw [e]
  refine ev_pos (by omega) (ev_pos (by omega) ?_)
  rw [Int.toNat_natCast, tab_zero _ (fun w => ((wordAt (xs.take 0) w : Nat) : Int)) (fun i hi => by simp [wordAt, nb])]
  exact impl_bitsOf_l0 xs hm hx _ xs.length 0 (by omega)
theorem allO_all (p : Int → Option Bool) (q : Int → Bool) (h : ∀ x, p x = some (q x)) (l : List Int) : allO p l = some (l.all q) := by
  induction l with
  | nil => rfl
  | cons x l ih =>
    rw [allO, h x, Option.bind_some]
    cases hq : q x
    · simp [hq]
    · rw [if_pos rfl, ih]; simp [hq]
theorem impl_areAll_PackOf_1_f (l : List Int) (w : Nat) (hw : w ≤ 32) : impl_areAll_PackOf_1.f l (w : Int) = some (l.all (packIn w)) := by
  unfold impl_areAll_PackOf_1.f
  refine allO_all _ _ ?_ l
  intro x
  unfold impl_areAll_PackOf_1.p packIn
  have hp := pow32 hw
  rw [if_pos (by omega), impl_within_f, shl_i64 _ _ (by omega), Int.one_mul]
  generalize 2 ^ w = q at *
  rw [w64 (n := (q : Int)) (by omega) (by omega), w64 (by omega) (by omega)]
  congr 1
  rw [decide_eq_decide]; omega
theorem impl_PackOf_l0 (xs : List Int) (w : Nat) (hw : w ≤ 32) (hm : xs.length ≤ 5000) (hmw : xs.length * w ≤ 5000) (hall : xs.all (packIn w) = true) : ∀ (d n : Nat) (acc : List Int), n + d = xs.length → acc.length = n * w → isBits acc → Ev (fun k => impl_PackOf.l0 k xs acc xs (xs.length : Int) (n : Int) (w : Int)) (packGood w xs (acc ++ digAll w (xs.drop n))) := by
  intro d
  induction d with
  | zero =>
    intro n acc hn ha hb
    have hnx : n = xs.length := by omega
    have hal : acc.length ≤ 5000 := by rw [ha, hnx]; exact hmw
    refine Ev.step (fun k => by rw [impl_PackOf.l0]) (ev_neg (by omega) ?_)
    rw [List.drop_eq_nil_of_le (by omega), digAll, List.append_nil]
    exact ev_bind (impl_bitsOf_ev acc (by omega) hb) (ev_now _)
  | succ d ih =>
    intro n acc hn ha hb
    have hlt : n < xs.length := by omega
    have hnw : n * w ≤ xs.length * w := Nat.mul_le_mul_right w (by omega)
    have hx := of_decide_eq_true (List.all_eq_true.1 hall _ (List.getElem_mem hlt))
    have hp := pow32 hw
    refine Ev.step (fun k => by rw [impl_PackOf.l0]) (ev_pos (by omega) (ev_pos (by omega) (ev_pos (by omega) ?_)))
    rw [rd_lt hlt, List.drop_eq_getElem_cons hlt, digAll, ← List.append_assoc, w64 (by omega) (by omega)]
    refine ev_bind (impl_digits_ev w hw xs[n] (by omega)) (ev_pos (by rw [digs_length]; omega) ?_)
    refine ih (n + 1) (acc ++ digs w xs[n]) (by omega) (by rw [List.length_append, digs_length, ha, Nat.succ_mul]) ?_
    intro b hb'
    rcases List.mem_append.1 hb' with h | h
    · exact hb b h
    · exact digs_bits w _ b h
theorem impl_PackOf_ev (xs : List Int) (a : Int) (hm : xs.length ≤ 1048576) : Ev (fun k => impl_PackOf.f k xs a) (packOfR xs a) := by
  unfold impl_PackOf.f packOfR
  have bad : Ev (fun k => impl_PackOf.j0 k xs true a) (0, 0, 0, [], false) := by
    refine Ev.step (fun k => by rw [impl_PackOf.j0]) ?_
    exact ev_pos rfl (ev_now _)
  refine ev_some (impl_within_f a 0 32) (ev_ite (fun h => ?_) (fun h => ?_))
  · have h := of_decide_eq_true h
    refine ev_ite (fun h2 => ?_) (fun h2 => ?_)
    · rw [if_neg (by omega)]; exact bad
    · obtain ⟨w, rfl⟩ : ∃ w : Nat, a = (w : Int) := ⟨a.toNat, by omega⟩
      have hmul : xs.length * w ≤ 5000 * 32 := Nat.mul_le_mul (by omega) (by omega)
      rw [Int.toNat_natCast, ← Int.natCast_mul, w64 (by omega) (by omega)]
      refine ev_ite (fun h3 => ?_) (fun h3 => ev_some (impl_areAll_PackOf_1_f xs w (by omega)) ?_)
      · rw [if_neg (by omega)]; exact bad
      · cases h4 : xs.all (packIn w)
        · rw [if_neg (fun g => absurd g.2.2.2.2 (by decide))]; exact bad
        · rw [if_pos ⟨by omega, by omega, by omega, by omega, rfl⟩]
          refine Ev.step (fun k => by rw [impl_PackOf.j0]) (ev_neg (by decide) ?_)
          have h := impl_PackOf_l0 xs w (by omega) (by omega) (by omega) h4 xs.length 0 [] (by omega) (by simp) (fun b hb => by simp at hb)
          rw [List.drop_zero, List.nil_append] at h
          exact h
  · have h' : ¬ (0 ≤ a ∧ a ≤ 32) := fun g => h (decide_eq_true g)
    rw [if_neg (by omega)]; exact bad
theorem laws_eqIntS_l0 (xs ys : List Int) (hl : xs.length = ys.length) (hm : xs.length ≤ 140737488355328) : ∀ (d n : Nat), n + d = xs.length → Ev (fun k => laws_eqIntS.l0 k xs ys (n : Int)) (decide (xs.drop n = ys.drop n)) := by
  intro d
  induction d with
  | zero =>
    intro n hn
    refine Ev.step (fun k => by rw [laws_eqIntS.l0]) ?_
    refine ev_neg (by omega) (ev_now' ?_)
    rw [List.drop_eq_nil_of_le (by omega), List.drop_eq_nil_of_le (by omega)]; rfl
  | succ d ih =>
    intro n hn
    refine Ev.step (fun k => by rw [laws_eqIntS.l0]) ?_
    refine ev_pos (by omega) (ev_pos (by omega) (ev_pos (by omega) ?_))
    rw [rd_lt (by omega), rd_lt (by omega), w64 (by omega) (by omega)]
    rw [List.drop_eq_getElem_cons (show n < xs.length by omega), List.drop_eq_getElem_cons (show n < ys.length by omega)]
    refine ev_ite (fun h => ev_eq (ih (n + 1) (by omega)) ?_) (fun h => ev_now' ?_)
    · simp only [List.cons.injEq, h, true_and]
    · exact (decide_eq_false (fun e => h (List.cons.inj e).1)).symm
theorem laws_eqIntS_ev (xs ys : List Int) (hm : xs.length ≤ 140737488355328) : Ev (fun k => laws_eqIntS.f k xs ys) (decide (xs = ys)) := by
  unfold laws_eqIntS.f
  refine ev_ite (fun h => ?_) (fun h => ev_now' ?_)
  · exact laws_eqIntS_l0 xs ys (by omega) hm xs.length 0 (by omega)
  · exact (decide_eq_false (fun e => h (by rw [e]))).symm
theorem laws_markIntS_l0 (xs : List Int) (a : Nat) (hm : a + xs.length ≤ 1099511627776) : ∀ (d n : Nat), n + d = xs.length → Ev (fun k => laws_markIntS.l0 k (marked (fun x => x) n a ++ xs.drop n) ((a + n : Nat) : Int) (n : Int)) (((a + xs.length : Nat) : Int), marked (fun x => x) xs.length a) := by
  intro d
  induction d with
  | zero =>
    intro n hn
    have e : n = xs.length := by omega
    subst e
    refine Ev.step (fun k => by rw [laws_markIntS.l0]) ?_
    refine ev_neg (by simp [marked_length]) (ev_now' ?_)
    rw [List.drop_length, List.append_nil]
  | succ d ih =>
    intro n hn
    refine Ev.step (fun k => by rw [laws_markIntS.l0]) ?_
    refine ev_pos (by simp [marked_length]; omega) (ev_pos (by omega) ?_)
    rw [w64 (by omega) (by omega), w64 (by omega) (by omega), Int.toNat_natCast]
    have e := set_mark (c := (fun x => x)) (a := a) (show n < xs.length by omega)
    rw [show (((a + n : Nat) : Int)) = (fun x => x) ((a + n : Nat) : Int) from rfl, e]
    exact ih (n + 1) (by omega)
theorem laws_markIntS_ev (xs : List Int) (a : Nat) (hm : a + xs.length ≤ 1099511627776) : Ev (fun k => laws_markIntS.f k xs (a : Int)) (((a + xs.length : Nat) : Int), marked (fun x => x) xs.length a) := by
  unfold laws_markIntS.f
  have h := laws_markIntS_l0 xs a hm xs.length 0 (by omega)
  simpa [marked] using h
theorem laws_markUint64S_l0 (xs : List Int) (a : Nat) (hm : a + xs.length ≤ 1099511627776) : ∀ (d n : Nat), n + d = xs.length → Ev (fun k => laws_markUint64S.l0 k (marked (fun x => IntKind.u64.wrap x) n a ++ xs.drop n) ((a + n : Nat) : Int) (n : Int)) (((a + xs.length : Nat) : Int), marked (fun x => IntKind.u64.wrap x) xs.length a) := by
  intro d
  induction d with
  | zero =>
    intro n hn
    have e : n = xs.length := by omega
    subst e
    refine Ev.step (fun k => by rw [laws_markUint64S.l0]) ?_
    refine ev_neg (by simp [marked_length]) (ev_now' ?_)
    rw [List.drop_length, List.append_nil]
  | succ d ih =>
    intro n hn
    refine Ev.step (fun k => by rw [laws_markUint64S.l0]) ?_
    refine ev_pos (by simp [marked_length]; omega) (ev_pos (by omega) ?_)
    rw [w64 (by omega) (by omega), w64 (by omega) (by omega), Int.toNat_natCast]
    have e := set_mark (c := (fun x => IntKind.u64.wrap x)) (a := a) (show n < xs.length by omega)
    rw [show (IntKind.u64.wrap ((a + n : Nat) : Int)) = (fun x => IntKind.u64.wrap x) ((a + n : Nat) : Int) from rfl, e]
    exact ih (n + 1) (by omega)
theorem laws_markUint64S_ev (xs : List Int) (a : Nat) (hm : a + xs.length ≤ 1099511627776) : Ev (fun k => laws_markUint64S.f k xs (a : Int)) (((a + xs.length : Nat) : Int), marked (fun x => IntKind.u64.wrap x) xs.length a) := by
  unfold laws_markUint64S.f
  have h := laws_markUint64S_l0 xs a hm xs.length 0 (by omega)
  simpa [marked] using h
theorem laws_markBits_ev (x : Int) (xs : List Int) (a : Nat) (hm : a + xs.length ≤ 1099511627776) : Ev (fun k => laws_markBits.f k x xs (a : Int)) (((a + xs.length : Nat) : Int), marked (fun x => IntKind.u64.wrap x) xs.length a) := by
  unfold laws_markBits.f
  exact ev_bind (laws_markUint64S_ev xs a hm) (ev_now _)
theorem laws_markPacked_ev (x y z : Int) (xs : List Int) (a : Nat) (hm : a + xs.length ≤ 1099511627776) : Ev (fun k => laws_markPacked.f k x y z xs (a : Int)) (((a + xs.length : Nat) : Int), marked (fun x => IntKind.u64.wrap x) xs.length a) := by
  unfold laws_markPacked.f
  exact ev_bind (laws_markBits_ev z xs a hm) (ev_now _)
theorem laws_heldUint64S_l0 (m a : Nat) (hm : a + m ≤ 1099511627776) : ∀ (d n : Nat), n + d = m → Ev (fun k => laws_heldUint64S.l0 k (marked (fun x => IntKind.u64.wrap x) m a) ((a + n : Nat) : Int) (n : Int)) ((a + m : Nat) : Int) := by
  intro d
  induction d with
  | zero =>
    intro n hn
    have e : n = m := by omega
    subst e
    refine Ev.step (fun k => by rw [laws_heldUint64S.l0]) ?_
    exact ev_neg (by simp [marked_length]) (ev_now _)
  | succ d ih =>
    intro n hn
    refine Ev.step (fun k => by rw [laws_heldUint64S.l0]) ?_
    refine ev_pos (by rw [marked_length]; omega) (ev_pos (by omega) ?_)
    rw [rd_lt (by rw [marked_length]; omega), marked_get _ _ _ _ (by omega), w64 (by omega) (by omega), w64 (by omega) (by omega)]
    exact ev_pos rfl (ih (n + 1) (by omega))
theorem laws_heldUint64S_ev (m a : Nat) (hm : a + m ≤ 1099511627776) : Ev (fun k => laws_heldUint64S.f k (marked (fun x => IntKind.u64.wrap x) m a) (a : Int)) ((a + m : Nat) : Int) := by
  unfold laws_heldUint64S.f
  exact laws_heldUint64S_l0 m a hm m 0 (by omega)
theorem laws_heldBits_ev (x : Int) (m a : Nat) (hm : a + m ≤ 1099511627776) : Ev (fun k => laws_heldBits.f k x (marked (fun x => IntKind.u64.wrap x) m a) (a : Int)) ((a + m : Nat) : Int) := by
  unfold laws_heldBits.f
  exact ev_bind (laws_heldUint64S_ev m a hm) (ev_neg (by omega) (ev_now _))
theorem laws_heldPacked_ev (x y z : Int) (m a : Nat) (hm : a + m ≤ 1099511627776) : Ev (fun k => laws_heldPacked.f k x y z (marked (fun x => IntKind.u64.wrap x) m a) (a : Int)) ((a + m : Nat) : Int) := by
  unfold laws_heldPacked.f
  exact ev_bind (laws_heldBits_ev z m a hm) (ev_neg (by omega) (ev_now _))

theorem FnExactPackOf : laws_FnExactPackOf.Pure := by
  intro l a hl _ hw ha
  refine Ev.rounds ?_
  unfold laws_FnExactPackOf.f
  refine ev_ite (fun _ => ev_now _) (fun h => ?_)
  have hm : l.length ≤ 35184372088832 := by omega
  have hml : (1 : Nat) + l.length ≤ 1099511627776 := by omega
  have hs := spec_PackOf_ev l a (by omega)
  have hi := impl_PackOf_ev l a (by omega)
  have hlen := packOfR_length l a
  obtain ⟨x, y, z, ws, b, e⟩ : ∃ x y z ws b, packOfR l a = (x, y, z, ws, b) := ⟨_, _, _, _, _, rfl⟩
  rw [e] at hs hi hlen
  have hlen : ws.length ≤ 100 := hlen
  have hmw : (1 : Nat) + ws.length ≤ 1099511627776 := by omega
  have hq := laws_eqPacked_ev x y z ws (by omega)
  have hb : (b != b) = false := by simp
  have h1 : Ev (fun k => laws_FnExactPackOf.j1 k l a b false x y z ws x y z ws) true := by
    refine Ev.step (fun k => by rw [laws_FnExactPackOf.j1]) (ev_neg (by decide) ?_)
    refine ev_bind (laws_markPacked_ev x y z ws 1 hmw) (ev_bind (laws_heldPacked_ev x y z ws.length 1 hmw) (ev_neg (by omega) (ev_pos rfl ?_)))
    refine ev_bind (laws_toIntS_ev l hm) (ev_bind hi (ev_bind hq (ev_pos rfl ?_)))
    rw [hb]
    refine Ev.step (fun k => by rw [laws_FnExactPackOf.j2]) (ev_neg (by decide) ?_)
    exact ev_bind (laws_heldPacked_ev x y z ws.length 1 hmw) (ev_neg (by omega) (ev_pos rfl (ev_now _)))
  refine ev_bind (laws_toIntS_ev l hm) (ev_bind hs (ev_bind (laws_toIntS_ev l hm) (ev_bind hi (ev_bind hq (ev_pos rfl ?_)))))
  rw [hb]
  refine Ev.step (fun k => by rw [laws_FnExactPackOf.j0]) (ev_neg (by decide) ?_)
  refine ev_bind (laws_toIntS_ev l hm) (ev_bind (laws_eqIntS_ev l l (by omega)) (ev_pos (by simp) ?_))
  refine ev_bind (laws_markIntS_ev l 1 hml) (ev_neg (by omega) (ev_bind hq (ev_pos rfl ?_)))
  rw [hb]
  exact h1

end Go.Proofs.Yteckcjjkblkfkaa.Pure
