/- The pure statement of the law FnExactSparseOf: the program's answers equal the reference's, for all arguments within the row's bounds. -/
import Derived.Test.YteckcjjkblkfkaaQFnExactSparseOfx10
import Derived.Test.YteckcjjkblkfkaaLib
namespace Go.Proofs.Yteckcjjkblkfkaa.Pure
open Go.RowKit Go.Proofs.Yteckcjjkblkfkaa.QFnExactSparseOf Go.Proofs.Yteckcjjkblkfkaa.Lib Go.Proofs.YteckcjjkblkfkaaW.PrintWords Go.Proofs.YteckcjjkblkfkaaW.PrintLast Go.Proofs.YteckcjjkblkfkaaW.PrintMore
set_option linter.unusedVariables false
set_option linter.unusedSimpArgs false

theorem blA_le : ∀ (f n b : Nat), n < 2 ^ f → (Go.Lib.bitLenAux f n ≤ b ↔ n < 2 ^ b) := by
  intro f
  induction f with
  | zero =>
    intro n b hn
    have : n = 0 := by simpa using hn
    subst this
    have := Nat.two_pow_pos b
    constructor
    · intro _; exact this
    · intro _; simp [Go.Lib.bitLenAux]
  | succ f ih =>
    intro n b hn
    rw [Go.Lib.bitLenAux]
    by_cases h : n = 0
    · subst h
      have := Nat.two_pow_pos b
      rw [if_pos rfl]; constructor <;> intro _ <;> omega
    · rw [if_neg h]
      cases b with
      | zero => rw [Nat.pow_zero]; constructor <;> intro _ <;> omega
      | succ b =>
        have := ih (n / 2) b (by rw [Nat.pow_succ] at hn; omega)
        rw [Nat.pow_succ]
        constructor
        · intro g; have := this.1 (by omega); omega
        · intro g; have := this.2 (by omega); omega
theorem bl_le (n b : Nat) (h : n < 2 ^ 64) : Go.Lib.bitLen n ≤ b ↔ n < 2 ^ b := blA_le 64 n b h
theorem laws_toIntS_l0 (xs : List Int) (hm : xs.length ≤ 35184372088832) : ∀ (d n : Nat) (out : List Int), n + d = xs.length → out.length = xs.length → (∀ j, j < n → out[j]? = xs[j]?) → Ev (fun k => laws_toIntS.l0 k xs out (n : Int)) xs := by
  intro d
  induction d with
  | zero =>
    intro n out hn hl ho
    refine Ev.step (fun k => by rw [laws_toIntS.l0]) ?_
    refine ev_neg (by omega) (ev_now' ?_)
    apply List.ext_getElem? ; intro j
    by_cases hj : j < n
    · exact ho j hj
    · rw [List.getElem?_eq_none (by omega), List.getElem?_eq_none (by omega)]
  | succ d ih =>
    intro n out hn hl ho
    refine Ev.step (fun k => by rw [laws_toIntS.l0]) ?_
    refine ev_pos (by omega) (ev_pos (by omega) (ev_pos (by omega) ?_))
    rw [w64 (by omega) (by omega)]
    refine ih (n + 1) _ (by omega) (by simp [hl]) ?_
    intro j hj
    rw [Int.toNat_natCast, List.getElem?_set, rd_lt (by omega)]
    by_cases e : n = j
    · subst e; rw [if_pos rfl, if_pos (by omega), List.getElem?_eq_getElem (by omega)]
    · rw [if_neg e]; exact ho j (by omega)
theorem laws_toIntS_ev (xs : List Int) (hm : xs.length ≤ 35184372088832) : Ev (fun k => laws_toIntS.f k xs) xs := by
  unfold laws_toIntS.f
  refine ev_pos (by omega) (ev_pos (by omega) ?_)
  exact laws_toIntS_l0 xs hm xs.length 0 _ (by omega) (by simp) (by simp)
theorem laws_eqIntS_l0 (xs ys : List Int) (hl : xs.length = ys.length) (hm : xs.length ≤ 140737488355328) : ∀ (d n : Nat), n + d = xs.length → Ev (fun k => laws_eqIntS.l0 k xs ys (n : Int)) (decide (xs.drop n = ys.drop n)) := by
  intro d
  induction d with
  | zero =>
    intro n hn
    refine Ev.step (fun k => by rw [laws_eqIntS.l0]) ?_
    refine ev_neg (by omega) (ev_now' ?_)
    rw [List.drop_eq_nil_of_le (by omega), List.drop_eq_nil_of_le (by omega)]; rfl
  | succ d ih =>
    intro n hn
    refine Ev.step (fun k => by rw [laws_eqIntS.l0]) ?_
    refine ev_pos (by omega) (ev_pos (by omega) (ev_pos (by omega) ?_))
    rw [rd_lt (by omega), rd_lt (by omega), w64 (by omega) (by omega)]
    rw [List.drop_eq_getElem_cons (show n < xs.length by omega), List.drop_eq_getElem_cons (show n < ys.length by omega)]
    refine ev_ite (fun h => ev_eq (ih (n + 1) (by omega)) ?_) (fun h => ev_now' ?_)
    · simp only [List.cons.injEq, h, true_and]
    · exact (decide_eq_false (fun e => h (List.cons.inj e).1)).symm
theorem laws_eqIntS_ev (xs ys : List Int) (hm : xs.length ≤ 140737488355328) : Ev (fun k => laws_eqIntS.f k xs ys) (decide (xs = ys)) := by
  unfold laws_eqIntS.f
  refine ev_ite (fun h => ?_) (fun h => ev_now' ?_)
  · exact laws_eqIntS_l0 xs ys (by omega) hm xs.length 0 (by omega)
  · exact (decide_eq_false (fun e => h (by rw [e]))).symm
theorem laws_markIntS_l0 (xs : List Int) (a : Nat) (hm : a + xs.length ≤ 1099511627776) : ∀ (d n : Nat), n + d = xs.length → Ev (fun k => laws_markIntS.l0 k (marked (fun x => x) n a ++ xs.drop n) ((a + n : Nat) : Int) (n : Int)) (((a + xs.length : Nat) : Int), marked (fun x => x) xs.length a) := by
  intro d
  induction d with
  | zero =>
    intro n hn
    have e : n = xs.length := by omega
    subst e
    refine Ev.step (fun k => by rw [laws_markIntS.l0]) ?_
    refine ev_neg (by simp [marked_length]) (ev_now' ?_)
    rw [List.drop_length, List.append_nil]
  | succ d ih =>
    intro n hn
    refine Ev.step (fun k => by rw [laws_markIntS.l0]) ?_
    refine ev_pos (by simp [marked_length]; omega) (ev_pos (by omega) ?_)
    rw [w64 (by omega) (by omega), w64 (by omega) (by omega), Int.toNat_natCast]
    have e := set_mark (c := (fun x => x)) (a := a) (show n < xs.length by omega)
    rw [show (((a + n : Nat) : Int)) = (fun x => x) ((a + n : Nat) : Int) from rfl, e]
    exact ih (n + 1) (by omega)
theorem laws_markIntS_ev (xs : List Int) (a : Nat) (hm : a + xs.length ≤ 1099511627776) : Ev (fun k => laws_markIntS.f k xs (a : Int)) (((a + xs.length : Nat) : Int), marked (fun x => x) xs.length a) := by
  unfold laws_markIntS.f
  have h := laws_markIntS_l0 xs a hm xs.length 0 (by omega)
  simpa [marked] using h
theorem spec_l02Pow_l0 : ∀ (n m : Nat), n + m ≤ 62 → Ev (fun k => spec_l02Pow.l0 k (n : Int) ((2 ^ m : Nat) : Int)) ((2 ^ (n + m) : Nat) : Int) := by
  intro n
  induction n with
  | zero =>
    intro m hm
    refine Ev.step (fun k => by rw [spec_l02Pow.l0]) ?_
    exact ev_neg (by omega) (ev_now' (by rw [Nat.zero_add]))
  | succ n ih =>
    intro m hm
    refine Ev.step (fun k => by rw [spec_l02Pow.l0]) ?_
    have hp : 2 ^ m ≤ 2 ^ 61 := Nat.pow_le_pow_right (by decide) (by omega)
    have hpp : 2 ^ (m + 1) = 2 ^ m * 2 := Nat.pow_succ ..
    refine ev_pos (by omega) ?_
    rw [w64 (by omega) (by omega), w64 (by omega) (by omega), show ((n + 1 : Nat) : Int) - 1 = (n : Int) by omega, show (2 : Int) * ((2 ^ m : Nat) : Int) = ((2 ^ (m + 1) : Nat) : Int) by omega]
    refine ev_eq (ih (m + 1) (by omega)) ?_
    rw [show n + (m + 1) = n + 1 + m by omega]
theorem spec_l02Pow_ev (n : Nat) (h : n ≤ 62) : Ev (fun k => spec_l02Pow.f k (n : Int)) ((2 ^ n : Nat) : Int) := by
  unfold spec_l02Pow.f
  exact spec_l02Pow_l0 n 0 (by omega)
theorem spec_l02Pow_neg (a : Int) (h : a ≤ 0) : Ev (fun k => spec_l02Pow.f k a) 1 := by
  unfold spec_l02Pow.f
  refine Ev.step (fun k => by rw [spec_l02Pow.l0]) ?_
  exact ev_neg (by omega) (ev_now _)
theorem spec_l01Power_l0 : ∀ (n m : Nat), n + m ≤ 63 → Ev (fun k => spec_l01Power.l0 k (n : Int) ((2 ^ m : Nat) : Int)) ((2 ^ (n + m) : Nat) : Int) := by
  intro n
  induction n with
  | zero =>
    intro m hm
    refine Ev.step (fun k => by rw [spec_l01Power.l0]) ?_
    exact ev_neg (by omega) (ev_now' (by rw [Nat.zero_add]))
  | succ n ih =>
    intro m hm
    refine Ev.step (fun k => by rw [spec_l01Power.l0]) ?_
    have hp : 2 ^ m ≤ 2 ^ 62 := Nat.pow_le_pow_right (by decide) (by omega)
    have hpp : 2 ^ (m + 1) = 2 ^ m * 2 := Nat.pow_succ ..
    refine ev_pos (by omega) ?_
    rw [w64 (by omega) (by omega), show ((n + 1 : Nat) : Int) - 1 = (n : Int) by omega, show (2 : Int) * ((2 ^ m : Nat) : Int) = ((2 ^ (m + 1) : Nat) : Int) by omega, wraps_u64 _ (by omega) (by omega)]
    refine ev_eq (ih (m + 1) (by omega)) ?_
    rw [show n + (m + 1) = n + 1 + m by omega]
theorem spec_l01Power_ev (n : Nat) (h : n ≤ 63) : Ev (fun k => spec_l01Power.f k (n : Int)) ((2 ^ n : Nat) : Int) := by
  unfold spec_l01Power.f
  exact spec_l01Power_l0 n 0 (by omega)
theorem spec_BitsOf_one (xs : List Int) (hm : xs.length ≤ 5000) (N : Int) (r : Int × List Int × Bool) (n : Nat) (hlt : n < xs.length) (hp : isBits (xs.take n)) (hb : xs[n] = 0 ∨ xs[n] = 1)
    (h : Ev (fun k => spec_BitsOf.l0 k xs (((n + 1 : Nat)) : Int) N (wordsOf (xs.take (n + 1)))) r) : Ev (fun k => spec_BitsOf.j1 k xs (n : Int) false N (wordsOf (xs.take n))) r := by
  have lp : (xs.take n).length = n := by rw [List.length_take]; omega
  have e1 : Int.tmod (n : Int) 64 = ((n % 64 : Nat) : Int) := tmod_nat n 64
  have e2 : Int.tdiv (n : Int) 64 = ((n / 64 : Nat) : Int) := tdiv_nat n 64
  have ys : ∀ ys : List Int, ys = tab (n / 64 + 1) (fun w => ((wordAt (xs.take n) w : Nat) : Int)) → Ev (fun k => if 0 ≤ (n : Int) then (if (n : Int) < (xs.length : Int) then (if (rd xs (n : Int)) = 1 then (if 0 ≤ (wrap64 (Int.tdiv (n : Int) 64)) then (if (wrap64 (Int.tdiv (n : Int) 64)) < (ys.length : Int) then ((spec_l01Power.f k (Int.tmod (n : Int) 64)).bind fun t => (spec_BitsOf.l0 k xs (wrap64 ((n : Int) + 1)) N (ys.set ((wrap64 (Int.tdiv (n : Int) 64)) : Int).toNat (IntKind.u64.wrap ((rd ys (wrap64 (Int.tdiv (n : Int) 64))) + t))))) else (none)) else (none)) else (spec_BitsOf.l0 k xs (wrap64 ((n : Int) + 1)) N ys)) else (none)) else (none)) r := by
    intro ys hys
    refine ev_pos (by omega) (ev_pos (by omega) ?_)
    rw [rd_lt hlt, e1, e2, w64 (n := (n : Int) + 1) (by omega) (by omega), w64 (n := ((n / 64 : Nat) : Int)) (by omega) (by omega)]
    have hw : wordsOf (xs.take (n + 1)) = tab (n / 64 + 1) (fun w => (((if w = n / 64 then wordAt (xs.take n) w + xs[n].toNat * 2 ^ (n % 64) else wordAt (xs.take n) w) : Nat) : Int)) := by
      unfold wordsOf
      rw [show ((xs.take (n + 1)).length + 63) / 64 = n / 64 + 1 by rw [List.length_take]; omega, take_snoc' hlt]
      apply tab_congr
      intro i hi
      rw [wordAt_snoc, lp]
    have hlt2 := wordAt_lt' hp (n / 64) (by rw [lp])
    rw [lp] at hlt2
    have hpow : 2 ^ (n % 64) ≤ 2 ^ 63 := Nat.pow_le_pow_right (by decide) (by omega)
    rw [hw] at h
    refine ev_ite (fun h1 => ?_) (fun h1 => ?_)
    · refine ev_pos (by omega) (ev_pos (by rw [hys, tab_length]; omega) (ev_bind (spec_l01Power_ev (n % 64) (by omega)) ?_))
      rw [hys, rd_tab (by omega), Int.toNat_natCast, tab_set]
      refine Ev.congr (fun k => ?_) h
      congr 1
      apply tab_congr
      intro i hi
      by_cases e : i = n / 64
      · subst e
        rw [if_pos rfl, if_pos rfl, h1]
        generalize 2 ^ (n % 64) = q at *
        rw [wraps_u64 _ (by omega) (by omega)]
        simp
      · rw [if_neg e, if_neg e]
    · have h0 : xs[n] = 0 := by omega
      rw [hys]
      refine Ev.congr (fun k => ?_) h
      congr 1
      apply tab_congr
      intro i hi
      rw [h0]; simp
  refine Ev.step (fun k => by rw [spec_BitsOf.j1]) (ev_neg (by decide) ?_)
  have hws : (n % 64 = 0 → wordsOf (xs.take n) ++ [0] = tab (n / 64 + 1) (fun w => ((wordAt (xs.take n) w : Nat) : Int))) ∧ (n % 64 ≠ 0 → wordsOf (xs.take n) = tab (n / 64 + 1) (fun w => ((wordAt (xs.take n) w : Nat) : Int))) := by
    unfold wordsOf
    rw [lp]
    constructor
    · intro h0
      rw [show (n + 63) / 64 = n / 64 by omega, tab_succ, wordAt_nil (by rw [lp]; omega)]; rfl
    · intro h0
      rw [show (n + 63) / 64 = n / 64 + 1 by omega]
  have hl : (wordsOf (xs.take n)).length < 17592186044416 := by unfold wordsOf; rw [tab_length, lp]; omega
  by_cases h0 : n % 64 = 0
  · refine ev_pos (by rw [e1]; omega) (ev_pos hl ?_)
    exact ev_some rfl (ys _ (hws.1 h0))
  · refine ev_neg (by rw [e1]; omega) (ys _ (hws.2 h0))
theorem spec_BitsOf_l0 (xs : List Int) (hm : xs.length ≤ 5000) (N : Int) : ∀ (d n : Nat), n + d = xs.length → isBits (xs.take n) → Ev (fun k => spec_BitsOf.l0 k xs (n : Int) N (wordsOf (xs.take n))) (if (xs.drop n).all (fun a => decide (a = 0 ∨ a = 1)) = true then (N, wordsOf xs, true) else (0, [], false)) := by
  intro d
  induction d with
  | zero =>
    intro n hn hp
    refine Ev.step (fun k => by rw [spec_BitsOf.l0]) ?_
    refine ev_neg (by omega) (ev_now' ?_)
    rw [List.drop_eq_nil_of_le (by omega), List.take_of_length_le (by omega)]; rfl
  | succ d ih =>
    intro n hn hp
    have hlt : n < xs.length := by omega
    refine Ev.step (fun k => by rw [spec_BitsOf.l0]) ?_
    refine ev_pos (by omega) (ev_pos (by omega) ?_)
    rw [rd_lt hlt, List.drop_eq_getElem_cons hlt, List.all_cons]
    have good : (xs[n] = 0 ∨ xs[n] = 1) → Ev (fun k => spec_BitsOf.j1 k xs (n : Int) false N (wordsOf (xs.take n))) (if (xs.drop (n + 1)).all (fun a => decide (a = 0 ∨ a = 1)) = true then (N, wordsOf xs, true) else (0, [], false)) := by
      intro hb
      refine spec_BitsOf_one xs hm N _ n hlt hp hb (ih (n + 1) (by omega) ?_)
      rw [take_snoc' hlt]
      intro b hb'
      rcases List.mem_append.1 hb' with h | h
      · exact hp b h
      · rw [List.mem_singleton.1 h]; exact hb
    by_cases h0 : xs[n] = 0
    · rw [decide_eq_true (Or.inl h0), Bool.true_and]
      exact ev_pos h0 (good (Or.inl h0))
    · refine ev_neg h0 ?_
      by_cases h1 : xs[n] = 1
      · rw [decide_eq_true (Or.inr h1), Bool.true_and, bne_eq_false_iff_eq.2 h1]
        exact good (Or.inr h1)
      · rw [decide_eq_false (by omega), bne_iff_ne.2 h1]
        refine Ev.step (fun k => by rw [spec_BitsOf.j1]) ?_
        exact ev_pos rfl (ev_now _)
def bitsOfR (xs : List Int) : Int × List Int × Bool := if (decide (xs.length ≤ 5000) && xs.all fun a => decide (a = 0 ∨ a = 1)) = true then ((xs.length : Int), wordsOf xs, true) else (0, [], false)
theorem spec_BitsOf_ev (xs : List Int) : Ev (fun k => spec_BitsOf.f k xs) (bitsOfR xs) := by
  unfold spec_BitsOf.f bitsOfR
  refine ev_ite (fun h => ev_now' ?_) (fun h => ?_)
  · rw [decide_eq_false (by omega)]; rfl
  · rw [decide_eq_true (show xs.length ≤ 5000 by omega), Bool.true_and]
    have h := spec_BitsOf_l0 xs (by omega) (xs.length : Int) xs.length 0 (by omega) (fun b hb => by simp at hb)
    rw [List.drop_zero, show wordsOf (xs.take 0) = [] by rw [List.take_zero]; rfl] at h
    exact h
def digs (w : Nat) (x : Int) : List Int := tab w fun j => ((x.toNat / 2 ^ j % 2 : Nat) : Int)
def digAll (w : Nat) : List Int → List Int
  | [] => []
  | x :: l => digs w x ++ digAll w l
theorem digs_length (w : Nat) (x : Int) : (digs w x).length = w := tab_length _ _
theorem digAll_length (w : Nat) (l : List Int) : (digAll w l).length = l.length * w := by
  induction l with
  | nil => simp [digAll]
  | cons x l ih => rw [digAll, List.length_append, digs_length, ih, List.length_cons, Nat.succ_mul]; omega
theorem digs_bits (w : Nat) (x : Int) : isBits (digs w x) := by
  intro b hb
  unfold digs tab at hb
  obtain ⟨i, _, rfl⟩ := List.mem_map.1 hb
  omega
theorem digAll_bits (w : Nat) (l : List Int) : isBits (digAll w l) := by
  induction l with
  | nil => intro b hb; simp [digAll] at hb
  | cons x l ih =>
    intro b hb
    rw [digAll] at hb
    rcases List.mem_append.1 hb with h | h
    · exact digs_bits w x b h
    · exact ih b h
theorem w64_nat (n : Nat) (h : n ≤ 9223372036854775807) : wrap64 (n : Int) = n := w64 (by omega) (by omega)
def packIn (w : Nat) (x : Int) : Bool := decide (0 ≤ x ∧ x < ((2 ^ w : Nat) : Int))
theorem pow32 {w : Nat} (h : w ≤ 32) : 2 ^ w ≤ 4294967296 := Nat.le_trans (Nat.pow_le_pow_right (by decide) h) (by decide)
def packGood (w : Nat) (xs all : List Int) : Int × Int × Int × List Int × Bool := ((w : Int), (xs.length : Int), (all.length : Int), wordsOf all, true)
theorem spec_PackOf_l1 (xs : List Int) (w : Nat) (hw : w ≤ 32) (acc : List Int) (n : Nat) (v : Int) (hv : 0 ≤ v ∧ v < 4294967296) (hn : n < 5000) (hacc : acc.length ≤ 5000) (r : Int × Int × Int × List Int × Bool)
    (h : Ev (fun k => spec_PackOf.l0 k xs (w : Int) (acc ++ digs w v) ((n + 1 : Nat) : Int)) r) : ∀ (d j : Nat), j + d = w → Ev (fun k => spec_PackOf.l1 k xs (w : Int) (acc ++ tab j fun j => ((v.toNat / 2 ^ j % 2 : Nat) : Int)) (n : Int) ((v.toNat / 2 ^ j : Nat) : Int) (j : Int)) r := by
  intro d
  induction d with
  | zero =>
    intro j hj
    have e : j = w := by omega
    subst e
    refine Ev.step (fun k => by rw [spec_PackOf.l1]) (ev_neg (by omega) ?_)
    rw [w64 (by omega) (by omega)]
    exact h
  | succ d ih =>
    intro j hj
    refine Ev.step (fun k => by rw [spec_PackOf.l1]) (ev_pos (by omega) (ev_pos (by rw [List.length_append, tab_length]; omega) ?_))
    have hle : v.toNat / 2 ^ j ≤ v.toNat := Nat.div_le_self _ _
    rw [show Int.tmod ((v.toNat / 2 ^ j : Nat) : Int) 2 = ((v.toNat / 2 ^ j % 2 : Nat) : Int) from tmod_nat _ 2, show Int.tdiv ((v.toNat / 2 ^ j : Nat) : Int) 2 = ((v.toNat / 2 ^ j / 2 : Nat) : Int) from tdiv_nat _ 2, w64_nat (v.toNat / 2 ^ j / 2) (Nat.le_trans (Nat.div_le_self _ _) (by omega)), w64 (n := (j : Int) + 1) (by omega) (by omega), Nat.div_div_eq_div_mul, ← Nat.pow_succ, List.append_assoc, ← tab_succ (f := fun j => ((v.toNat / 2 ^ j % 2 : Nat) : Int))]
    exact ih (j + 1) (by omega)
theorem spec_PackOf_l0 (xs : List Int) (w : Nat) (hw : w ≤ 32) (hm : xs.length ≤ 5000) (hmw : xs.length * w ≤ 5000) : ∀ (d n : Nat) (acc : List Int), n + d = xs.length → acc.length = n * w → isBits acc → Ev (fun k => spec_PackOf.l0 k xs (w : Int) acc (n : Int)) (if (xs.drop n).all (packIn w) = true then packGood w xs (acc ++ digAll w (xs.drop n)) else (0, 0, 0, [], false)) := by
  intro d
  induction d with
  | zero =>
    intro n acc hn ha hb
    have hnx : n = xs.length := by omega
    have hal : acc.length ≤ 5000 := by rw [ha, hnx]; exact hmw
    refine Ev.step (fun k => by rw [spec_PackOf.l0]) (ev_neg (by omega) ?_)
    rw [List.drop_eq_nil_of_le (by omega), digAll, List.append_nil]
    refine ev_bind (spec_BitsOf_ev acc) (ev_now' ?_)
    have e : bitsOfR acc = ((acc.length : Int), wordsOf acc, true) := by
      unfold bitsOfR
      rw [if_pos]
      rw [decide_eq_true hal, Bool.true_and, List.all_eq_true]
      intro b hb'
      exact decide_eq_true (hb b hb')
    rw [e]; rfl
  | succ d ih =>
    intro n acc hn ha hb
    have hlt : n < xs.length := by omega
    have hnw : n * w ≤ xs.length * w := Nat.mul_le_mul_right w (by omega)
    have bad : ∀ v : Int, Ev (fun k => spec_PackOf.j2 k xs (w : Int) acc (n : Int) v true) (0, 0, 0, [], false) := by
      intro v
      refine Ev.step (fun k => by rw [spec_PackOf.j2]) ?_
      exact ev_pos rfl (ev_now _)
    refine Ev.step (fun k => by rw [spec_PackOf.l0]) (ev_pos (by omega) (ev_pos (by omega) ?_))
    rw [rd_lt hlt, List.drop_eq_getElem_cons hlt, List.all_cons]
    refine ev_ite (fun h0 => ?_) (fun h0 => ev_bind (spec_l02Pow_ev w (by omega)) ?_)
    · rw [show packIn w xs[n] = false from decide_eq_false (by omega)]; exact bad _
    · by_cases h1 : xs[n] ≥ ((2 ^ w : Nat) : Int)
      · rw [decide_eq_true h1, show packIn w xs[n] = false from decide_eq_false (by omega)]; exact bad _
      · rw [decide_eq_false h1, show packIn w xs[n] = true from decide_eq_true (by omega), Bool.true_and, digAll, ← List.append_assoc]
        refine Ev.step (fun k => by rw [spec_PackOf.j2]) (ev_neg (by decide) ?_)
        have hp := pow32 hw
        have h := ih (n + 1) (acc ++ digs w xs[n]) (by omega) (by rw [List.length_append, digs_length, ha, Nat.succ_mul]) (by
          intro b hb'
          rcases List.mem_append.1 hb' with h | h
          · exact hb b h
          · exact digs_bits w _ b h)
        have := spec_PackOf_l1 xs w hw acc n xs[n] (by omega) (by omega) (by omega) _ h w 0 (by omega)
        rw [Nat.pow_zero, Nat.div_one, show ((xs[n].toNat : Nat) : Int) = xs[n] by omega, show (tab 0 fun j => ((xs[n].toNat / 2 ^ j % 2 : Nat) : Int)) = [] from rfl, List.append_nil] at this
        exact this
def packOfR (xs : List Int) (a : Int) : Int × Int × Int × List Int × Bool := if 0 ≤ a ∧ a ≤ 32 ∧ xs.length ≤ 5000 ∧ xs.length * a.toNat ≤ 5000 ∧ xs.all (packIn a.toNat) = true then packGood a.toNat xs (digAll a.toNat xs) else (0, 0, 0, [], false)
theorem packOfR_length (xs : List Int) (a : Int) : (packOfR xs a).2.2.2.1.length ≤ 100 := by
  unfold packOfR
  split
  · rename_i h
    show (wordsOf (digAll a.toNat xs)).length ≤ 100
    rw [wordsOf_length, digAll_length]; omega
  · simp
theorem spec_PackOf_ev (xs : List Int) (a : Int) (hm : xs.length ≤ 1048576) : Ev (fun k => spec_PackOf.f k xs a) (packOfR xs a) := by
  unfold spec_PackOf.f packOfR
  have bad : Ev (fun k => spec_PackOf.j0 k xs a true) (0, 0, 0, [], false) := by
    refine Ev.step (fun k => by rw [spec_PackOf.j0]) ?_
    exact ev_pos rfl (ev_now _)
  refine ev_ite (fun h => ?_) (fun h => ev_ite (fun h1 => ?_) (fun h1 => ev_ite (fun h2 => ?_) (fun h2 => ?_)))
  · rw [if_neg (by omega)]; exact bad
  · rw [if_neg (by omega)]; exact bad
  · rw [if_neg (by omega)]; exact bad
  · obtain ⟨w, rfl⟩ : ∃ w : Nat, a = (w : Int) := ⟨a.toNat, by omega⟩
    have hmul : xs.length * w ≤ 5000 * 32 := Nat.mul_le_mul (by omega) (by omega)
    rw [Int.toNat_natCast, ← Int.natCast_mul, w64 (by omega) (by omega)]
    by_cases h3 : xs.length * w ≤ 5000
    · rw [decide_eq_false (by omega)]
      refine Ev.step (fun k => by rw [spec_PackOf.j0]) (ev_neg (by decide) ?_)
      have h := spec_PackOf_l0 xs w (by omega) (by omega) h3 xs.length 0 [] (by omega) (by simp) (fun b hb => by simp at hb)
      rw [List.drop_zero, List.nil_append] at h
      refine ev_eq h ?_
      by_cases h4 : xs.all (packIn w) = true
      · rw [if_pos h4, if_pos ⟨by omega, by omega, by omega, h3, h4⟩]
      · rw [if_neg h4, if_neg (fun g => h4 g.2.2.2.2)]
    · rw [decide_eq_true (by omega), if_neg (by omega)]; exact bad
theorem spec_WidthOf_l0 : ∀ (f n w : Nat), n < 2 ^ f → f ≤ 64 → w + f ≤ 64 → Ev (fun k => spec_WidthOf.l0 k (n : Int) (w : Int)) ((w + Go.Lib.bitLenAux f n : Nat) : Int) := by
  intro f
  induction f with
  | zero =>
    intro n w hn _ _
    refine Ev.step (fun k => by rw [spec_WidthOf.l0]) ?_
    exact ev_neg (by omega) (ev_now _)
  | succ f ih =>
    intro n w hn hf hw
    refine Ev.step (fun k => by rw [spec_WidthOf.l0]) ?_
    have hp : 2 ^ (f + 1) ≤ 2 ^ 64 := Nat.pow_le_pow_right (by decide) hf
    have hpp : 2 ^ (f + 1) = 2 ^ f * 2 := Nat.pow_succ ..
    rw [Go.Lib.bitLenAux]
    by_cases h : n = 0
    · rw [if_pos h]
      exact ev_neg (by omega) (ev_now _)
    · rw [if_neg h]
      refine ev_pos (by omega) ?_
      rw [show Int.tdiv (n : Int) 2 = ((n / 2 : Nat) : Int) from tdiv_nat n 2, w64 (n := (w : Int) + 1) (by omega) (by omega), w64 (n := ((n / 2 : Nat) : Int)) (by omega) (by omega)]
      refine ev_eq (ih (n / 2) (w + 1) (by omega) (by omega) (by omega)) ?_
      omega
theorem spec_WidthOf_ev (n : Nat) (h : n < 2 ^ 64) : Ev (fun k => spec_WidthOf.f k (n : Int)) ((Go.Lib.bitLen n : Nat) : Int) := by
  unfold spec_WidthOf.f
  refine ev_neg (by omega) (ev_eq (spec_WidthOf_l0 64 n 0 (by omega) (by omega) (by omega)) ?_)
  rw [Nat.zero_add]; rfl
def widthR (n u : Nat) : Nat := if n = 0 then 0 else Go.Lib.bitLen (u / n) - 1
theorem bl_million (v : Nat) (h : v ≤ 1000000) : Go.Lib.bitLen v ≤ 20 := (bl_le v 20 (by omega)).2 (by omega)
theorem div_million (u n : Nat) (hu : u ≤ 1000000) : u / n ≤ 1000000 := Nat.le_trans (Nat.div_le_self _ _) hu
theorem widthR_le (n u : Nat) (hu : u ≤ 1000000) : widthR n u ≤ 19 := by
  unfold widthR
  split
  · omega
  · have := bl_million _ (div_million u n hu); omega
theorem spec_l03Width_ev (n u : Nat) (hu : u ≤ 1000000) : Ev (fun k => spec_l03Width.f k (n : Int) (u : Int)) ((widthR n u : Nat) : Int) := by
  unfold spec_l03Width.f widthR
  have hd := div_million u n hu
  have hb := bl_million _ hd
  refine ev_ite (fun h => ev_now' ?_) (fun h => ?_)
  · rw [if_pos (by omega)]; rfl
  · rw [if_neg (by omega), tdiv_nat, w64_nat (u / n) (by omega)]
    refine ev_bind (spec_WidthOf_ev (u / n) (by omega)) (ev_now' ?_)
    generalize Go.Lib.bitLen (u / n) = t at *
    rw [w64 (by omega) (by omega)]
    unfold mx
    split <;> omega
abbrev Sp := Int × Int × Int × Int × Int × List Int × Int × List Int × Bool
def spBad : Sp := (0, 0, 0, 0, 0, ([] : List Int), 0, ([] : List Int), false)
def spOk (xs : List Int) (u : Int) (i : Nat) : Prop := 0 ≤ rd xs (i : Int) ∧ rd xs (i : Int) < u ∧ (0 < i → rd xs ((i - 1 : Nat) : Int) ≤ rd xs (i : Int))
/-- the unary code of what is left, d bits long -/
def spCode (p : Int) : Nat → List Int → Int → List Int
  | 0, _, _ => []
  | d + 1, [], b => 0 :: spCode p d [] (b + 1)
  | d + 1, x :: xs, b => if x / p ≤ b then 1 :: spCode p d xs b else 0 :: spCode p d (x :: xs) (b + 1)
theorem spCode_length (p : Int) : ∀ (d : Nat) (xs : List Int) (b : Int), (spCode p d xs b).length = d := by
  intro d
  induction d with
  | zero => intro xs b; rfl
  | succ d ih =>
    intro xs b
    cases xs with
    | nil => rw [spCode, List.length_cons, ih]
    | cons x xs => rw [spCode]; split <;> rw [List.length_cons, ih]
theorem spCode_bits (p : Int) : ∀ (d : Nat) (xs : List Int) (b : Int), isBits (spCode p d xs b) := by
  intro d
  induction d with
  | zero => intro xs b x hx; simp [spCode] at hx
  | succ d ih =>
    intro xs b
    cases xs with
    | nil =>
      rw [spCode]
      intro x hx
      rcases List.mem_cons.1 hx with h | h
      · exact Or.inl h
      · exact ih _ _ x h
    | cons y ys =>
      rw [spCode]
      split
      · intro x hx
        rcases List.mem_cons.1 hx with h | h
        · exact Or.inr h
        · exact ih _ _ x h
      · intro x hx
        rcases List.mem_cons.1 hx with h | h
        · exact Or.inl h
        · exact ih _ _ x h
def spFin (u n : Int) (w : Int) (low high : List Int) : Sp := if (packOfR low w).2.2.2.2 = true then (if (bitsOfR high).2.2 = true then (u, n, (packOfR low w).1, (packOfR low w).2.1, (packOfR low w).2.2.1, (packOfR low w).2.2.2.1, (bitsOfR high).1, (bitsOfR high).2.1, true) else spBad) else spBad
theorem spFin_bad (u n w : Int) (low high : List Int) (h : 5000 < high.length) : spFin u n w low high = spBad := by
  unfold spFin
  have : (bitsOfR high).2.2 = false := by
    unfold bitsOfR
    rw [if_neg]
    rw [decide_eq_false (by omega)]
    simp
  rw [this]
  split <;> rfl
/-- what SparseOf gives for a good row -/
def spR (xs : List Int) (u : Nat) : Sp := if xs.length + u / 2 ^ widthR xs.length u + 1 ≤ 5000 then spFin (u : Int) (xs.length : Int) (widthR xs.length u : Int) (xs.map fun x => x % ((2 ^ widthR xs.length u : Nat) : Int)) (spCode ((2 ^ widthR xs.length u : Nat) : Int) (xs.length + u / 2 ^ widthR xs.length u + 1) xs 0) else spBad
theorem spec_SparseOf_l (xs : List Int) (u w : Nat) (hw : w = widthR xs.length u) (hu : u ≤ 1000000) (hm : xs.length ≤ 5000) (ok : ∀ i, i < xs.length → spOk xs (u : Int) i) (p : Nat) (hp : p = 2 ^ w) (q : Nat) (hq : q = u / p) (F : List Int) (R : Sp)
    (hA : xs.length + q + 1 ≤ 5000 → R = spFin (u : Int) (xs.length : Int) (w : Int) (xs.map fun x => x % (p : Int)) F) (hB : ¬ xs.length + q + 1 ≤ 5000 → R = spBad) :
    ∀ d : Nat, (∀ (i b : Nat) (low high : List Int), i ≤ xs.length → i + b + d = xs.length + q + 1 → b ≤ q → (i < xs.length → (b : Int) ≤ rd xs (i : Int) / (p : Int)) → low = (xs.take i).map (fun x => x % (p : Int)) → high.length = i + b → high ++ spCode (p : Int) d (xs.drop i) (b : Int) = F → Ev (fun k => spec_SparseOf.l2 k xs (u : Int) (p : Int) low high (i : Int) (b : Int)) R)
      ∧ (∀ (i b : Nat) (low high : List Int), i ≤ xs.length → i + b + d = xs.length + q + 1 → b ≤ q + 1 → (i < xs.length → (b : Int) ≤ rd xs (i : Int) / (p : Int)) → low = (xs.take i).map (fun x => x % (p : Int)) → high.length = i + b → high ++ spCode (p : Int) d (xs.drop i) (b : Int) = F → Ev (fun k => spec_SparseOf.l1 k xs (u : Int) (p : Int) low high (i : Int) (b : Int)) R) := by
  have hp0 : 0 < p := by rw [hp]; exact Nat.pos_of_ne_zero (by simp)
  have hqu : q ≤ u := by rw [hq]; exact Nat.div_le_self _ _
  have hqw : wrap64 (Int.tdiv (u : Int) (p : Int)) = (q : Int) := by rw [tdiv_nat, ← hq, w64 (by omega) (by omega)]
  have hle : ∀ i, i < xs.length → rd xs (i : Int) / (p : Int) ≤ (q : Int) := by
    intro i hi
    have h := (ok i hi).2.1
    have := Int.ediv_le_ediv (a := rd xs (i : Int)) (b := (u : Int)) (c := (p : Int)) (by omega) (by omega)
    rw [show (u : Int) / (p : Int) = (q : Int) by rw [hq]; rfl] at this
    exact this
  have fin : ∀ low high : List Int, low.length ≤ 5000 → Ev (fun k => ((spec_l03Width.f k (xs.length : Int) (u : Int)).bind fun t167 => ((spec_PackOf.f k low t167).bind fun bt168 => ((spec_BitsOf.f k high).bind fun bt176 => (if bt168.2.2.2.2 = true then (if bt176.2.2 = true then (some ((u : Int), (xs.length : Int), bt168.1, bt168.2.1, bt168.2.2.1, bt168.2.2.2.1, bt176.1, bt176.2.1, true)) else (some (0, 0, 0, 0, 0, ([] : List Int), 0, ([] : List Int), false))) else (some (0, 0, 0, 0, 0, ([] : List Int), 0, ([] : List Int), false))))))) (spFin (u : Int) (xs.length : Int) (w : Int) low high) := by
    intro low high hl
    refine ev_bind (spec_l03Width_ev xs.length u hu) ?_
    rw [← hw]
    refine ev_bind (spec_PackOf_ev low (w : Int) (by omega)) (ev_bind (spec_BitsOf_ev high) ?_)
    unfold spFin
    refine ev_ite (fun h => ?_) (fun h => ?_)
    · rw [if_pos h]
      refine ev_ite (fun g => ?_) (fun g => ?_)
      · rw [if_pos g]; exact ev_now _
      · rw [if_neg g]; exact ev_now _
    · rw [if_neg h]; exact ev_now _
  intro d
  induction d with
  | zero =>
    refine ⟨fun i b low high hi hd hb => by omega, ?_⟩
    intro i b low high hi hd hb hlt hlow hhigh hF
    have ei : i = xs.length := by omega
    have eb : b = q + 1 := by omega
    refine Ev.step (fun k => by rw [spec_SparseOf.l1]) (ev_neg (by omega) ?_)
    rw [hqw]
    refine ev_neg (by omega) ?_
    refine Ev.step (fun k => by rw [spec_SparseOf.j3]) (ev_neg (by decide) ?_)
    refine ev_eq (fin low high (by rw [hlow, List.length_map, List.length_take]; omega)) ?_
    by_cases g : xs.length + q + 1 ≤ 5000
    · rw [hA g, hlow, ei, List.take_length, ← hF, spCode, List.append_nil]
    · rw [hB g]; exact spFin_bad _ _ _ _ _ (by omega)
  | succ d ih =>
    obtain ⟨ih2, ih1⟩ := ih
    have H2 : ∀ (i b : Nat) (low high : List Int), i ≤ xs.length → i + b + (d + 1) = xs.length + q + 1 → b ≤ q → (i < xs.length → (b : Int) ≤ rd xs (i : Int) / (p : Int)) → low = (xs.take i).map (fun x => x % (p : Int)) → high.length = i + b → high ++ spCode (p : Int) (d + 1) (xs.drop i) (b : Int) = F → Ev (fun k => spec_SparseOf.l2 k xs (u : Int) (p : Int) low high (i : Int) (b : Int)) R := by
      intro i b low high hi hd hb hlt hlow hhigh hF
      have hll : low.length = i := by rw [hlow, List.length_map, List.length_take]; omega
      by_cases hin : i < xs.length
      · have hok := ok i hin
        have hx := hlt hin
        have hxq := hle i hin
        have hrd : rd xs (i : Int) = xs[i] := rd_lt hin
        have hdr : xs.drop i = xs[i] :: xs.drop (i + 1) := List.drop_eq_getElem_cons hin
        refine Ev.step (fun k => by rw [spec_SparseOf.l2]) (ev_pos (by omega) (ev_pos (by omega) (ev_neg (by omega) ?_)))
        rw [Int.tdiv_eq_ediv_of_nonneg hok.1, w64 (n := rd xs (i : Int) / (p : Int)) (by omega) (by omega), Int.tmod_eq_emod_of_nonneg hok.1]
        refine ev_ite (fun he => ?_) (fun he => ?_)
        · refine ev_pos (by omega) (ev_pos (by omega) ?_)
          rw [w64 (n := (i : Int) + 1) (by omega) (by omega)]
          refine ih2 (i + 1) b _ _ (by omega) (by omega) hb ?_ ?_ ?_ ?_
          · intro h1
            have h2 := (ok (i + 1) h1).2.2 (by omega)
            rw [Nat.add_sub_cancel] at h2
            have := Int.ediv_le_ediv (a := rd xs (i : Int)) (b := rd xs ((i + 1 : Nat) : Int)) (c := (p : Int)) (by omega) h2
            omega
          · rw [hlow, take_snoc' hin, List.map_append, hrd]; rfl
          · rw [List.length_append, hhigh]; simp; omega
          · rw [← hF, hdr, spCode, if_pos (by rw [← hrd]; omega), List.append_assoc]; rfl
        · refine ev_pos (by omega) ?_
          rw [w64 (n := (b : Int) + 1) (by omega) (by omega)]
          refine ih1 i (b + 1) _ _ hi (by omega) (by omega) ?_ hlow ?_ ?_
          · intro _; omega
          · rw [List.length_append, hhigh]; simp; omega
          · rw [← hF, hdr, spCode, if_neg (by rw [← hrd]; omega), List.append_assoc]; rfl
      · refine Ev.step (fun k => by rw [spec_SparseOf.l2]) (ev_neg (by omega) (ev_pos (by omega) ?_))
        rw [w64 (n := (b : Int) + 1) (by omega) (by omega)]
        refine ih1 i (b + 1) _ _ hi (by omega) (by omega) (fun h => absurd h hin) hlow ?_ ?_
        · rw [List.length_append, hhigh]; simp; omega
        · rw [← hF, List.drop_eq_nil_of_le (by omega), spCode, List.append_assoc]; rfl
    refine ⟨H2, ?_⟩
    intro i b low high hi hd hb hlt hlow hhigh hF
    have hbq : b ≤ q := by
      by_cases hin : i < xs.length
      · have := hlt hin; have := hle i hin; omega
      · omega
    refine Ev.step (fun k => by rw [spec_SparseOf.l1]) (ev_neg (by omega) ?_)
    rw [hqw]
    refine ev_pos (by omega) ?_
    by_cases g : high.length ≤ 5000
    · rw [decide_eq_true (show (high.length : Int) ≤ 5000 by omega)]
      refine Ev.step (fun k => by rw [spec_SparseOf.j3]) (ev_pos rfl ?_)
      exact H2 i b low high hi hd hbq hlt hlow hhigh hF
    · rw [decide_eq_false (show ¬ (high.length : Int) ≤ 5000 by omega)]
      refine Ev.step (fun k => by rw [spec_SparseOf.j3]) (ev_neg (by decide) ?_)
      refine ev_eq (fin low high (by rw [hlow, List.length_map, List.length_take]; omega)) ?_
      rw [hB (by omega)]
      exact spFin_bad _ _ _ _ _ (by omega)
theorem spec_SparseOf_l0 (xs : List Int) (u : Int) (hm : xs.length ≤ 5000) (R : Sp)
    (hg : (∀ i, i < xs.length → spOk xs u i) → Ev (fun k => (spec_l03Width.f k (xs.length : Int) u).bind fun t145 => ((spec_l02Pow.f k t145).bind fun t146 => (spec_SparseOf.l1 k xs u t146 (([] : List Int)) (([] : List Int)) 0 0))) R) (hb : ¬ (∀ i, i < xs.length → spOk xs u i) → R = spBad) :
    ∀ d n : Nat, n + d = xs.length → (∀ i, i < n → spOk xs u i) → Ev (fun k => spec_SparseOf.l0 k xs u (n : Int)) R := by
  intro d
  induction d with
  | zero =>
    intro n hn hok
    exact Ev.step (fun k => by rw [spec_SparseOf.l0]) (ev_neg (by omega) (hg (fun i hi => hok i (by omega))))
  | succ d ih =>
    intro n hn hok
    have hlt : n < xs.length := by omega
    have bad : ¬ spOk xs u n → Ev (fun _ => some spBad) R := fun h => ev_now' (hb (fun g => h (g n hlt))).symm
    refine Ev.step (fun k => by rw [spec_SparseOf.l0]) (ev_pos (by omega) (ev_pos (by omega) ?_))
    refine ev_ite (fun h => bad (fun g => by have := g.1; omega)) (fun h => ev_ite (fun h1 => bad (fun g => by have := g.2.1; omega)) (fun h1 => ?_))
    have next : (0 < n → rd xs ((n - 1 : Nat) : Int) ≤ rd xs (n : Int)) → Ev (fun k => spec_SparseOf.l0 k xs u (wrap64 ((n : Int) + 1))) R := by
      intro h2
      rw [w64 (by omega) (by omega)]
      refine ih (n + 1) (by omega) (fun i hi => ?_)
      rcases Nat.lt_or_ge i n with g | g
      · exact hok i g
      · have : i = n := by omega
        subst this
        exact ⟨by omega, by omega, h2⟩
    refine ev_ite (fun h2 => ?_) (fun h2 => next (fun g => by omega))
    rw [w64 (n := (n : Int) - 1) (by omega) (by omega), show (n : Int) - 1 = ((n - 1 : Nat) : Int) by omega]
    refine ev_pos (by omega) (ev_pos (by omega) (ev_ite (fun h3 => bad (fun g => by have := g.2.2 (by omega); omega)) (fun h3 => next (fun _ => by omega))))
def spGood (xs : List Int) (u : Int) : Prop := 0 ≤ u ∧ u ≤ 1000000 ∧ xs.length ≤ 5000 ∧ ∀ i, i < xs.length → spOk xs u i
theorem spec_SparseOf_bad (xs : List Int) (u : Int) (hm : xs.length ≤ 1048576) (h : ¬ spGood xs u) : Ev (fun k => spec_SparseOf.f k xs u) spBad := by
  have bad : Ev (fun k => spec_SparseOf.j0 k xs u true) spBad := by
    refine Ev.step (fun k => by rw [spec_SparseOf.j0]) ?_
    exact ev_pos rfl (ev_now _)
  unfold spec_SparseOf.f
  refine ev_ite (fun _ => bad) (fun h0 => ev_ite (fun _ => bad) (fun h1 => ?_))
  by_cases g : xs.length ≤ 5000
  · rw [decide_eq_false (by omega)]
    refine Ev.step (fun k => by rw [spec_SparseOf.j0]) (ev_neg (by decide) ?_)
    exact spec_SparseOf_l0 xs u g spBad (fun hh => absurd ⟨by omega, by omega, g, hh⟩ h) (fun _ => rfl) xs.length 0 (by omega) (fun i hi => by omega)
  · rw [decide_eq_true (by omega)]
    exact bad
theorem spec_SparseOf_good (xs : List Int) (u : Nat) (h : spGood xs (u : Int)) : Ev (fun k => spec_SparseOf.f k xs (u : Int)) (spR xs u) := by
  obtain ⟨_, hu, hm, ok⟩ := h
  have hu' : u ≤ 1000000 := by omega
  have hwl := widthR_le xs.length u hu'
  unfold spec_SparseOf.f
  refine ev_neg (by omega) (ev_neg (by omega) ?_)
  rw [decide_eq_false (by omega)]
  refine Ev.step (fun k => by rw [spec_SparseOf.j0]) (ev_neg (by decide) ?_)
  refine spec_SparseOf_l0 xs u hm (spR xs u) (fun _ => ?_) (fun hh => absurd ok hh) xs.length 0 (by omega) (fun i hi => by omega)
  refine ev_bind (spec_l03Width_ev xs.length u hu') (ev_bind (spec_l02Pow_ev _ (by omega)) ?_)
  have key := (spec_SparseOf_l xs u (widthR xs.length u) rfl hu' hm ok (2 ^ widthR xs.length u) rfl (u / 2 ^ widthR xs.length u) rfl (spCode ((2 ^ widthR xs.length u : Nat) : Int) (xs.length + u / 2 ^ widthR xs.length u + 1) xs 0) (spR xs u)
    (fun g => by unfold spR; rw [if_pos g]) (fun g => by unfold spR; rw [if_neg g]) (xs.length + u / 2 ^ widthR xs.length u + 1)).2 0 0 [] [] (Nat.zero_le _) (by first | rfl | omega) (Nat.zero_le _) ?_ rfl rfl rfl
  · exact key
  · intro hin
    exact Int.ediv_nonneg (ok 0 hin).1 (Int.natCast_nonneg _)
theorem impl_within_f (a b c : Int) : impl_within.f a b c = some (decide (b ≤ a ∧ a ≤ c)) := by
  unfold impl_within.f
  by_cases h : b ≤ a <;> simp [h]
theorem impl_digits_l0 (w : Nat) (hw : w ≤ 32) (v : Int) (hv : 0 ≤ v ∧ v < 4294967296) : ∀ (d j : Nat), j + d = w → Ev (fun k => impl_digits.l0 k ((v.toNat / 2 ^ j : Nat) : Int) (tab j fun j => ((v.toNat / 2 ^ j % 2 : Nat) : Int)) (w : Int) (j : Int)) (digs w v) := by
  intro d
  induction d with
  | zero =>
    intro j hj
    have e : j = w := by omega
    subst e
    refine Ev.step (fun k => by rw [impl_digits.l0]) ?_
    exact ev_neg (by omega) (ev_now _)
  | succ d ih =>
    intro j hj
    refine Ev.step (fun k => by rw [impl_digits.l0]) (ev_pos (by omega) (ev_pos (by rw [tab_length]; omega) ?_))
    have hle : v.toNat / 2 ^ j ≤ v.toNat := Nat.div_le_self _ _
    have e1 : Go.bits .and .i64 ((v.toNat / 2 ^ j : Nat) : Int) 1 = ((v.toNat / 2 ^ j % 2 : Nat) : Int) := by
      have h := bits_mask .i64 63 (by decide) wraps_i64 1 (by decide) ((v.toNat / 2 ^ j : Nat) : Int) (Int.natCast_nonneg _) (by
        have hq : v.toNat / 2 ^ j < 2 ^ 63 := Nat.lt_of_le_of_lt hle (by omega)
        exact_mod_cast hq)
      simpa using h
    rw [e1, show ((v.toNat / 2 ^ j : Nat) : Int) / 2 = ((v.toNat / 2 ^ j / 2 : Nat) : Int) from rfl, w64 (n := (j : Int) + 1) (by omega) (by omega), Nat.div_div_eq_div_mul, ← Nat.pow_succ, ← tab_succ (f := fun j => ((v.toNat / 2 ^ j % 2 : Nat) : Int))]
    exact ih (j + 1) (by omega)
theorem impl_digits_ev (w : Nat) (hw : w ≤ 32) (v : Int) (hv : 0 ≤ v ∧ v < 4294967296) : Ev (fun k => impl_digits.f k v (w : Int)) (digs w v) := by
  unfold impl_digits.f
  have h := impl_digits_l0 w hw v hv w 0 (by omega)
  rw [Nat.pow_zero, Nat.div_one, show ((v.toNat : Nat) : Int) = v by omega] at h
  exact h
theorem impl_bitsOf_l0 (xs : List Int) (hm : xs.length ≤ 1000000) (hx : isBits xs) (N : Int) : ∀ (d n : Nat), n + d = xs.length → Ev (fun k => impl_bitsOf.l0 k xs (xs.length : Int) (n : Int) N (tab ((xs.length + 63) / 64) fun w => ((wordAt (xs.take n) w : Nat) : Int))) (N, wordsOf xs) := by
  intro d
  induction d with
  | zero =>
    intro n hn
    refine Ev.step (fun k => by rw [impl_bitsOf.l0]) ?_
    refine ev_neg (by omega) (ev_now' ?_)
    rw [List.take_of_length_le (by omega)]; rfl
  | succ d ih =>
    intro n hn
    have hlt : n < xs.length := by omega
    have lp : (xs.take n).length = n := by rw [List.length_take]; omega
    have e1 : Int.tmod (n : Int) 64 = ((n % 64 : Nat) : Int) := tmod_nat n 64
    have e2 : Int.tdiv (n : Int) 64 = ((n / 64 : Nat) : Int) := tdiv_nat n 64
    have hb := hx _ (List.getElem_mem hlt)
    refine Ev.step (fun k => by rw [impl_bitsOf.l0]) ?_
    rw [rd_lt hlt, e1, e2, w64 (n := (n : Int) + 1) (by omega) (by omega), w64 (n := ((n / 64 : Nat) : Int)) (by omega) (by omega), rd_tab (show n / 64 < (xs.length + 63) / 64 by omega)]
    refine ev_pos (by omega) (ev_pos (by omega) (ev_pos (by omega) (ev_pos (by omega) (ev_pos (by rw [tab_length]; omega) (ev_pos (by omega) ?_)))))
    rw [Int.toNat_natCast, tab_set]
    refine Ev.congr (fun k => ?_) (ih (n + 1) (by omega))
    congr 1
    apply tab_congr
    intro i hi
    rw [take_snoc' hlt, wordAt_snoc, lp]
    by_cases e : i = n / 64
    · subst e
      rw [if_pos rfl, if_pos rfl]
      have hlt2 := wordAt_lt' (isBits_take hx n) (n / 64) (by rw [lp])
      rw [lp] at hlt2
      have hpow : 2 ^ (n % 64) ≤ 2 ^ 63 := Nat.pow_le_pow_right (by decide) (by omega)
      have es : shl .u64 (IntKind.u64.wrap xs[n]) ((n % 64 : Nat) : Int) = ((2 ^ (n % 64) * xs[n].toNat : Nat) : Int) := by
        have hq : xs[n].toNat * 2 ^ (n % 64) < 2 ^ 64 := by
          generalize 2 ^ (n % 64) = q at *
          rcases hb with hb | hb <;> rw [hb] <;> simp <;> omega
        rw [wraps_u64 _ (by omega) (by omega), show xs[n] = ((xs[n].toNat : Nat) : Int) by omega, shl_u64 _ _ (by omega) hq, Int.toNat_natCast, Nat.mul_comm]
      have hlt3 : 2 ^ (n % 64) * xs[n].toNat < 2 ^ 64 := by
        generalize 2 ^ (n % 64) = q at *
        rcases hb with hb | hb <;> rw [hb] <;> simp <;> omega
      rw [es, u64_or_nat _ _ (by omega) (by omega), Nat.or_comm, ← Nat.two_pow_add_eq_or_of_lt hlt2, Nat.add_comm, Nat.mul_comm]
    · rw [if_neg e, if_neg e]
theorem impl_bitsOf_ev (xs : List Int) (hm : xs.length ≤ 1000000) (hx : isBits xs) : Ev (fun k => impl_bitsOf.f k xs) ((xs.length : Int), wordsOf xs) := by
  unfold impl_bitsOf.f
  have e : wrap64 (Int.tdiv (wrap64 (wrap64 ((xs.length : Int) + 64) - 1)) 64) = (((xs.length + 63) / 64 : Nat) : Int) := by
    rw [w64 (n := (xs.length : Int) + 64) (by omega) (by omega), w64 (n := (xs.length : Int) + 64 - 1) (by omega) (by omega), show (xs.length : Int) + 64 - 1 = ((xs.length + 63 : Nat) : Int) by omega]
    rw [show Int.tdiv ((xs.length + 63 : Nat) : Int) 64 = (((xs.length + 63) / 64 : Nat) : Int) from tdiv_nat (xs.length + 63) 64, w64 (by omega) (by omega)]
  rw [e]
  refine ev_pos (by omega) (ev_pos (by omega) ?_)
  rw [Int.toNat_natCast, tab_zero _ (fun w => ((wordAt (xs.take 0) w : Nat) : Int)) (fun i hi => by simp [wordAt, nb])]
  exact impl_bitsOf_l0 xs hm hx _ xs.length 0 (by omega)
theorem allO_all (p : Int → Option Bool) (q : Int → Bool) (h : ∀ x, p x = some (q x)) (l : List Int) : allO p l = some (l.all q) := by
  induction l with
  | nil => rfl
  | cons x l ih =>
    rw [allO, h x, Option.bind_some]
    cases hq : q x
    · simp [hq]
    · rw [if_pos rfl, ih]; simp [hq]
theorem impl_areAll_PackOf_1_f (l : List Int) (w : Nat) (hw : w ≤ 32) : impl_areAll_PackOf_1.f l (w : Int) = some (l.all (packIn w)) := by
  unfold impl_areAll_PackOf_1.f
  refine allO_all _ _ ?_ l
  intro x
  unfold impl_areAll_PackOf_1.p packIn
  have hp := pow32 hw
  rw [if_pos (by omega), impl_within_f, shl_i64 _ _ (by omega), Int.one_mul]
  generalize 2 ^ w = q at *
  rw [w64 (n := (q : Int)) (by omega) (by omega), w64 (by omega) (by omega)]
  congr 1
  rw [decide_eq_decide]; omega
theorem impl_PackOf_l0 (xs : List Int) (w : Nat) (hw : w ≤ 32) (hm : xs.length ≤ 5000) (hmw : xs.length * w ≤ 5000) (hall : xs.all (packIn w) = true) : ∀ (d n : Nat) (acc : List Int), n + d = xs.length → acc.length = n * w → isBits acc → Ev (fun k => impl_PackOf.l0 k xs acc xs (xs.length : Int) (n : Int) (w : Int)) (packGood w xs (acc ++ digAll w (xs.drop n))) := by
  intro d
  induction d with
  | zero =>
    intro n acc hn ha hb
    have hnx : n = xs.length := by omega
    have hal : acc.length ≤ 5000 := by rw [ha, hnx]; exact hmw
    refine Ev.step (fun k => by rw [impl_PackOf.l0]) (ev_neg (by omega) ?_)
    rw [List.drop_eq_nil_of_le (by omega), digAll, List.append_nil]
    exact ev_bind (impl_bitsOf_ev acc (by omega) hb) (ev_now _)
  | succ d ih =>
    intro n acc hn ha hb
    have hlt : n < xs.length := by omega
    have hnw : n * w ≤ xs.length * w := Nat.mul_le_mul_right w (by omega)
    have hx := of_decide_eq_true (List.all_eq_true.1 hall _ (List.getElem_mem hlt))
    have hp := pow32 hw
    refine Ev.step (fun k => by rw [impl_PackOf.l0]) (ev_pos (by omega) (ev_pos (by omega) (ev_pos (by omega) ?_)))
    rw [rd_lt hlt, List.drop_eq_getElem_cons hlt, digAll, ← List.append_assoc, w64 (by omega) (by omega)]
    refine ev_bind (impl_digits_ev w hw xs[n] (by omega)) (ev_pos (by rw [digs_length]; omega) ?_)
    refine ih (n + 1) (acc ++ digs w xs[n]) (by omega) (by rw [List.length_append, digs_length, ha, Nat.succ_mul]) ?_
    intro b hb'
    rcases List.mem_append.1 hb' with h | h
    · exact hb b h
    · exact digs_bits w _ b h
theorem impl_PackOf_ev (xs : List Int) (a : Int) (hm : xs.length ≤ 1048576) : Ev (fun k => impl_PackOf.f k xs a) (packOfR xs a) := by
  unfold impl_PackOf.f packOfR
  have bad : Ev (fun k => impl_PackOf.j0 k xs true a) (0, 0, 0, [], false) := by
    refine Ev.step (fun k => by rw [impl_PackOf.j0]) ?_
    exact ev_pos rfl (ev_now _)
  refine ev_some (impl_within_f a 0 32) (ev_ite (fun h => ?_) (fun h => ?_))
  · have h := of_decide_eq_true h
    refine ev_ite (fun h2 => ?_) (fun h2 => ?_)
    · rw [if_neg (by omega)]; exact bad
    · obtain ⟨w, rfl⟩ : ∃ w : Nat, a = (w : Int) := ⟨a.toNat, by omega⟩
      have hmul : xs.length * w ≤ 5000 * 32 := Nat.mul_le_mul (by omega) (by omega)
      rw [Int.toNat_natCast, ← Int.natCast_mul, w64 (by omega) (by omega)]
      refine ev_ite (fun h3 => ?_) (fun h3 => ev_some (impl_areAll_PackOf_1_f xs w (by omega)) ?_)
      · rw [if_neg (by omega)]; exact bad
      · cases h4 : xs.all (packIn w)
        · rw [if_neg (fun g => absurd g.2.2.2.2 (by decide))]; exact bad
        · rw [if_pos ⟨by omega, by omega, by omega, by omega, rfl⟩]
          refine Ev.step (fun k => by rw [impl_PackOf.j0]) (ev_neg (by decide) ?_)
          have h := impl_PackOf_l0 xs w (by omega) (by omega) (by omega) h4 xs.length 0 [] (by omega) (by simp) (fun b hb => by simp at hb)
          rw [List.drop_zero, List.nil_append] at h
          exact h
  · have h' : ¬ (0 ≤ a ∧ a ≤ 32) := fun g => h (decide_eq_true g)
    rw [if_neg (by omega)]; exact bad
theorem cmp_Less_f (a b : Int) : cmp_Less_int.f a b = some (decide (a < b)) := by
  unfold cmp_Less_int.f cmp_isNaN_int.f
  simp
def ascAt (xs : List Int) (i : Nat) : Prop := 0 < i → rd xs ((i - 1 : Nat) : Int) ≤ rd xs (i : Int)
theorem slices_IsSorted_l0 (xs : List Int) (hm : xs.length ≤ 1048576) : ∀ j : Nat, j < xs.length → ((∀ i, i ≤ j → ascAt xs i) → Ev (fun k => slices_IsSorted_int_int.l0 k xs (j : Int)) true) ∧ ((¬ ∀ i, i ≤ j → ascAt xs i) → Ev (fun k => slices_IsSorted_int_int.l0 k xs (j : Int)) false) := by
  intro j
  induction j with
  | zero =>
    intro hj
    refine ⟨fun _ => Ev.step (fun k => by rw [slices_IsSorted_int_int.l0]) (ev_neg (by omega) (ev_now _)), fun h => absurd (fun i hi => ?_) h⟩
    intro g; omega
  | succ j ih =>
    intro hj
    obtain ⟨ih1, ih2⟩ := ih (by omega)
    have e : wrap64 (((j + 1 : Nat) : Int) - 1) = (j : Int) := by rw [w64 (by omega) (by omega)]; omega
    constructor
    · intro h
      have hx := h (j + 1) (Nat.le_refl _) (by omega)
      rw [Nat.add_sub_cancel] at hx
      refine Ev.step (fun k => by rw [slices_IsSorted_int_int.l0]) (ev_pos (by omega) (ev_pos (by omega) (ev_pos (by omega) ?_)))
      rw [e]
      refine ev_pos (by omega) (ev_pos (by omega) (ev_some (cmp_Less_f _ _) ?_))
      refine ev_neg (by rw [decide_eq_true_eq]; omega) ?_
      exact ih1 (fun i hi => h i (by omega))
    · intro h
      refine Ev.step (fun k => by rw [slices_IsSorted_int_int.l0]) (ev_pos (by omega) (ev_pos (by omega) (ev_pos (by omega) ?_)))
      rw [e]
      refine ev_pos (by omega) (ev_pos (by omega) (ev_some (cmp_Less_f _ _) ?_))
      refine ev_ite (fun _ => ev_now _) (fun g => ?_)
      rw [decide_eq_true_eq] at g
      refine ih2 (fun hall => h (fun i hi => ?_))
      rcases Nat.lt_or_ge j i with q | q
      · have : i = j + 1 := by omega
        subst this
        intro _
        rw [Nat.add_sub_cancel]; omega
      · exact hall i q
theorem slices_IsSorted_ev (xs : List Int) (hm : xs.length ≤ 1048576) : ((∀ i, i < xs.length → ascAt xs i) → Ev (fun k => slices_IsSorted_int_int.f k xs) true) ∧ ((¬ ∀ i, i < xs.length → ascAt xs i) → Ev (fun k => slices_IsSorted_int_int.f k xs) false) := by
  unfold slices_IsSorted_int_int.f
  rcases Nat.eq_zero_or_pos xs.length with h0 | h0
  · refine ⟨fun _ => ?_, fun h => absurd (fun i hi => by omega) h⟩
    rw [w64 (by omega) (by omega)]
    exact Ev.step (fun k => by rw [slices_IsSorted_int_int.l0]) (ev_neg (by omega) (ev_now _))
  · have e : wrap64 ((xs.length : Int) - 1) = ((xs.length - 1 : Nat) : Int) := by rw [w64 (by omega) (by omega)]; omega
    rw [e]
    obtain ⟨h1, h2⟩ := slices_IsSorted_l0 xs hm (xs.length - 1) (by omega)
    exact ⟨fun h => h1 (fun i hi => h i (by omega)), fun h => h2 (fun g => h (fun i hi => g i (by omega)))⟩
theorem impl_WidthOf_f (n : Nat) (h : n < 2 ^ 63) : impl_WidthOf.f (n : Int) = some ((Go.Lib.bitLen n : Nat) : Int) := by
  unfold impl_WidthOf.f bits_Len.f bits_Len64.f
  rw [if_neg (by omega), wraps_u64 _ (by omega) (by omega), if_pos ⟨by omega, by omega⟩, Int.toNat_natCast]
  rfl
theorem impl_lowWidth_f (n u : Nat) (hu : u ≤ 1000000) : impl_lowWidth.f (u : Int) (n : Int) = some ((widthR n u : Nat) : Int) := by
  unfold impl_lowWidth.f widthR
  have hd := div_million u n hu
  have hb := bl_million _ hd
  by_cases h : n = 0
  · rw [if_pos (by omega), if_pos h]; rfl
  · rw [if_neg (by omega), if_neg h, tdiv_nat, w64_nat (u / n) (by omega), impl_WidthOf_f (u / n) (by omega)]
    show some (mx (wrap64 (((Go.Lib.bitLen (u / n) : Nat) : Int) - 1)) 0) = _
    generalize Go.Lib.bitLen (u / n) = t at *
    rw [w64 (by omega) (by omega)]
    unfold mx
    congr 1
    split <;> omega
theorem impl_areAll_SparseOf_1_f (l : List Int) (u : Int) (h0 : 0 ≤ u) (hu : u ≤ 1000000) : impl_areAll_SparseOf_1.f l u = some (l.all fun x => decide (0 ≤ x ∧ x < u)) := by
  unfold impl_areAll_SparseOf_1.f
  refine allO_all _ _ ?_ l
  intro x
  unfold impl_areAll_SparseOf_1.p
  rw [impl_within_f, w64 (by omega) (by omega)]
  congr 1
  rw [decide_eq_decide]; omega
theorem shr_i64 (x : Int) (w : Nat) (hw : w ≤ 63) : shr .i64 x (w : Int) = x / ((2 ^ w : Nat) : Int) := by
  unfold shr
  rw [Int.toNat_natCast, Nat.min_eq_left (by simp [IntKind.bits]; omega), show ((2 : Int) ^ w) = ((2 ^ w : Nat) : Int) by simp]
theorem pow19 {w : Nat} (h : w ≤ 19) : 2 ^ w ≤ 524288 := Nat.le_trans (Nat.pow_le_pow_right (by decide) h) (by decide)
theorem low_and (x : Int) (w : Nat) (hw : w ≤ 19) (h0 : 0 ≤ x) (h1 : x ≤ 1000000) : Go.bits .and .i64 x (wrap64 ((shl .i64 1 (w : Int)) - 1)) = x % ((2 ^ w : Nat) : Int) := by
  have hp := pow19 hw
  have hp0 : 0 < 2 ^ w := Nat.pos_of_ne_zero (by simp)
  rw [shl_i64 _ _ (by omega), Int.one_mul]
  obtain ⟨a, rfl⟩ : ∃ a : Nat, x = (a : Int) := ⟨x.toNat, by omega⟩
  rw [w64 (n := ((2 ^ w : Nat) : Int)) (by omega) (by omega), w64 (by omega) (by omega), show ((2 ^ w : Nat) : Int) - 1 = ((2 ^ w - 1 : Nat) : Int) by omega, and_i64 a (2 ^ w - 1) (by omega) (by omega), Nat.and_two_pow_sub_one_eq_mod]
  rfl
theorem impl_SparseOf_l2 (xs : List Int) (u w : Nat) (hu : u ≤ 1000000) (hw : w ≤ 19) (q : Nat) (hq : q = u / 2 ^ w) (hm : xs.length + q + 1 ≤ 5000) (low F : List Int) (hl : low.length = xs.length) (hFb : isBits F) (hFl : F.length = xs.length + q + 1) :
    ∀ (d b : Nat) (high : List Int), b + d = q + 1 → high.length = xs.length + b → high ++ spCode ((2 ^ w : Nat) : Int) d [] (b : Int) = F → Ev (fun k => impl_SparseOf.l2 k xs (w : Int) low high (u : Int)) (spFin (u : Int) (xs.length : Int) (w : Int) low F) := by
  have hqs : shr .i64 (u : Int) (w : Int) = (q : Int) := by rw [shr_i64 _ _ (by omega), hq]; rfl
  intro d
  induction d with
  | zero =>
    intro b high hb hh hF
    have e : high = F := by rw [← hF, spCode, List.append_nil]
    subst e
    refine Ev.step (fun k => by rw [impl_SparseOf.l2]) (ev_pos (by omega) ?_)
    rw [hqs, w64 (by omega) (by omega)]
    refine ev_neg (by omega) (ev_bind (impl_PackOf_ev low (w : Int) (by omega)) ?_)
    unfold spFin
    have hbo : bitsOfR high = ((high.length : Int), wordsOf high, true) := by
      unfold bitsOfR
      rw [if_pos]
      rw [decide_eq_true (by omega : high.length ≤ 5000), Bool.true_and]
      exact List.all_eq_true.2 fun x hx => decide_eq_true (hFb x hx)
    rw [hbo]
    refine ev_ite (fun h => ?_) (fun h => ?_)
    · rw [if_pos h, if_pos rfl]
      exact ev_bind (impl_bitsOf_ev high (by omega) hFb) (ev_now _)
    · rw [if_neg h]; exact ev_now _
  | succ d ih =>
    intro b high hb hh hF
    refine Ev.step (fun k => by rw [impl_SparseOf.l2]) (ev_pos (by omega) ?_)
    rw [hqs, w64 (by omega) (by omega)]
    refine ev_pos (by omega) (ev_some rfl (ev_pos (by simp; omega) ?_))
    refine ih (b + 1) _ (by omega) (by rw [List.length_append, hh]; simp; omega) ?_
    rw [← hF, spCode, List.append_assoc]; rfl
theorem impl_SparseOf_l (xs : List Int) (u w : Nat) (hu : u ≤ 1000000) (hw : w ≤ 19) (q : Nat) (hq : q = u / 2 ^ w) (hm : xs.length + q + 1 ≤ 5000) (ok : ∀ i, i < xs.length → spOk xs (u : Int) i) (F : List Int) (hFb : isBits F) (hFl : F.length = xs.length + q + 1) :
    ∀ d : Nat, (∀ (i b : Nat) (low high : List Int), i < xs.length → i + b + d = xs.length + q + 1 → (b : Int) ≤ rd xs (i : Int) / ((2 ^ w : Nat) : Int) → low = (xs.take i).map (fun x => x % ((2 ^ w : Nat) : Int)) → high.length = i + b → high ++ spCode ((2 ^ w : Nat) : Int) d (xs.drop i) (b : Int) = F → Ev (fun k => impl_SparseOf.l1 k xs (w : Int) low high (rd xs (i : Int)) xs (xs.length : Int) (i : Int) (u : Int)) (spFin (u : Int) (xs.length : Int) (w : Int) (xs.map fun x => x % ((2 ^ w : Nat) : Int)) F))
      ∧ (∀ (i b : Nat) (low high : List Int), i ≤ xs.length → i + b + d = xs.length + q + 1 → (i < xs.length → (b : Int) ≤ rd xs (i : Int) / ((2 ^ w : Nat) : Int)) → low = (xs.take i).map (fun x => x % ((2 ^ w : Nat) : Int)) → high.length = i + b → high ++ spCode ((2 ^ w : Nat) : Int) d (xs.drop i) (b : Int) = F → Ev (fun k => impl_SparseOf.l0 k xs (w : Int) low high xs (xs.length : Int) (i : Int) (u : Int)) (spFin (u : Int) (xs.length : Int) (w : Int) (xs.map fun x => x % ((2 ^ w : Nat) : Int)) F)) := by
  have hp0 : 0 < 2 ^ w := Nat.pos_of_ne_zero (by simp)
  have hle : ∀ i, i < xs.length → rd xs (i : Int) / ((2 ^ w : Nat) : Int) ≤ (q : Int) := by
    intro i hi
    have h := (ok i hi).2.1
    have := Int.ediv_le_ediv (a := rd xs (i : Int)) (b := (u : Int)) (c := ((2 ^ w : Nat) : Int)) (by omega) (by omega)
    rw [show (u : Int) / ((2 ^ w : Nat) : Int) = (q : Int) by rw [hq]; rfl] at this
    exact this
  have hand : ∀ i, i < xs.length → Go.bits .and .i64 (rd xs (i : Int)) (wrap64 ((shl .i64 1 (w : Int)) - 1)) = rd xs (i : Int) % ((2 ^ w : Nat) : Int) := fun i hi => low_and _ w hw (ok i hi).1 (by have := (ok i hi).2.1; omega)
  have hshr : ∀ i : Nat, shr .i64 (rd xs (i : Int)) (w : Int) = rd xs (i : Int) / ((2 ^ w : Nat) : Int) := fun i => shr_i64 _ _ (by omega)
  have hasc : ∀ i, i + 1 < xs.length → rd xs (i : Int) / ((2 ^ w : Nat) : Int) ≤ rd xs ((i + 1 : Nat) : Int) / ((2 ^ w : Nat) : Int) := by
    intro i hi
    have h2 := (ok (i + 1) hi).2.2 (by omega)
    rw [Nat.add_sub_cancel] at h2
    exact Int.ediv_le_ediv (by omega) h2
  generalize hP : ((2 ^ w : Nat) : Int) = P at *
  have L1of : ∀ d, (∀ (i b : Nat) (low high : List Int), i ≤ xs.length → i + b + d = xs.length + q + 1 → (i < xs.length → (b : Int) ≤ rd xs (i : Int) / P) → low = (xs.take i).map (fun x => x % P) → high.length = i + b → high ++ spCode P d (xs.drop i) (b : Int) = F → i < xs.length → Ev (fun k => impl_SparseOf.l1 k xs (w : Int) low high (rd xs (i : Int)) xs (xs.length : Int) (i : Int) (u : Int)) (spFin (u : Int) (xs.length : Int) (w : Int) (xs.map fun x => x % P) F)) →
      (∀ (i b : Nat) (low high : List Int), i ≤ xs.length → i + b + d = xs.length + q + 1 → (i < xs.length → (b : Int) ≤ rd xs (i : Int) / P) → low = (xs.take i).map (fun x => x % P) → high.length = i + b → high ++ spCode P d (xs.drop i) (b : Int) = F → Ev (fun k => impl_SparseOf.l0 k xs (w : Int) low high xs (xs.length : Int) (i : Int) (u : Int)) (spFin (u : Int) (xs.length : Int) (w : Int) (xs.map fun x => x % P) F)) := by
    intro d h1 i b low high hi hd hlt hlow hhigh hF
    by_cases hin : i < xs.length
    · refine Ev.step (fun k => by rw [impl_SparseOf.l0]) (ev_pos (by omega) (ev_pos (by omega) (ev_pos (by omega) ?_)))
      exact h1 i b low high hi hd hlt hlow hhigh hF hin
    · have ei : i = xs.length := by omega
      subst ei
      rw [List.take_length] at hlow
      rw [List.drop_length] at hF
      refine Ev.step (fun k => by rw [impl_SparseOf.l0]) (ev_neg (by omega) ?_)
      rw [← hlow]
      exact impl_SparseOf_l2 xs u w hu hw q hq hm low F (by rw [hlow, List.length_map]) hFb hFl d b high (by omega) hhigh (by rw [hP]; exact hF)
  intro d
  induction d with
  | zero =>
    have z : ∀ (i b : Nat) (low high : List Int), i < xs.length → i + b + 0 = xs.length + q + 1 → (b : Int) ≤ rd xs (i : Int) / P → low = (xs.take i).map (fun x => x % P) → high.length = i + b → high ++ spCode P 0 (xs.drop i) (b : Int) = F → Ev (fun k => impl_SparseOf.l1 k xs (w : Int) low high (rd xs (i : Int)) xs (xs.length : Int) (i : Int) (u : Int)) (spFin (u : Int) (xs.length : Int) (w : Int) (xs.map fun x => x % P) F) := by
      intro i b low high hi hd hb
      have := hle i hi
      omega
    exact ⟨z, L1of 0 (fun i b low high _ hd hlt a1 a2 a3 hin => z i b low high hin hd (hlt hin) a1 a2 a3)⟩
  | succ d ih =>
    obtain ⟨ih1, ih0⟩ := ih
    have H1 : ∀ (i b : Nat) (low high : List Int), i < xs.length → i + b + (d + 1) = xs.length + q + 1 → (b : Int) ≤ rd xs (i : Int) / P → low = (xs.take i).map (fun x => x % P) → high.length = i + b → high ++ spCode P (d + 1) (xs.drop i) (b : Int) = F → Ev (fun k => impl_SparseOf.l1 k xs (w : Int) low high (rd xs (i : Int)) xs (xs.length : Int) (i : Int) (u : Int)) (spFin (u : Int) (xs.length : Int) (w : Int) (xs.map fun x => x % P) F) := by
      intro i b low high hin hd hb hlow hhigh hF
      have hll : low.length = i := by rw [hlow, List.length_map, List.length_take]; omega
      have hrd : rd xs (i : Int) = xs[i] := rd_lt hin
      have hdr : xs.drop i = xs[i] :: xs.drop (i + 1) := List.drop_eq_getElem_cons hin
      have hxq := hle i hin
      refine Ev.step (fun k => by rw [impl_SparseOf.l1]) (ev_pos (by omega) ?_)
      rw [hshr i, w64 (by omega) (by omega)]
      refine ev_ite (fun h => ?_) (fun h => ?_)
      · refine ev_some rfl (ev_pos (by simp; omega) ?_)
        refine ih1 i (b + 1) _ _ hin (by omega) (by omega) hlow (by rw [List.length_append, hhigh]; simp; omega) ?_
        rw [← hF, hdr, spCode, if_neg (by rw [← hrd]; omega), List.append_assoc]; rfl
      · refine ev_some rfl (ev_pos (by simp; omega) (ev_some rfl (ev_pos (by simp; omega) ?_)))
        rw [hand i hin, w64 (n := (i : Int) + 1) (by omega) (by omega)]
        refine ih0 (i + 1) b _ _ (by omega) (by omega) (fun h1 => ?_) ?_ (by rw [List.length_append, hhigh]; simp; omega) ?_
        · have := hasc i h1; omega
        · rw [hlow, take_snoc' hin, List.map_append, hrd]; rfl
        · rw [← hF, hdr, spCode, if_pos (by rw [← hrd]; omega), List.append_assoc]; rfl
    exact ⟨H1, L1of (d + 1) (fun i b low high _ hd hlt a1 a2 a3 hin => H1 i b low high hin hd (hlt hin) a1 a2 a3)⟩
theorem impl_SparseOf_j0 (xs : List Int) (u : Nat) (hm : xs.length ≤ 1048576) (hu : u ≤ 1000000) (ok : ∀ i, i < xs.length → spOk xs (u : Int) i) : Ev (fun k => impl_SparseOf.j0 k xs false (u : Int)) (spR xs u) := by
  refine Ev.step (fun k => by rw [impl_SparseOf.j0]) (ev_neg (by decide) (ev_some (impl_lowWidth_f xs.length u hu) ?_))
  have hw := widthR_le xs.length u hu
  unfold spR
  generalize widthR xs.length u = w at *
  have hq := Nat.div_le_self u (2 ^ w)
  rw [shr_i64 _ _ (by omega), show (u : Int) / ((2 ^ w : Nat) : Int) = ((u / 2 ^ w : Nat) : Int) from rfl]
  refine ev_pos (by omega) ?_
  generalize hqq : u / 2 ^ w = q at *
  rw [w64 (n := (xs.length : Int) + (q : Int)) (by omega) (by omega), w64 (by omega) (by omega)]
  refine ev_ite (fun g => ?_) (fun g => ?_)
  · rw [if_neg (by omega)]; exact ev_now _
  · rw [if_pos (by omega)]
    have key := (impl_SparseOf_l xs u w hu hw q hqq.symm (by omega) ok (spCode ((2 ^ w : Nat) : Int) (xs.length + q + 1) xs 0) (spCode_bits _ _ _ _) (spCode_length _ _ _ _) (xs.length + q + 1)).2 0 0 [] [] (by omega) (by omega) (fun hin => Int.ediv_nonneg (ok 0 hin).1 (Int.natCast_nonneg _)) rfl rfl rfl
    exact key
theorem impl_SparseOf_bad (xs : List Int) (u : Int) (hm : xs.length ≤ 1048576) (h : ¬ spGood xs u) : Ev (fun k => impl_SparseOf.f k xs u) spBad := by
  have bad : Ev (fun k => impl_SparseOf.j0 k xs true u) spBad := by
    refine Ev.step (fun k => by rw [impl_SparseOf.j0]) ?_
    exact ev_pos rfl (ev_now _)
  unfold impl_SparseOf.f
  refine ev_some (impl_within_f u 0 1000000) (ev_ite (fun h0 => ?_) (fun h0 => bad))
  rw [decide_eq_true_eq] at h0
  obtain ⟨s1, s2⟩ := slices_IsSorted_ev xs hm
  by_cases hs : ∀ i, i < xs.length → ascAt xs i
  · refine ev_bind (s1 hs) (ev_pos rfl (ev_some (impl_areAll_SparseOf_1_f xs u h0.1 h0.2) ?_))
    by_cases ha : (xs.all fun x => decide (0 ≤ x ∧ x < u)) = true
    · have ok : ∀ i, i < xs.length → spOk xs u i := by
        intro i hi
        have := of_decide_eq_true (List.all_eq_true.1 ha xs[i] (List.getElem_mem hi))
        exact ⟨by rw [rd_lt hi]; exact this.1, by rw [rd_lt hi]; exact this.2, hs i hi⟩
      have hlen : ¬ xs.length ≤ 5000 := fun g => h ⟨h0.1, h0.2, g, ok⟩
      rw [ha]
      obtain ⟨v, rfl⟩ : ∃ v : Nat, u = (v : Int) := ⟨u.toNat, by omega⟩
      refine ev_eq (impl_SparseOf_j0 xs v hm (by omega) ok) ?_
      unfold spR
      generalize v / 2 ^ widthR xs.length v = q
      rw [if_neg (by omega)]
    · rw [Bool.eq_false_iff.2 ha]; exact bad
  · exact ev_bind (s2 hs) (ev_neg (by decide) bad)
theorem impl_SparseOf_good (xs : List Int) (u : Nat) (h : spGood xs (u : Int)) : Ev (fun k => impl_SparseOf.f k xs (u : Int)) (spR xs u) := by
  obtain ⟨_, hu, hm, ok⟩ := h
  unfold impl_SparseOf.f
  refine ev_some (impl_within_f _ 0 1000000) (ev_pos (by rw [decide_eq_true_eq]; omega) ?_)
  refine ev_bind ((slices_IsSorted_ev xs (by omega)).1 (fun i hi => (ok i hi).2.2)) (ev_pos rfl (ev_some (impl_areAll_SparseOf_1_f xs u (by omega) (by omega)) ?_))
  have ha : (xs.all fun x => decide (0 ≤ x ∧ x < (u : Int))) = true := by
    rw [List.all_eq_true]
    intro x hx
    obtain ⟨i, hi, rfl⟩ := List.getElem_of_mem hx
    have := ok i hi
    exact decide_eq_true ⟨by rw [← rd_lt hi]; exact this.1, by rw [← rd_lt hi]; exact this.2.1⟩
  rw [ha]
  exact impl_SparseOf_j0 xs u (by omega) (by omega) ok
theorem laws_eqUint64S_l0 (xs ys : List Int) (hl : xs.length = ys.length) (hm : xs.length ≤ 140737488355328) : ∀ (d n : Nat), n + d = xs.length → Ev (fun k => laws_eqUint64S.l0 k xs ys (n : Int)) (decide (xs.drop n = ys.drop n)) := by
  intro d
  induction d with
  | zero =>
    intro n hn
    refine Ev.step (fun k => by rw [laws_eqUint64S.l0]) ?_
    refine ev_neg (by omega) (ev_now' ?_)
    rw [List.drop_eq_nil_of_le (by omega), List.drop_eq_nil_of_le (by omega)]; rfl
  | succ d ih =>
    intro n hn
    refine Ev.step (fun k => by rw [laws_eqUint64S.l0]) ?_
    refine ev_pos (by omega) (ev_pos (by omega) (ev_pos (by omega) ?_))
    rw [rd_lt (by omega), rd_lt (by omega), w64 (by omega) (by omega)]
    rw [List.drop_eq_getElem_cons (show n < xs.length by omega), List.drop_eq_getElem_cons (show n < ys.length by omega)]
    refine ev_ite (fun h => ev_eq (ih (n + 1) (by omega)) ?_) (fun h => ev_now' ?_)
    · simp only [List.cons.injEq, h, true_and]
    · exact (decide_eq_false (fun e => h (List.cons.inj e).1)).symm
theorem laws_eqUint64S_ev (xs ys : List Int) (hm : xs.length ≤ 140737488355328) : Ev (fun k => laws_eqUint64S.f k xs ys) (decide (xs = ys)) := by
  unfold laws_eqUint64S.f
  refine ev_ite (fun h => ?_) (fun h => ev_now' ?_)
  · exact laws_eqUint64S_l0 xs ys (by omega) hm xs.length 0 (by omega)
  · exact (decide_eq_false (fun e => h (by rw [e]))).symm
theorem laws_eqBits_ev (a : Int) (l : List Int) (b : Int) (m : List Int) (hm : l.length ≤ 140737488355328) : Ev (fun k => laws_eqBits.f k a l b m) (decide (a = b ∧ l = m)) := by
  unfold laws_eqBits.f
  refine ev_ite (fun h => ev_bind (laws_eqUint64S_ev l m hm) (ev_ite (fun h' => ev_now' ?_) (fun h' => ev_now' ?_))) (fun h => ev_now' ?_)
  · simp at h'; simp [h, h']
  · simp at h'; simp [h']
  · simp [h]
theorem laws_eqPacked_ev (a b c : Int) (l : List Int) (hm : l.length ≤ 140737488355328) : Ev (fun k => laws_eqPacked.f k a b c l a b c l) true := by
  unfold laws_eqPacked.f
  exact ev_pos rfl (ev_pos rfl (ev_bind (laws_eqBits_ev c l c l hm) (ev_pos (by simp) (ev_now _))))
theorem laws_eqSparse_ev (a b c d e : Int) (l : List Int) (f : Int) (m : List Int) (hl : l.length ≤ 1000) (hm : m.length ≤ 1000) : Ev (fun k => laws_eqSparse.f k a b c d e l f m a b c d e l f m) true := by
  unfold laws_eqSparse.f
  exact ev_pos rfl (ev_pos rfl (ev_bind (laws_eqPacked_ev c d e l (by omega)) (ev_pos rfl (ev_bind (ev_eq (s := decide (f = f ∧ m = m)) (laws_eqBits_ev f m f m (by omega)) (r := true) (by simp)) (ev_pos rfl (ev_now _))))))
theorem laws_markUint64S_l0 (xs : List Int) (a : Nat) (hm : a + xs.length ≤ 1099511627776) : ∀ (d n : Nat), n + d = xs.length → Ev (fun k => laws_markUint64S.l0 k (marked (fun x => IntKind.u64.wrap x) n a ++ xs.drop n) ((a + n : Nat) : Int) (n : Int)) (((a + xs.length : Nat) : Int), marked (fun x => IntKind.u64.wrap x) xs.length a) := by
  intro d
  induction d with
  | zero =>
    intro n hn
    have e : n = xs.length := by omega
    subst e
    refine Ev.step (fun k => by rw [laws_markUint64S.l0]) ?_
    refine ev_neg (by simp [marked_length]) (ev_now' ?_)
    rw [List.drop_length, List.append_nil]
  | succ d ih =>
    intro n hn
    refine Ev.step (fun k => by rw [laws_markUint64S.l0]) ?_
    refine ev_pos (by simp [marked_length]; omega) (ev_pos (by omega) ?_)
    rw [w64 (by omega) (by omega), w64 (by omega) (by omega), Int.toNat_natCast]
    have e := set_mark (c := (fun x => IntKind.u64.wrap x)) (a := a) (show n < xs.length by omega)
    rw [show (IntKind.u64.wrap ((a + n : Nat) : Int)) = (fun x => IntKind.u64.wrap x) ((a + n : Nat) : Int) from rfl, e]
    exact ih (n + 1) (by omega)
theorem laws_markUint64S_ev (xs : List Int) (a : Nat) (hm : a + xs.length ≤ 1099511627776) : Ev (fun k => laws_markUint64S.f k xs (a : Int)) (((a + xs.length : Nat) : Int), marked (fun x => IntKind.u64.wrap x) xs.length a) := by
  unfold laws_markUint64S.f
  have h := laws_markUint64S_l0 xs a hm xs.length 0 (by omega)
  simpa [marked] using h
theorem laws_markBits_ev (x : Int) (xs : List Int) (a : Nat) (hm : a + xs.length ≤ 1099511627776) : Ev (fun k => laws_markBits.f k x xs (a : Int)) (((a + xs.length : Nat) : Int), marked (fun x => IntKind.u64.wrap x) xs.length a) := by
  unfold laws_markBits.f
  exact ev_bind (laws_markUint64S_ev xs a hm) (ev_now _)
theorem laws_markPacked_ev (x y z : Int) (xs : List Int) (a : Nat) (hm : a + xs.length ≤ 1099511627776) : Ev (fun k => laws_markPacked.f k x y z xs (a : Int)) (((a + xs.length : Nat) : Int), marked (fun x => IntKind.u64.wrap x) xs.length a) := by
  unfold laws_markPacked.f
  exact ev_bind (laws_markBits_ev z xs a hm) (ev_now _)
theorem laws_markSparse_ev (a b c d e : Int) (l : List Int) (f : Int) (m : List Int) (n : Nat) (hm : n + l.length + m.length ≤ 1099511627776) : Ev (fun k => laws_markSparse.f k a b c d e l f m (n : Int)) (((n + l.length + m.length : Nat) : Int), marked (fun x => IntKind.u64.wrap x) l.length n, marked (fun x => IntKind.u64.wrap x) m.length (n + l.length)) := by
  unfold laws_markSparse.f
  exact ev_bind (laws_markPacked_ev c d e l n (by omega)) (ev_bind (laws_markBits_ev f m (n + l.length) (by omega)) (ev_now _))
theorem laws_heldUint64S_l0 (m a : Nat) (hm : a + m ≤ 1099511627776) : ∀ (d n : Nat), n + d = m → Ev (fun k => laws_heldUint64S.l0 k (marked (fun x => IntKind.u64.wrap x) m a) ((a + n : Nat) : Int) (n : Int)) ((a + m : Nat) : Int) := by
  intro d
  induction d with
  | zero =>
    intro n hn
    have e : n = m := by omega
    subst e
    refine Ev.step (fun k => by rw [laws_heldUint64S.l0]) ?_
    exact ev_neg (by simp [marked_length]) (ev_now _)
  | succ d ih =>
    intro n hn
    refine Ev.step (fun k => by rw [laws_heldUint64S.l0]) ?_
    refine ev_pos (by rw [marked_length]; omega) (ev_pos (by omega) ?_)
    rw [rd_lt (by rw [marked_length]; omega), marked_get _ _ _ _ (by omega), w64 (by omega) (by omega), w64 (by omega) (by omega)]
    exact ev_pos rfl (ih (n + 1) (by omega))
theorem laws_heldUint64S_ev (m a : Nat) (hm : a + m ≤ 1099511627776) : Ev (fun k => laws_heldUint64S.f k (marked (fun x => IntKind.u64.wrap x) m a) (a : Int)) ((a + m : Nat) : Int) := by
  unfold laws_heldUint64S.f
  exact laws_heldUint64S_l0 m a hm m 0 (by omega)
theorem laws_heldBits_ev (x : Int) (m a : Nat) (hm : a + m ≤ 1099511627776) : Ev (fun k => laws_heldBits.f k x (marked (fun x => IntKind.u64.wrap x) m a) (a : Int)) ((a + m : Nat) : Int) := by
  unfold laws_heldBits.f
  exact ev_bind (laws_heldUint64S_ev m a hm) (ev_neg (by omega) (ev_now _))
theorem laws_heldPacked_ev (x y z : Int) (m a : Nat) (hm : a + m ≤ 1099511627776) : Ev (fun k => laws_heldPacked.f k x y z (marked (fun x => IntKind.u64.wrap x) m a) (a : Int)) ((a + m : Nat) : Int) := by
  unfold laws_heldPacked.f
  exact ev_bind (laws_heldBits_ev z m a hm) (ev_neg (by omega) (ev_now _))
theorem laws_heldSparse_ev (a b c d e f : Int) (l m n : Nat) (hm : n + l + m ≤ 1099511627776) : Ev (fun k => laws_heldSparse.f k a b c d e (marked (fun x => IntKind.u64.wrap x) l n) f (marked (fun x => IntKind.u64.wrap x) m (n + l)) (n : Int)) ((n + l + m : Nat) : Int) := by
  unfold laws_heldSparse.f
  exact ev_bind (laws_heldPacked_ev c d e l n (by omega)) (ev_neg (by omega) (ev_bind (laws_heldBits_ev f m (n + l) (by omega)) (ev_neg (by omega) (ev_now _))))

theorem bitsOfR_length (xs : List Int) : (bitsOfR xs).2.1.length ≤ 100 := by
  unfold bitsOfR
  split
  · rename_i h
    rw [Bool.and_eq_true, decide_eq_true_eq] at h
    show (wordsOf xs).length ≤ 100
    rw [wordsOf_length]; have := h.1; omega
  · simp
theorem spFin_length (u n w : Int) (low high : List Int) : (spFin u n w low high).2.2.2.2.2.1.length ≤ 100 ∧ (spFin u n w low high).2.2.2.2.2.2.2.1.length ≤ 100 := by
  unfold spFin
  split
  · split
    · exact ⟨packOfR_length _ _, bitsOfR_length _⟩
    · simp [spBad]
  · simp [spBad]
theorem sparse_both (xs : List Int) (u : Int) (hm : xs.length ≤ 1048576) : ∃ R : Sp, Ev (fun k => spec_SparseOf.f k xs u) R ∧ Ev (fun k => impl_SparseOf.f k xs u) R ∧ R.2.2.2.2.2.1.length ≤ 100 ∧ R.2.2.2.2.2.2.2.1.length ≤ 100 := by
  by_cases h : spGood xs u
  · obtain ⟨v, rfl⟩ : ∃ v : Nat, u = (v : Int) := ⟨u.toNat, by have := h.1; omega⟩
    refine ⟨spR xs v, spec_SparseOf_good xs v h, impl_SparseOf_good xs v h, ?_⟩
    unfold spR
    split
    · exact spFin_length _ _ _ _ _
    · simp [spBad]
  · exact ⟨spBad, spec_SparseOf_bad xs u hm h, impl_SparseOf_bad xs u hm h, by simp [spBad]⟩
theorem FnExactSparseOf : laws_FnExactSparseOf.Pure := by
  intro xs u hl _ _ _
  refine Ev.rounds ?_
  unfold laws_FnExactSparseOf.f
  refine ev_ite (fun _ => ev_now _) (fun h => ?_)
  have hm : xs.length ≤ 1048576 := by omega
  clear h
  obtain ⟨R, hs, hi, h1, h2⟩ := sparse_both xs u hm
  obtain ⟨a, b, c, d, e, l, f, m, o⟩ := R
  have h1 : l.length ≤ 100 := h1
  have h2 : m.length ≤ 100 := h2
  have ht := laws_toIntS_ev xs (by omega)
  have hq := laws_eqSparse_ev a b c d e l f m (by omega) (by omega)
  have ho : (o != o) = false := by cases o <;> rfl
  have k2 : Ev (fun k => laws_FnExactSparseOf.j2 k ((1 + l.length + m.length : Nat) : Int) false a b c d e (marked (fun x => IntKind.u64.wrap x) l.length 1) f (marked (fun x => IntKind.u64.wrap x) m.length (1 + l.length))) true := by
    refine Ev.step (fun k => by rw [laws_FnExactSparseOf.j2]) (ev_neg (by decide) ?_)
    exact ev_bind (laws_heldSparse_ev a b c d e f l.length m.length 1 (by omega)) (ev_neg (by omega) (ev_pos rfl (ev_now _)))
  have k1 : Ev (fun k => laws_FnExactSparseOf.j1 k xs u o false a b c d e l f m a b c d e l f m) true := by
    refine Ev.step (fun k => by rw [laws_FnExactSparseOf.j1]) (ev_neg (by decide) ?_)
    refine ev_bind (laws_markSparse_ev a b c d e l f m 1 (by omega)) (ev_bind (laws_heldSparse_ev a b c d e f l.length m.length 1 (by omega)) (ev_neg (by omega) (ev_pos rfl ?_)))
    refine ev_bind ht (ev_bind hi (ev_bind hq (ev_pos rfl ?_)))
    rw [ho]
    exact k2
  have k0 : Ev (fun k => laws_FnExactSparseOf.j0 k xs u o xs o false a b c d e l f m a b c d e l f m) true := by
    refine Ev.step (fun k => by rw [laws_FnExactSparseOf.j0]) (ev_neg (by decide) ?_)
    refine ev_bind ht (ev_bind (laws_eqIntS_ev xs xs (by omega)) (ev_pos (by simp) ?_))
    refine ev_bind (laws_markIntS_ev xs 1 (by omega)) (ev_neg (by omega) (ev_bind hq (ev_pos rfl ?_)))
    rw [ho]
    exact k1
  refine ev_bind ht (ev_bind hs (ev_bind ht (ev_bind hi (ev_bind hq (ev_pos rfl ?_)))))
  show Ev (fun k => laws_FnExactSparseOf.j0 k xs u o xs o (o != o) a b c d e l f m a b c d e l f m) true
  rw [ho]
  exact k0

end Go.Proofs.Yteckcjjkblkfkaa.Pure
