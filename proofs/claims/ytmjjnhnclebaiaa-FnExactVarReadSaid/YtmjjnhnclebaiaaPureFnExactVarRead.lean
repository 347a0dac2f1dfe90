/- The pure statement of the law FnExactVarRead: the program's answers equal the reference's, for all arguments within the row's bounds. -/
import Derived.Test.YtmjjnhnclebaiaaQFnExactVarReadx3
import Derived.Test.YtmjjnhnclebaiaaLib
namespace Go.Proofs.Ytmjjnhnclebaiaa.Pure
open Go.RowKit Go.Proofs.Ytmjjnhnclebaiaa.QFnExactVarRead Go.Proofs.Ytmjjnhnclebaiaa.Lib Go.Proofs.YtmjjnhnclebaiaaW.PrintWords Go.Proofs.YtmjjnhnclebaiaaW.PrintLast Go.Proofs.YtmjjnhnclebaiaaW.PrintMore
set_option linter.unusedVariables false
set_option linter.unusedSimpArgs false

theorem laws_toByteS_l0 (xs : List Int) (hm : xs.length ≤ 140737488355328) : ∀ (d n : Nat) (out : List Int), n + d = xs.length → out.length = xs.length → (∀ j, j < n → out[j]? = xs[j]?) → Ev (fun k => laws_toByteS.l0 k xs out (n : Int)) xs := by
  intro d
  induction d with
  | zero =>
    intro n out hn hl ho
    refine Ev.step (fun k => by rw [laws_toByteS.l0]) ?_
    refine ev_neg (by omega) (ev_now' ?_)
    apply List.ext_getElem? ; intro j
    by_cases hj : j < n
    · exact ho j hj
    · rw [List.getElem?_eq_none (by omega), List.getElem?_eq_none (by omega)]
  | succ d ih =>
    intro n out hn hl ho
    refine Ev.step (fun k => by rw [laws_toByteS.l0]) ?_
    refine ev_pos (by omega) (ev_pos (by omega) (ev_pos (by omega) ?_))
    rw [w64 (by omega) (by omega)]
    refine ih (n + 1) _ (by omega) (by simp [hl]) ?_
    intro j hj
    rw [Int.toNat_natCast, List.getElem?_set, rd_lt (by omega)]
    by_cases e : n = j
    · subst e; rw [if_pos rfl, if_pos (by omega), List.getElem?_eq_getElem (by omega)]
    · rw [if_neg e]; exact ho j (by omega)
theorem laws_toByteS_ev (xs : List Int) (hm : xs.length ≤ 140737488355328) : Ev (fun k => laws_toByteS.f k xs) xs := by
  unfold laws_toByteS.f
  refine ev_pos (by omega) (ev_pos (by omega) ?_)
  exact laws_toByteS_l0 xs hm xs.length 0 _ (by omega) (by simp) (by simp)
theorem laws_eqByteS_l0 (xs ys : List Int) (hl : xs.length = ys.length) (hm : xs.length ≤ 140737488355328) : ∀ (d n : Nat), n + d = xs.length → Ev (fun k => laws_eqByteS.l0 k xs ys (n : Int)) (decide (xs.drop n = ys.drop n)) := by
  intro d
  induction d with
  | zero =>
    intro n hn
    refine Ev.step (fun k => by rw [laws_eqByteS.l0]) ?_
    refine ev_neg (by omega) (ev_now' ?_)
    rw [List.drop_eq_nil_of_le (by omega), List.drop_eq_nil_of_le (by omega)]; rfl
  | succ d ih =>
    intro n hn
    refine Ev.step (fun k => by rw [laws_eqByteS.l0]) ?_
    refine ev_pos (by omega) (ev_pos (by omega) (ev_pos (by omega) ?_))
    rw [rd_lt (by omega), rd_lt (by omega), w64 (by omega) (by omega)]
    rw [List.drop_eq_getElem_cons (show n < xs.length by omega), List.drop_eq_getElem_cons (show n < ys.length by omega)]
    refine ev_ite (fun h => ev_eq (ih (n + 1) (by omega)) ?_) (fun h => ev_now' ?_)
    · simp only [List.cons.injEq, h, true_and]
    · exact (decide_eq_false (fun e => h (List.cons.inj e).1)).symm
theorem laws_eqByteS_ev (xs ys : List Int) (hm : xs.length ≤ 140737488355328) : Ev (fun k => laws_eqByteS.f k xs ys) (decide (xs = ys)) := by
  unfold laws_eqByteS.f
  refine ev_ite (fun h => ?_) (fun h => ev_now' ?_)
  · exact laws_eqByteS_l0 xs ys (by omega) hm xs.length 0 (by omega)
  · exact (decide_eq_false (fun e => h (by rw [e]))).symm
theorem spec_VarOf_l0 : ∀ (f n : Nat) (acc : List Int), n < 128 ^ (f + 1) → f ≤ 8 → acc.length + f ≤ 100 → Ev (fun k => spec_VarOf.l0 k (n : Int) acc) (acc ++ varB f n) := by
  intro f
  induction f with
  | zero =>
    intro n acc hn hf hl
    refine Ev.step (fun k => by rw [spec_VarOf.l0]) ?_
    refine ev_neg (by omega) (ev_pos (by omega) (ev_now' rfl))
  | succ f ih =>
    intro n acc hn hf hl
    refine Ev.step (fun k => by rw [spec_VarOf.l0]) ?_
    have hp : 128 ^ (f + 1) ≤ 128 ^ 8 := Nat.pow_le_pow_right (by decide) (by omega)
    have hpp : 128 ^ (f + 1 + 1) = 128 ^ (f + 1) * 128 := Nat.pow_succ ..
    have hq : n / 128 < 128 ^ (f + 1) := by rw [Nat.div_lt_iff_lt_mul (by decide)]; omega
    by_cases h : 128 ≤ n
    · refine ev_pos (by omega) (ev_pos (by omega) ?_)
      have e1 : Int.tdiv (n : Int) 128 = ((n / 128 : Nat) : Int) := tdiv_nat n 128
      have e2 : Int.tmod (n : Int) 128 = ((n % 128 : Nat) : Int) := tmod_nat n 128
      rw [e1, e2, w64 (by omega) (by omega), w64 (by omega) (by omega)]
      refine ev_eq (ih (n / 128) _ hq (by omega) (by simp; omega)) ?_
      rw [varB, if_pos h, List.append_assoc, List.singleton_append]
      congr 2
      omega
    · refine ev_neg (by omega) (ev_pos (by omega) (ev_now' ?_))
      rw [varB, if_neg h]
theorem spec_VarOf_ev (n : Nat) (h : n ≤ 4294967295) : Ev (fun k => spec_VarOf.f k (n : Int)) (varB 4 n) := by
  unfold spec_VarOf.f
  refine ev_neg (by omega) (Ev.step (fun k => by rw [spec_VarOf.j0]) (ev_neg (by simp; omega) ?_))
  exact spec_VarOf_l0 4 n [] (by omega) (by omega) (by simp)
theorem spec_VarOf_bad (a : Int) (h : a < 0 ∨ 4294967295 < a) : Ev (fun k => spec_VarOf.f k a) [] := by
  unfold spec_VarOf.f
  refine ev_ite (fun _ => Ev.step (fun k => by rw [spec_VarOf.j0]) (ev_pos rfl (ev_now _))) (fun _ => Ev.step (fun k => by rw [spec_VarOf.j0]) (ev_pos (by simp; omega) (ev_now _)))
def varOfR (v : Nat) : List Int := if v ≤ 4294967295 then varB 4 v else []
theorem spec_VarOf_R (v : Nat) : Ev (fun k => spec_VarOf.f k (v : Int)) (varOfR v) := by
  unfold varOfR
  split
  · rename_i h; exact spec_VarOf_ev v h
  · exact spec_VarOf_bad _ (by omega)
/-- reading on from byte i, of five at most -/
def varL (xs : List Int) (a : Nat) : Nat → Nat → Nat → Int × Int × Bool
  | 0, _, _ => (0, 0, false)
  | d + 1, i, acc =>
    if a + i < xs.length then
      (if xs.getD (a + i) 0 < 128 then
        (if (strOfNums (varOfR (acc + 128 ^ i * ((xs.getD (a + i) 0).toNat % 128)))).toList = (strOfNums ((xs.take (a + i + 1)).drop a)).toList then (((acc + 128 ^ i * ((xs.getD (a + i) 0).toNat % 128) : Nat) : Int), ((a + i + 1 : Nat) : Int), true) else (0, 0, false))
       else varL xs a d (i + 1) (acc + 128 ^ i * ((xs.getD (a + i) 0).toNat % 128)))
    else (0, 0, false)
theorem varL_step {i acc b : Nat} (h : acc < 128 ^ i) (hb : b < 128) : acc + 128 ^ i * b < 128 ^ (i + 1) := by
  have h1 : 128 ^ i * b ≤ 128 ^ i * 127 := Nat.mul_le_mul_left _ (by omega)
  rw [Nat.pow_succ]
  omega
theorem spec_VarRead_l0 (xs : List Int) (a : Nat) (hm : xs.length ≤ 1048576) (ha : a ≤ xs.length) (hw : ∀ x ∈ xs, 0 ≤ x ∧ x < 256) : ∀ (d i acc : Nat), i + d = 5 → acc < 128 ^ i → Ev (fun k => spec_VarRead.l0 k xs (a : Int) (acc : Int) ((128 ^ i : Nat) : Int) ((a + i : Nat) : Int)) (varL xs a d i acc) := by
  intro d
  induction d with
  | zero =>
    intro i acc hi hacc
    refine Ev.step (fun k => by rw [spec_VarRead.l0]) ?_
    rw [w64 (n := (a : Int) + 5) (by omega) (by omega), decide_eq_false (show ¬ (((a + i : Nat) : Int) < (a : Int) + 5) by omega)]
    have bad : Ev (fun k => spec_VarRead.j2 k xs (a : Int) (acc : Int) ((128 ^ i : Nat) : Int) ((a + i : Nat) : Int) false) (varL xs a 0 i acc) := by
      refine Ev.step (fun k => by rw [spec_VarRead.j2]) ?_
      exact ev_neg (by decide) (ev_now _)
    exact ev_ite (fun _ => bad) (fun _ => bad)
  | succ d ih =>
    intro i acc hi hacc
    refine Ev.step (fun k => by rw [spec_VarRead.l0]) ?_
    rw [w64 (n := (a : Int) + 5) (by omega) (by omega), varL]
    by_cases hlt : a + i < xs.length
    · rw [if_pos hlt, decide_eq_true (show ((a + i : Nat) : Int) < (a : Int) + 5 by omega)]
      refine ev_pos (by omega) ?_
      refine Ev.step (fun k => by rw [spec_VarRead.j2]) (ev_pos rfl (ev_pos (by omega) (ev_pos (by omega) ?_)))
      have hx := hw _ (List.getElem_mem hlt)
      obtain ⟨b, e⟩ : ∃ b : Nat, xs[a + i] = (b : Int) := ⟨xs[a + i].toNat, by omega⟩
      have hv := varL_step (b := b % 128) hacc (by omega)
      have hp5 : 128 ^ (i + 1) ≤ 128 ^ 5 := Nat.pow_le_pow_right (by decide) (by omega)
      have hpp : 128 ^ (i + 1) = 128 ^ i * 128 := Nat.pow_succ ..
      rw [rd_lt hlt, List.getD_eq_getElem?_getD, List.getElem?_eq_getElem hlt, Option.getD_some, e, Int.toNat_natCast, show Int.tmod (b : Int) 128 = ((b % 128 : Nat) : Int) from tmod_nat b 128, w64 (n := ((b % 128 : Nat) : Int)) (by omega) (by omega), ← Int.natCast_mul]
      have hmul : 128 ^ i * (b % 128) < 128 ^ (i + 1) := by omega
      rw [w64 (n := ((128 ^ i * (b % 128) : Nat) : Int)) (by omega) (by omega), ← Int.natCast_add, w64 (n := ((acc + 128 ^ i * (b % 128) : Nat) : Int)) (by omega) (by omega), w64 (n := ((a + i : Nat) : Int) + 1) (by omega) (by omega), w64 (n := 128 * ((128 ^ i : Nat) : Int)) (by omega) (by omega)]
      refine ev_ite (fun h => ?_) (fun h => ?_)
      · rw [if_pos h]
        refine ev_bind (spec_VarOf_R _) (ev_pos (by omega) (ev_pos (by omega) (ev_pos (by omega) ?_)))
        rw [show ((a + i : Nat) : Int) + 1 = ((a + i + 1 : Nat) : Int) by omega, Int.toNat_natCast, Int.toNat_natCast]
        refine ev_ite (fun h => ?_) (fun h => ?_)
        · rw [if_pos h]; exact ev_now _
        · rw [if_neg h]; exact ev_now _
      · rw [if_neg h, show ((a + i : Nat) : Int) + 1 = ((a + (i + 1) : Nat) : Int) by omega, show 128 * ((128 ^ i : Nat) : Int) = ((128 ^ (i + 1) : Nat) : Int) by omega]
        exact ih (i + 1) _ (by omega) hv
    · rw [if_neg hlt]
      refine ev_neg (by omega) ?_
      refine Ev.step (fun k => by rw [spec_VarRead.j2]) ?_
      exact ev_neg (by decide) (ev_now _)
def varReadR (xs : List Int) (a : Int) : Int × Int × Bool := if 0 ≤ a ∧ a < xs.length then varL xs a.toNat 5 0 0 else (0, 0, false)
theorem spec_VarRead_ev (xs : List Int) (a : Int) (hm : xs.length ≤ 1048576) (hw : ∀ x ∈ xs, 0 ≤ x ∧ x < 256) : Ev (fun k => spec_VarRead.f k xs a) (varReadR xs a) := by
  unfold spec_VarRead.f varReadR
  have bad : Ev (fun k => spec_VarRead.j0 k xs a true) (0, 0, false) := by
    refine Ev.step (fun k => by rw [spec_VarRead.j0]) ?_
    exact ev_pos rfl (ev_now _)
  refine ev_ite (fun h => ?_) (fun h => ?_)
  · rw [if_neg (by omega)]; exact bad
  · by_cases h1 : a < xs.length
    · rw [if_pos ⟨by omega, h1⟩, decide_eq_false (by omega)]
      refine Ev.step (fun k => by rw [spec_VarRead.j0]) (ev_neg (by decide) ?_)
      obtain ⟨a, rfl⟩ : ∃ a' : Nat, a = (a' : Int) := ⟨a.toNat, by omega⟩
      rw [Int.toNat_natCast]
      exact spec_VarRead_l0 xs a hm (by omega) hw 5 0 0 (by omega) (by decide)
    · rw [if_neg (by omega), decide_eq_true (by omega)]; exact bad
theorem impl_within_f (a b c : Int) : impl_within.f a b c = some (decide (b ≤ a ∧ a ≤ c)) := by
  unfold impl_within.f
  by_cases h : b ≤ a <;> simp [h]
theorem impl_VarOf_l0 : ∀ (f n : Nat) (acc : List Int), n < 128 ^ (f + 1) → f ≤ 8 → acc.length + f ≤ 100 → Ev (fun k => impl_VarOf.l0 k (n : Int) acc) (acc ++ varB f n) := by
  intro f
  induction f with
  | zero =>
    intro n acc hn hf hl
    refine Ev.step (fun k => by rw [impl_VarOf.l0]) ?_
    refine ev_neg (by omega) (ev_pos (by omega) (ev_now' rfl))
  | succ f ih =>
    intro n acc hn hf hl
    refine Ev.step (fun k => by rw [impl_VarOf.l0]) ?_
    have hp : 128 ^ (f + 1) ≤ 128 ^ 8 := Nat.pow_le_pow_right (by decide) (by omega)
    have hpp : 128 ^ (f + 1 + 1) = 128 ^ (f + 1) * 128 := Nat.pow_succ ..
    have hq : n / 128 < 128 ^ (f + 1) := by rw [Nat.div_lt_iff_lt_mul (by decide)]; omega
    by_cases h : 128 ≤ n
    · refine ev_pos (by omega) (ev_pos (by omega) ?_)
      have e1 : (n : Int) / 128 = ((n / 128 : Nat) : Int) := by omega
      have e2 : Go.bits .or .i64 (Go.bits .and .i64 (n : Int) 127) 128 = ((128 + n % 128 : Nat) : Int) := by
        rw [i64_and127, show (n : Int) % 128 = ((n % 128 : Nat) : Int) by omega, show (128 : Int) = ((128 : Nat) : Int) from rfl, or_i64 _ _ (by omega) (by decide)]
        congr 1
        have := Nat.two_pow_add_eq_or_of_lt (i := 7) (b := n % 128) (by omega) 1
        rw [Nat.or_comm]
        simpa using this.symm
      rw [e1, e2]
      refine ev_eq (ih (n / 128) _ hq (by omega) (by simp; omega)) ?_
      rw [varB, if_pos h, List.append_assoc, List.singleton_append]
      congr 2
      omega
    · refine ev_neg (by omega) (ev_pos (by omega) (ev_now' ?_))
      rw [varB, if_neg h]
theorem impl_VarOf_ev (n : Nat) (h : n ≤ 4294967295) : Ev (fun k => impl_VarOf.f k (n : Int)) (varB 4 n) := by
  unfold impl_VarOf.f
  refine ev_some (impl_within_f _ _ _) (ev_pos (by simp; omega) ?_)
  exact impl_VarOf_l0 4 n [] (by omega) (by omega) (by simp)
theorem impl_VarOf_bad (a : Int) (h : a < 0 ∨ 4294967295 < a) : Ev (fun k => impl_VarOf.f k a) [] := by
  unfold impl_VarOf.f
  exact ev_some (impl_within_f _ _ _) (ev_neg (by simp; omega) (ev_now _))
theorem impl_VarOf_R (v : Nat) : Ev (fun k => impl_VarOf.f k (v : Int)) (varOfR v) := by
  unfold varOfR
  split
  · rename_i h; exact impl_VarOf_ev v h
  · exact impl_VarOf_bad _ (by omega)
theorem wraps_u8 (n : Int) (h₀ : 0 ≤ n) (h₁ : n < 2 ^ 8) : IntKind.u8.wrap n = n := by rw [IntKind.wrap_u8']; omega
theorem impl_VarRead_l0 (xs : List Int) (a : Nat) (hm : xs.length ≤ 1048576) (ha : a ≤ xs.length) (hw : ∀ x ∈ xs, 0 ≤ x ∧ x < 256) : ∀ (d i acc : Nat), i + d = 5 → acc < 128 ^ i → Ev (fun k => impl_VarRead.l0 k xs (a : Int) (acc : Int) (xs.drop a) ((xs.drop a).length : Int) (i : Int)) (varL xs a d i acc) := by
  intro d
  induction d with
  | zero =>
    intro i acc hi hacc
    refine Ev.step (fun k => by rw [impl_VarRead.l0]) ?_
    rw [varL]
    exact ev_ite (fun _ => ev_pos (by omega) (ev_pos (by omega) (ev_pos (by omega) (ev_now _)))) (fun _ => ev_now _)
  | succ d ih =>
    intro i acc hi hacc
    refine Ev.step (fun k => by rw [impl_VarRead.l0]) ?_
    rw [varL]
    have hdl : (xs.drop a).length = xs.length - a := List.length_drop ..
    by_cases hlt : a + i < xs.length
    · have hx := hw _ (List.getElem_mem hlt)
      have hlt' : i < (xs.drop a).length := by omega
      obtain ⟨b, e⟩ : ∃ b : Nat, xs[a + i] = (b : Int) := ⟨xs[a + i].toNat, by omega⟩
      have hv := varL_step (b := b % 128) hacc (by omega)
      have hp5 : 128 ^ (i + 1) ≤ 128 ^ 5 := Nat.pow_le_pow_right (by decide) (by omega)
      have hpp : 128 ^ (i + 1) = 128 ^ i * 128 := Nat.pow_succ ..
      have e7 : wrap64 (7 * (i : Int)) = ((7 * i : Nat) : Int) := by rw [w64 (by omega) (by omega)]; omega
      have h27 : 2 ^ (7 * i) = 128 ^ i := by rw [Nat.pow_mul]
      have ev : Go.bits .or .i64 (acc : Int) (shl .i64 (wrap64 (Go.bits .and .u8 (b : Int) 127)) ((7 * i : Nat) : Int)) = ((acc + 128 ^ i * (b % 128) : Nat) : Int) := by
        have h := bits_mask .u8 8 (by decide) wraps_u8 7 (by decide) (b : Int) (by omega) (by omega)
        rw [show ((2 : Int) ^ 7 - 1) = 127 by decide, show (b : Int) % 2 ^ 7 = ((b % 128 : Nat) : Int) by omega] at h
        rw [h, w64 (by omega) (by omega), shl_i64 _ _ (by omega), ← Int.natCast_mul, h27, Nat.mul_comm (b % 128), w64 (by omega) (by omega), or_i64 _ _ (by omega) (by omega)]
        congr 1
        rw [← h27, Nat.or_comm, ← Nat.two_pow_add_eq_or_of_lt (by rw [h27]; exact hacc), Nat.add_comm]
      rw [if_pos hlt, rd_lt hlt', List.getElem_drop, List.getD_eq_getElem?_getD, List.getElem?_eq_getElem hlt, Option.getD_some, e, Int.toNat_natCast, e7, ev, w64 (n := (i : Int) + 1) (by omega) (by omega)]
      refine ev_pos (by omega) (ev_pos (by omega) (ev_pos (by omega) (ev_neg (by omega) (ev_pos (by omega) ?_))))
      refine ev_ite (fun h => ?_) (fun h => ?_)
      · rw [if_neg (by omega)]
        exact ih (i + 1) _ (by omega) hv
      · rw [if_pos (by omega)]
        refine ev_bind (impl_VarOf_R _) ?_
        rw [w64 (n := (a : Int) + (i : Int)) (by omega) (by omega), w64 (n := (a : Int) + (i : Int) + 1) (by omega) (by omega), show (a : Int) + (i : Int) + 1 = ((a + i + 1 : Nat) : Int) by omega, Int.toNat_natCast, Int.toNat_natCast]
        refine ev_pos (by omega) (ev_pos (by omega) (ev_pos (by omega) (ev_some rfl ?_)))
        by_cases h : (strOfNums (varOfR (acc + 128 ^ i * (b % 128)))).toList = (strOfNums ((xs.take (a + i + 1)).drop a)).toList
        · rw [if_pos h]; exact ev_pos (by rw [beq_iff_eq]; exact h) (ev_now _)
        · rw [if_neg h]; exact ev_neg (by rw [beq_iff_eq]; exact h) (ev_now _)
    · rw [if_neg hlt]
      exact ev_neg (by omega) (ev_now _)
theorem impl_VarRead_ev (xs : List Int) (a : Int) (hm : xs.length ≤ 1048576) (hw : ∀ x ∈ xs, 0 ≤ x ∧ x < 256) : Ev (fun k => impl_VarRead.f k xs a) (varReadR xs a) := by
  unfold impl_VarRead.f varReadR
  refine ev_some (impl_within_f a 0 _) ?_
  by_cases h : 0 ≤ a ∧ a ≤ xs.length
  · rw [decide_eq_true h]
    obtain ⟨a, rfl⟩ : ∃ a' : Nat, a = (a' : Int) := ⟨a.toNat, by omega⟩
    rw [Int.toNat_natCast]
    refine ev_pos rfl (ev_pos (by omega) (ev_pos (by omega) (ev_some rfl ?_)))
    have key := impl_VarRead_l0 xs a hm (by omega) hw 5 0 0 (by omega) (by decide)
    by_cases h1 : (a : Int) < xs.length
    · rw [if_pos ⟨by omega, h1⟩]; exact key
    · rw [if_neg (by omega)]
      rw [varL, if_neg (by omega)] at key
      exact key
  · rw [decide_eq_false h, if_neg (by omega)]
    exact ev_neg (by decide) (ev_now _)

theorem FnExactVarRead : laws_FnExactVarRead.Pure := by
  intro l a hl _ hw ha
  refine Ev.rounds ?_
  unfold laws_FnExactVarRead.f
  refine ev_ite (fun _ => ev_now _) (fun h => ?_)
  have hw' : ∀ x ∈ l, 0 ≤ x ∧ x < 256 := fun x hx => wf_u8 (hw x hx)
  refine ev_bind (laws_toByteS_ev l (by omega)) (ev_bind (spec_VarRead_ev l a (by omega) hw') (ev_bind (laws_toByteS_ev l (by omega)) (ev_bind (impl_VarRead_ev l a (by omega) hw') (ev_pos rfl (ev_pos rfl ?_)))))
  rw [show ((varReadR l a).2.2 != (varReadR l a).2.2) = false by simp]
  refine Ev.step (fun k => by rw [laws_FnExactVarRead.j0]) (ev_neg (by decide) ?_)
  exact ev_bind (laws_toByteS_ev l (by omega)) (ev_bind (laws_eqByteS_ev l l (by omega)) (ev_pos (by simp) (ev_now _)))

end Go.Proofs.Ytmjjnhnclebaiaa.Pure
