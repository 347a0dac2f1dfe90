/- The pure statement of the law FnExactVarOf: the program's answers equal the reference's, for all arguments within the row's bounds. -/
import Derived.Test.YtmjjnhnclebaiaaQFnExactVarOfx1
import Derived.Test.YtmjjnhnclebaiaaLib
namespace Go.Proofs.Ytmjjnhnclebaiaa.Pure
open Go.RowKit Go.Proofs.Ytmjjnhnclebaiaa.QFnExactVarOf Go.Proofs.Ytmjjnhnclebaiaa.Lib Go.Proofs.YtmjjnhnclebaiaaW.PrintWords Go.Proofs.YtmjjnhnclebaiaaW.PrintLast Go.Proofs.YtmjjnhnclebaiaaW.PrintMore
set_option linter.unusedVariables false
set_option linter.unusedSimpArgs false

theorem laws_eqByteS_l0 (xs ys : List Int) (hl : xs.length = ys.length) (hm : xs.length ≤ 140737488355328) : ∀ (d n : Nat), n + d = xs.length → Ev (fun k => laws_eqByteS.l0 k xs ys (n : Int)) (decide (xs.drop n = ys.drop n)) := by
  intro d
  induction d with
  | zero =>
    intro n hn
    refine Ev.step (fun k => by rw [laws_eqByteS.l0]) ?_
    refine ev_neg (by omega) (ev_now' ?_)
    rw [List.drop_eq_nil_of_le (by omega), List.drop_eq_nil_of_le (by omega)]; rfl
  | succ d ih =>
    intro n hn
    refine Ev.step (fun k => by rw [laws_eqByteS.l0]) ?_
    refine ev_pos (by omega) (ev_pos (by omega) (ev_pos (by omega) ?_))
    rw [rd_lt (by omega), rd_lt (by omega), w64 (by omega) (by omega)]
    rw [List.drop_eq_getElem_cons (show n < xs.length by omega), List.drop_eq_getElem_cons (show n < ys.length by omega)]
    refine ev_ite (fun h => ev_eq (ih (n + 1) (by omega)) ?_) (fun h => ev_now' ?_)
    · simp only [List.cons.injEq, h, true_and]
    · exact (decide_eq_false (fun e => h (List.cons.inj e).1)).symm
theorem laws_eqByteS_ev (xs ys : List Int) (hm : xs.length ≤ 140737488355328) : Ev (fun k => laws_eqByteS.f k xs ys) (decide (xs = ys)) := by
  unfold laws_eqByteS.f
  refine ev_ite (fun h => ?_) (fun h => ev_now' ?_)
  · exact laws_eqByteS_l0 xs ys (by omega) hm xs.length 0 (by omega)
  · exact (decide_eq_false (fun e => h (by rw [e]))).symm
theorem spec_VarOf_l0 : ∀ (f n : Nat) (acc : List Int), n < 128 ^ (f + 1) → f ≤ 8 → acc.length + f ≤ 100 → Ev (fun k => spec_VarOf.l0 k (n : Int) acc) (acc ++ varB f n) := by
  intro f
  induction f with
  | zero =>
    intro n acc hn hf hl
    refine Ev.step (fun k => by rw [spec_VarOf.l0]) ?_
    refine ev_neg (by omega) (ev_pos (by omega) (ev_now' rfl))
  | succ f ih =>
    intro n acc hn hf hl
    refine Ev.step (fun k => by rw [spec_VarOf.l0]) ?_
    have hp : 128 ^ (f + 1) ≤ 128 ^ 8 := Nat.pow_le_pow_right (by decide) (by omega)
    have hpp : 128 ^ (f + 1 + 1) = 128 ^ (f + 1) * 128 := Nat.pow_succ ..
    have hq : n / 128 < 128 ^ (f + 1) := by rw [Nat.div_lt_iff_lt_mul (by decide)]; omega
    by_cases h : 128 ≤ n
    · refine ev_pos (by omega) (ev_pos (by omega) ?_)
      have e1 : Int.tdiv (n : Int) 128 = ((n / 128 : Nat) : Int) := tdiv_nat n 128
      have e2 : Int.tmod (n : Int) 128 = ((n % 128 : Nat) : Int) := tmod_nat n 128
      rw [e1, e2, w64 (by omega) (by omega), w64 (by omega) (by omega)]
      refine ev_eq (ih (n / 128) _ hq (by omega) (by simp; omega)) ?_
      rw [varB, if_pos h, List.append_assoc, List.singleton_append]
      congr 2
      omega
    · refine ev_neg (by omega) (ev_pos (by omega) (ev_now' ?_))
      rw [varB, if_neg h]
theorem spec_VarOf_ev (n : Nat) (h : n ≤ 4294967295) : Ev (fun k => spec_VarOf.f k (n : Int)) (varB 4 n) := by
  unfold spec_VarOf.f
  refine ev_neg (by omega) (Ev.step (fun k => by rw [spec_VarOf.j0]) (ev_neg (by simp; omega) ?_))
  exact spec_VarOf_l0 4 n [] (by omega) (by omega) (by simp)
theorem spec_VarOf_bad (a : Int) (h : a < 0 ∨ 4294967295 < a) : Ev (fun k => spec_VarOf.f k a) [] := by
  unfold spec_VarOf.f
  refine ev_ite (fun _ => Ev.step (fun k => by rw [spec_VarOf.j0]) (ev_pos rfl (ev_now _))) (fun _ => Ev.step (fun k => by rw [spec_VarOf.j0]) (ev_pos (by simp; omega) (ev_now _)))
theorem impl_within_f (a b c : Int) : impl_within.f a b c = some (decide (b ≤ a ∧ a ≤ c)) := by
  unfold impl_within.f
  by_cases h : b ≤ a <;> simp [h]
theorem impl_VarOf_l0 : ∀ (f n : Nat) (acc : List Int), n < 128 ^ (f + 1) → f ≤ 8 → acc.length + f ≤ 100 → Ev (fun k => impl_VarOf.l0 k (n : Int) acc) (acc ++ varB f n) := by
  intro f
  induction f with
  | zero =>
    intro n acc hn hf hl
    refine Ev.step (fun k => by rw [impl_VarOf.l0]) ?_
    refine ev_neg (by omega) (ev_pos (by omega) (ev_now' rfl))
  | succ f ih =>
    intro n acc hn hf hl
    refine Ev.step (fun k => by rw [impl_VarOf.l0]) ?_
    have hp : 128 ^ (f + 1) ≤ 128 ^ 8 := Nat.pow_le_pow_right (by decide) (by omega)
    have hpp : 128 ^ (f + 1 + 1) = 128 ^ (f + 1) * 128 := Nat.pow_succ ..
    have hq : n / 128 < 128 ^ (f + 1) := by rw [Nat.div_lt_iff_lt_mul (by decide)]; omega
    by_cases h : 128 ≤ n
    · refine ev_pos (by omega) (ev_pos (by omega) ?_)
      have e1 : (n : Int) / 128 = ((n / 128 : Nat) : Int) := by omega
      have e2 : Go.bits .or .i64 (Go.bits .and .i64 (n : Int) 127) 128 = ((128 + n % 128 : Nat) : Int) := by
        rw [i64_and127, show (n : Int) % 128 = ((n % 128 : Nat) : Int) by omega, show (128 : Int) = ((128 : Nat) : Int) from rfl, or_i64 _ _ (by omega) (by decide)]
        congr 1
        have := Nat.two_pow_add_eq_or_of_lt (i := 7) (b := n % 128) (by omega) 1
        rw [Nat.or_comm]
        simpa using this.symm
      rw [e1, e2]
      refine ev_eq (ih (n / 128) _ hq (by omega) (by simp; omega)) ?_
      rw [varB, if_pos h, List.append_assoc, List.singleton_append]
      congr 2
      omega
    · refine ev_neg (by omega) (ev_pos (by omega) (ev_now' ?_))
      rw [varB, if_neg h]
theorem impl_VarOf_ev (n : Nat) (h : n ≤ 4294967295) : Ev (fun k => impl_VarOf.f k (n : Int)) (varB 4 n) := by
  unfold impl_VarOf.f
  refine ev_some (impl_within_f _ _ _) (ev_pos (by simp; omega) ?_)
  exact impl_VarOf_l0 4 n [] (by omega) (by omega) (by simp)
theorem impl_VarOf_bad (a : Int) (h : a < 0 ∨ 4294967295 < a) : Ev (fun k => impl_VarOf.f k a) [] := by
  unfold impl_VarOf.f
  exact ev_some (impl_within_f _ _ _) (ev_neg (by simp; omega) (ev_now _))
theorem laws_markByteS_l0 (xs : List Int) (a : Nat) (hm : a + xs.length ≤ 1099511627776) : ∀ (d n : Nat), n + d = xs.length → Ev (fun k => laws_markByteS.l0 k (marked (fun x => x % 256) n a ++ xs.drop n) ((a + n : Nat) : Int) (n : Int)) (((a + xs.length : Nat) : Int), marked (fun x => x % 256) xs.length a) := by
  intro d
  induction d with
  | zero =>
    intro n hn
    have e : n = xs.length := by omega
    subst e
    refine Ev.step (fun k => by rw [laws_markByteS.l0]) ?_
    refine ev_neg (by simp [marked_length]) (ev_now' ?_)
    rw [List.drop_length, List.append_nil]
  | succ d ih =>
    intro n hn
    refine Ev.step (fun k => by rw [laws_markByteS.l0]) ?_
    refine ev_pos (by simp [marked_length]; omega) (ev_pos (by omega) ?_)
    rw [w64 (by omega) (by omega), w64 (by omega) (by omega), Int.toNat_natCast]
    have e := set_mark (c := (fun x => x % 256)) (a := a) (show n < xs.length by omega)
    rw [show (((a + n : Nat) : Int) % 256) = (fun x => x % 256) ((a + n : Nat) : Int) from rfl, e]
    exact ih (n + 1) (by omega)
theorem laws_markByteS_ev (xs : List Int) (a : Nat) (hm : a + xs.length ≤ 1099511627776) : Ev (fun k => laws_markByteS.f k xs (a : Int)) (((a + xs.length : Nat) : Int), marked (fun x => x % 256) xs.length a) := by
  unfold laws_markByteS.f
  have h := laws_markByteS_l0 xs a hm xs.length 0 (by omega)
  simpa [marked] using h
theorem laws_heldByteS_l0 (m a : Nat) (hm : a + m ≤ 1099511627776) : ∀ (d n : Nat), n + d = m → Ev (fun k => laws_heldByteS.l0 k (marked (fun x => x % 256) m a) ((a + n : Nat) : Int) (n : Int)) ((a + m : Nat) : Int) := by
  intro d
  induction d with
  | zero =>
    intro n hn
    have e : n = m := by omega
    subst e
    refine Ev.step (fun k => by rw [laws_heldByteS.l0]) ?_
    exact ev_neg (by simp [marked_length]) (ev_now _)
  | succ d ih =>
    intro n hn
    refine Ev.step (fun k => by rw [laws_heldByteS.l0]) ?_
    refine ev_pos (by rw [marked_length]; omega) (ev_pos (by omega) ?_)
    rw [rd_lt (by rw [marked_length]; omega), marked_get _ _ _ _ (by omega), w64 (by omega) (by omega), w64 (by omega) (by omega)]
    exact ev_pos rfl (ih (n + 1) (by omega))
theorem laws_heldByteS_ev (m a : Nat) (hm : a + m ≤ 1099511627776) : Ev (fun k => laws_heldByteS.f k (marked (fun x => x % 256) m a) (a : Int)) ((a + m : Nat) : Int) := by
  unfold laws_heldByteS.f
  exact laws_heldByteS_l0 m a hm m 0 (by omega)

theorem FnExactVarOf : laws_FnExactVarOf.Pure := by
  intro a ha
  refine Ev.rounds ?_
  have key : ∀ out : List Int, out.length ≤ 5 → Ev (fun k => spec_VarOf.f k a) out → Ev (fun k => impl_VarOf.f k a) out → Ev (fun k => laws_FnExactVarOf.f k a) true := by
    intro out hl hs hi
    unfold laws_FnExactVarOf.f
    have hm : (1 : Nat) + out.length ≤ 1099511627776 := by omega
    refine ev_bind hs (ev_bind hi (ev_bind (laws_eqByteS_ev out out (by omega)) (ev_pos (by simp) ?_)))
    refine ev_bind (laws_markByteS_ev out 1 hm) (ev_bind (laws_heldByteS_ev out.length 1 hm) (ev_neg (by omega) (ev_pos rfl ?_)))
    refine ev_bind hi (ev_bind (laws_eqByteS_ev out out (by omega)) (ev_pos (by simp) ?_))
    exact ev_bind (laws_heldByteS_ev out.length 1 hm) (ev_neg (by omega) (ev_pos rfl (ev_now _)))
  by_cases h : 0 ≤ a ∧ a ≤ 4294967295
  · obtain ⟨n, rfl⟩ := Int.eq_ofNat_of_zero_le h.1
    exact key _ (varB_length 4 n).2 (spec_VarOf_ev n (by omega)) (impl_VarOf_ev n (by omega))
  · exact key [] (by simp) (spec_VarOf_bad a (by omega)) (impl_VarOf_bad a (by omega))

end Go.Proofs.Ytmjjnhnclebaiaa.Pure
