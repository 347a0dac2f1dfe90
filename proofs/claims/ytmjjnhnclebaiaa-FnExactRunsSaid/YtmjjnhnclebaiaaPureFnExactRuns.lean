/- The pure statement of the law FnExactRuns: the program's answers equal the reference's, for all arguments within the row's bounds. -/
import Derived.Test.YtmjjnhnclebaiaaQFnExactRunsx2
import Derived.Test.YtmjjnhnclebaiaaLib
namespace Go.Proofs.Ytmjjnhnclebaiaa.Pure
open Go.RowKit Go.Proofs.Ytmjjnhnclebaiaa.QFnExactRuns Go.Proofs.Ytmjjnhnclebaiaa.Lib Go.Proofs.YtmjjnhnclebaiaaW.PrintWords Go.Proofs.YtmjjnhnclebaiaaW.PrintLast Go.Proofs.YtmjjnhnclebaiaaW.PrintMore
set_option linter.unusedVariables false
set_option linter.unusedSimpArgs false

theorem laws_toIntS_l0 (xs : List Int) (hm : xs.length ≤ 35184372088832) : ∀ (d n : Nat) (out : List Int), n + d = xs.length → out.length = xs.length → (∀ j, j < n → out[j]? = xs[j]?) → Ev (fun k => laws_toIntS.l0 k xs out (n : Int)) xs := by
  intro d
  induction d with
  | zero =>
    intro n out hn hl ho
    refine Ev.step (fun k => by rw [laws_toIntS.l0]) ?_
    refine ev_neg (by omega) (ev_now' ?_)
    apply List.ext_getElem? ; intro j
    by_cases hj : j < n
    · exact ho j hj
    · rw [List.getElem?_eq_none (by omega), List.getElem?_eq_none (by omega)]
  | succ d ih =>
    intro n out hn hl ho
    refine Ev.step (fun k => by rw [laws_toIntS.l0]) ?_
    refine ev_pos (by omega) (ev_pos (by omega) (ev_pos (by omega) ?_))
    rw [w64 (by omega) (by omega)]
    refine ih (n + 1) _ (by omega) (by simp [hl]) ?_
    intro j hj
    rw [Int.toNat_natCast, List.getElem?_set, rd_lt (by omega)]
    by_cases e : n = j
    · subst e; rw [if_pos rfl, if_pos (by omega), List.getElem?_eq_getElem (by omega)]
    · rw [if_neg e]; exact ho j (by omega)
theorem laws_toIntS_ev (xs : List Int) (hm : xs.length ≤ 35184372088832) : Ev (fun k => laws_toIntS.f k xs) xs := by
  unfold laws_toIntS.f
  refine ev_pos (by omega) (ev_pos (by omega) ?_)
  exact laws_toIntS_l0 xs hm xs.length 0 _ (by omega) (by simp) (by simp)
theorem laws_eqIntS_l0 (xs ys : List Int) (hl : xs.length = ys.length) (hm : xs.length ≤ 140737488355328) : ∀ (d n : Nat), n + d = xs.length → Ev (fun k => laws_eqIntS.l0 k xs ys (n : Int)) (decide (xs.drop n = ys.drop n)) := by
  intro d
  induction d with
  | zero =>
    intro n hn
    refine Ev.step (fun k => by rw [laws_eqIntS.l0]) ?_
    refine ev_neg (by omega) (ev_now' ?_)
    rw [List.drop_eq_nil_of_le (by omega), List.drop_eq_nil_of_le (by omega)]; rfl
  | succ d ih =>
    intro n hn
    refine Ev.step (fun k => by rw [laws_eqIntS.l0]) ?_
    refine ev_pos (by omega) (ev_pos (by omega) (ev_pos (by omega) ?_))
    rw [rd_lt (by omega), rd_lt (by omega), w64 (by omega) (by omega)]
    rw [List.drop_eq_getElem_cons (show n < xs.length by omega), List.drop_eq_getElem_cons (show n < ys.length by omega)]
    refine ev_ite (fun h => ev_eq (ih (n + 1) (by omega)) ?_) (fun h => ev_now' ?_)
    · simp only [List.cons.injEq, h, true_and]
    · exact (decide_eq_false (fun e => h (List.cons.inj e).1)).symm
theorem laws_eqIntS_ev (xs ys : List Int) (hm : xs.length ≤ 140737488355328) : Ev (fun k => laws_eqIntS.f k xs ys) (decide (xs = ys)) := by
  unfold laws_eqIntS.f
  refine ev_ite (fun h => ?_) (fun h => ev_now' ?_)
  · exact laws_eqIntS_l0 xs ys (by omega) hm xs.length 0 (by omega)
  · exact (decide_eq_false (fun e => h (by rw [e]))).symm
def symsOk (l : List Int) : Bool := decide (l.length ≤ 301) && l.all fun a => decide (0 ≤ a ∧ a ≤ 256)
theorem spec_SymsOk_l0 (xs : List Int) (hm : xs.length ≤ 301) : ∀ (d n : Nat), n + d = xs.length → Ev (fun k => spec_SymsOk.l0 k xs (n : Int)) ((xs.drop n).all fun a => decide (0 ≤ a ∧ a ≤ 256)) := by
  intro d
  induction d with
  | zero =>
    intro n hn
    refine Ev.step (fun k => by rw [spec_SymsOk.l0]) ?_
    refine ev_neg (by omega) (ev_now' ?_)
    rw [List.drop_eq_nil_of_le (by omega)]; rfl
  | succ d ih =>
    intro n hn
    refine Ev.step (fun k => by rw [spec_SymsOk.l0]) ?_
    refine ev_pos (by omega) (ev_pos (by omega) ?_)
    rw [rd_lt (show n < xs.length by omega), w64 (by omega) (by omega), List.drop_eq_getElem_cons (show n < xs.length by omega), List.all_cons]
    refine ev_ite (fun h => ev_now' ?_) (fun h => ev_ite (fun h' => ev_now' ?_) (fun h' => ev_eq (ih (n + 1) (by omega)) ?_))
    · rw [decide_eq_false (by omega)]; rfl
    · rw [decide_eq_false (by omega)]; rfl
    · rw [decide_eq_true (by omega)]; rfl
theorem spec_SymsOk_ev (xs : List Int) : Ev (fun k => spec_SymsOk.f k xs) (symsOk xs) := by
  unfold spec_SymsOk.f symsOk
  refine ev_ite (fun h => ev_now' ?_) (fun h => ev_eq (spec_SymsOk_l0 xs (by omega) xs.length 0 (by omega)) ?_)
  · rw [decide_eq_false (by omega)]; rfl
  · rw [decide_eq_true (by omega)]; rfl
theorem impl_within_f (a b c : Int) : impl_within.f a b c = some (decide (b ≤ a ∧ a ≤ c)) := by
  unfold impl_within.f
  by_cases h : b ≤ a <;> simp [h]
theorem impl_SymsOk_1_f (a : Int) : impl_SymsOk_1.f a = some (decide (0 ≤ a ∧ a ≤ 256)) := by
  unfold impl_SymsOk_1.f
  rw [impl_within_f]; rfl
theorem allO_all (p : Int → Option Bool) (q : Int → Bool) (h : ∀ x, p x = some (q x)) (l : List Int) : allO p l = some (l.all q) := by
  induction l with
  | nil => rfl
  | cons x l ih =>
    rw [allO, h x, Option.bind_some]
    cases hq : q x
    · simp [hq]
    · rw [if_pos rfl, ih]; simp [hq]
theorem impl_areAll_SymsOk_1_f (l : List Int) : impl_areAll_SymsOk_1.f l = some (l.all fun a => decide (0 ≤ a ∧ a ≤ 256)) := allO_all _ _ impl_SymsOk_1_f l
theorem impl_SymsOk_f (xs : List Int) : impl_SymsOk.f xs = some (symsOk xs) := by
  unfold impl_SymsOk.f symsOk
  by_cases h : xs.length ≤ 301
  · rw [if_pos (by omega), impl_areAll_SymsOk_1_f, decide_eq_true h]; rfl
  · rw [if_neg (by omega), decide_eq_false h]; rfl

def runsN (xs : List Int) (n : Nat) : Nat := ((List.range n).filter (Go.Lib.keeps xs.toArray)).length
theorem runsN_succ (xs : List Int) (n : Nat) : runsN xs (n + 1) = runsN xs n + if Go.Lib.keeps xs.toArray n = true then 1 else 0 := by
  unfold runsN
  rw [List.range_succ, List.filter_append, List.length_append]
  congr 1
  by_cases h : Go.Lib.keeps xs.toArray n = true
  · rw [if_pos h, List.filter_cons_of_pos h]; rfl
  · rw [if_neg h, List.filter_cons_of_neg h]; rfl
theorem runsN_le (xs : List Int) (n : Nat) : runsN xs n ≤ n := by
  unfold runsN
  exact Nat.le_trans (List.length_filter_le _ _) (by rw [List.length_range]; exact Nat.le_refl n)
theorem keeps_at {xs : List Int} {n : Nat} (h : n + 1 < xs.length) : (Go.Lib.keeps xs.toArray (n + 1) = true) ↔ ¬ (xs[n + 1] = xs[n]'(by omega)) := by
  have e1 : xs.toArray[n + 1]! = xs[n + 1] := by rw [getElem!_pos xs.toArray (n + 1) (by simpa using h)]; rfl
  have e2 : xs.toArray[n]! = xs[n]'(by omega) := by rw [getElem!_pos xs.toArray n (by simp; omega)]; rfl
  unfold Go.Lib.keeps
  simp [e1, e2]
theorem spec_Runs_l0 (xs : List Int) (hm : xs.length ≤ 301) : ∀ (d n : Nat), n + d = xs.length → Ev (fun k => spec_Runs.l0 k xs ((runsN xs n : Nat) : Int) (n : Int)) ((runsN xs xs.length : Nat) : Int) := by
  intro d
  induction d with
  | zero =>
    intro n hn
    refine Ev.step (fun k => by rw [spec_Runs.l0]) ?_
    exact ev_neg (by omega) (ev_now' (by rw [show n = xs.length by omega]))
  | succ d ih =>
    intro n hn
    have hlt : n < xs.length := by omega
    have hc := runsN_le xs n
    have h := ih (n + 1) (by omega)
    rw [runsN_succ] at h
    refine Ev.step (fun k => by rw [spec_Runs.l0]) (ev_pos (by omega) ?_)
    rw [w64 (n := (n : Int) + 1) (by omega) (by omega), w64 (n := ((runsN xs n : Nat) : Int) + 1) (by omega) (by omega)]
    cases n with
    | zero =>
      rw [if_pos (show Go.Lib.keeps xs.toArray 0 = true by simp [Go.Lib.keeps])] at h
      exact ev_pos (by omega) h
    | succ n =>
      rw [w64 (n := ((n + 1 : Nat) : Int) - 1) (by omega) (by omega), show ((n + 1 : Nat) : Int) - 1 = (n : Int) by omega, rd_lt hlt, rd_lt (show n < xs.length by omega)]
      refine ev_neg (by omega) (ev_pos (by omega) (ev_pos (by omega) (ev_pos (by omega) (ev_ite (fun e => ?_) (fun e => ?_)))))
      · rw [if_neg (fun g => (keeps_at hlt).1 g e)] at h
        exact h
      · rw [if_pos ((keeps_at hlt).2 e)] at h
        exact h
def runsR (xs : List Int) : Int := if symsOk xs = true then ((runsN xs xs.length : Nat) : Int) else -1
theorem symsOk_len {xs : List Int} (h : symsOk xs = true) : xs.length ≤ 301 := by
  unfold symsOk at h
  rw [Bool.and_eq_true] at h
  exact of_decide_eq_true h.1
theorem spec_Runs_ev (xs : List Int) : Ev (fun k => spec_Runs.f k xs) (runsR xs) := by
  unfold spec_Runs.f runsR
  refine ev_bind (spec_SymsOk_ev xs) (ev_ite (fun h => ?_) (fun h => ?_))
  · rw [if_pos h]
    exact spec_Runs_l0 xs (symsOk_len h) xs.length 0 (by omega)
  · rw [if_neg h]; exact ev_now _
theorem impl_Runs_f (xs : List Int) : impl_Runs.f xs = some (runsR xs) := by
  unfold impl_Runs.f runsR
  rw [impl_SymsOk_f, Option.bind_some]
  by_cases h : symsOk xs = true
  · have hl := symsOk_len h
    rw [if_pos h, if_pos h]
    unfold slices_Clone_int_int.f
    rw [Option.bind_some, if_pos (by rw [List.length_nil]; omega), Option.bind_some, List.nil_append]
    congr 2
    unfold Go.Lib.compact Go.Lib.compactUpTo runsN
    rw [List.length_map]
  · rw [if_neg h, if_neg h]
theorem FnExactRuns : laws_FnExactRuns.Pure := by
  intro l hl _ hw
  refine Ev.rounds ?_
  unfold laws_FnExactRuns.f
  refine ev_ite (fun _ => ev_now _) (fun h => ?_)
  have hm : l.length ≤ 35184372088832 := by omega
  refine ev_bind (laws_toIntS_ev l hm) (ev_bind (spec_Runs_ev l) (ev_bind (laws_toIntS_ev l hm) (ev_some (impl_Runs_f l) (ev_pos rfl ?_))))
  exact ev_bind (laws_toIntS_ev l hm) (ev_bind (laws_eqIntS_ev l l (by omega)) (ev_pos (by simp) (ev_now _)))

end Go.Proofs.Ytmjjnhnclebaiaa.Pure
