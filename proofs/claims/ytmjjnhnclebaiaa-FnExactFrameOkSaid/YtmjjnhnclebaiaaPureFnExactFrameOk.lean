/- The pure statement of the law FnExactFrameOk: the program's answers equal the reference's, for all arguments within the row's bounds. -/
import Derived.Test.YtmjjnhnclebaiaaQFnExactFrameOkx2
import Derived.Test.YtmjjnhnclebaiaaLib
namespace Go.Proofs.Ytmjjnhnclebaiaa.Pure
open Go.RowKit Go.Proofs.Ytmjjnhnclebaiaa.QFnExactFrameOk Go.Proofs.Ytmjjnhnclebaiaa.Lib Go.Proofs.YtmjjnhnclebaiaaW.PrintWords Go.Proofs.YtmjjnhnclebaiaaW.PrintLast Go.Proofs.YtmjjnhnclebaiaaW.PrintMore
set_option linter.unusedVariables false
set_option linter.unusedSimpArgs false

theorem laws_szByteS_f (l : List Int) (a : Nat) (hl : l.length ≤ maxLen) (ha : a ≤ 1099511627776) : laws_szByteS.f l (a : Int) = some (if a < l.length then -1 else ((a - l.length : Nat) : Int)) := by
  unfold maxLen at hl
  unfold laws_szByteS.f
  rw [w64 (by omega) (by omega)]
  by_cases h : a < l.length
  · rw [if_pos (by omega), if_pos h]
  · rw [if_neg (by omega), if_neg h]; congr 1; omega
theorem laws_szFrame_f (x : Int) (l : List Int) (a : Nat) (hl : l.length ≤ maxLen) (ha : a ≤ 1099511627776) : laws_szFrame.f x l (a : Int) = some (if a < l.length then -1 else ((a - l.length : Nat) : Int)) := by
  unfold laws_szFrame.f
  rw [laws_szByteS_f l a hl ha, Option.bind_some]
  by_cases h : a < l.length
  · rw [if_pos h]; rfl
  · rw [if_neg h, if_neg (by omega)]
theorem spec_FrameOk_f (a : Int) (l : List Int) : spec_FrameOk.f a l = some (decide (0 ≤ a ∧ a ≤ 255 ∧ l.length ≤ 8000)) := by
  unfold spec_FrameOk.f
  by_cases h : 0 ≤ a
  · rw [if_pos (by omega)]
    by_cases h' : a ≤ 255
    · rw [if_pos h']; congr 1; simp [h, h']; omega
    · rw [if_neg h']; simp [h']
  · rw [if_neg (by omega)]; simp [h]
theorem laws_toByteS_l0 (xs : List Int) (hm : xs.length ≤ 140737488355328) : ∀ (d n : Nat) (out : List Int), n + d = xs.length → out.length = xs.length → (∀ j, j < n → out[j]? = xs[j]?) → Ev (fun k => laws_toByteS.l0 k xs out (n : Int)) xs := by
  intro d
  induction d with
  | zero =>
    intro n out hn hl ho
    refine Ev.step (fun k => by rw [laws_toByteS.l0]) ?_
    refine ev_neg (by omega) (ev_now' ?_)
    apply List.ext_getElem? ; intro j
    by_cases hj : j < n
    · exact ho j hj
    · rw [List.getElem?_eq_none (by omega), List.getElem?_eq_none (by omega)]
  | succ d ih =>
    intro n out hn hl ho
    refine Ev.step (fun k => by rw [laws_toByteS.l0]) ?_
    refine ev_pos (by omega) (ev_pos (by omega) (ev_pos (by omega) ?_))
    rw [w64 (by omega) (by omega)]
    refine ih (n + 1) _ (by omega) (by simp [hl]) ?_
    intro j hj
    rw [Int.toNat_natCast, List.getElem?_set, rd_lt (by omega)]
    by_cases e : n = j
    · subst e; rw [if_pos rfl, if_pos (by omega), List.getElem?_eq_getElem (by omega)]
    · rw [if_neg e]; exact ho j (by omega)
theorem laws_toByteS_ev (xs : List Int) (hm : xs.length ≤ 140737488355328) : Ev (fun k => laws_toByteS.f k xs) xs := by
  unfold laws_toByteS.f
  refine ev_pos (by omega) (ev_pos (by omega) ?_)
  exact laws_toByteS_l0 xs hm xs.length 0 _ (by omega) (by simp) (by simp)
theorem laws_toFrame_ev (a : Int) (l : List Int) (hm : l.length ≤ 35184372088832) : Ev (fun k => laws_toFrame.f k a l) (a, l) := by
  unfold laws_toFrame.f
  exact ev_bind (laws_toByteS_ev l (by omega)) (ev_now _)
theorem impl_within_f (a b c : Int) : impl_within.f a b c = some (decide (b ≤ a ∧ a ≤ c)) := by
  unfold impl_within.f
  by_cases h : b ≤ a <;> simp [h]
theorem impl_FrameOk_f (a : Int) (l : List Int) : impl_FrameOk.f a l = some (decide (0 ≤ a ∧ a ≤ 255 ∧ l.length ≤ 8000)) := by
  unfold impl_FrameOk.f
  rw [impl_within_f, Option.bind_some]
  by_cases h : 0 ≤ a ∧ a ≤ 255
  · rw [if_pos (by simp [h])]; congr 1; simp [h]; omega
  · rw [if_neg (by simp; omega)]; congr 1; exact (decide_eq_false (by omega)).symm
theorem laws_eqByteS_l0 (xs ys : List Int) (hl : xs.length = ys.length) (hm : xs.length ≤ 140737488355328) : ∀ (d n : Nat), n + d = xs.length → Ev (fun k => laws_eqByteS.l0 k xs ys (n : Int)) (decide (xs.drop n = ys.drop n)) := by
  intro d
  induction d with
  | zero =>
    intro n hn
    refine Ev.step (fun k => by rw [laws_eqByteS.l0]) ?_
    refine ev_neg (by omega) (ev_now' ?_)
    rw [List.drop_eq_nil_of_le (by omega), List.drop_eq_nil_of_le (by omega)]; rfl
  | succ d ih =>
    intro n hn
    refine Ev.step (fun k => by rw [laws_eqByteS.l0]) ?_
    refine ev_pos (by omega) (ev_pos (by omega) (ev_pos (by omega) ?_))
    rw [rd_lt (by omega), rd_lt (by omega), w64 (by omega) (by omega)]
    rw [List.drop_eq_getElem_cons (show n < xs.length by omega), List.drop_eq_getElem_cons (show n < ys.length by omega)]
    refine ev_ite (fun h => ev_eq (ih (n + 1) (by omega)) ?_) (fun h => ev_now' ?_)
    · simp only [List.cons.injEq, h, true_and]
    · exact (decide_eq_false (fun e => h (List.cons.inj e).1)).symm
theorem laws_eqByteS_ev (xs ys : List Int) (hm : xs.length ≤ 140737488355328) : Ev (fun k => laws_eqByteS.f k xs ys) (decide (xs = ys)) := by
  unfold laws_eqByteS.f
  refine ev_ite (fun h => ?_) (fun h => ev_now' ?_)
  · exact laws_eqByteS_l0 xs ys (by omega) hm xs.length 0 (by omega)
  · exact (decide_eq_false (fun e => h (by rw [e]))).symm
theorem laws_eqFrame_ev (a : Int) (l : List Int) (b : Int) (m : List Int) (hm : l.length ≤ 140737488355328) : Ev (fun k => laws_eqFrame.f k a l b m) (decide (a = b ∧ l = m)) := by
  unfold laws_eqFrame.f
  refine ev_ite (fun h => ev_bind (laws_eqByteS_ev l m hm) (ev_ite (fun h' => ev_now' ?_) (fun h' => ev_now' ?_))) (fun h => ev_now' ?_)
  · simp at h'; simp [h, h']
  · simp at h'; simp [h']
  · simp [h]

theorem FnExactFrameOk : laws_FnExactFrameOk.Pure := by
  intro a l ha hl hw
  refine Ev.rounds ?_
  unfold laws_FnExactFrameOk.f
  refine ev_some (laws_szFrame_f a l 1048576 hl (by omega)) (ev_ite (fun _ => ev_now _) (fun h => ?_))
  have hm : l.length ≤ 1048576 := by
    by_cases h' : 1048576 < l.length
    · rw [if_pos h'] at h; omega
    · omega
  refine ev_bind (laws_toFrame_ev a l (by omega)) (ev_some (spec_FrameOk_f a l) (ev_bind (laws_toFrame_ev a l (by omega)) (ev_some (impl_FrameOk_f a l) (ev_neg (by simp) ?_))))
  refine ev_bind (laws_toFrame_ev a l (by omega)) (ev_bind (laws_eqFrame_ev a l a l (by omega)) ?_)
  exact ev_pos (by simp) (ev_now _)

end Go.Proofs.Ytmjjnhnclebaiaa.Pure
