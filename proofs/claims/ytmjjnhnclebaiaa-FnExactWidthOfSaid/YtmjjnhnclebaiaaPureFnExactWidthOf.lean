/- The pure statement of the law FnExactWidthOf: the program's answers equal the reference's, for all arguments within the row's bounds. -/
import Derived.Test.YtmjjnhnclebaiaaQFnExactWidthOfx1
import Derived.Test.YtmjjnhnclebaiaaLib
namespace Go.Proofs.Ytmjjnhnclebaiaa.Pure
open Go.RowKit Go.Proofs.Ytmjjnhnclebaiaa.QFnExactWidthOf Go.Proofs.Ytmjjnhnclebaiaa.Lib Go.Proofs.YtmjjnhnclebaiaaW.PrintWords Go.Proofs.YtmjjnhnclebaiaaW.PrintLast Go.Proofs.YtmjjnhnclebaiaaW.PrintMore
set_option linter.unusedVariables false
set_option linter.unusedSimpArgs false


theorem spec_WidthOf_l0 : ∀ (f n w : Nat), n < 2 ^ f → f ≤ 64 → w + f ≤ 64 → Ev (fun k => spec_WidthOf.l0 k (n : Int) (w : Int)) ((w + Go.Lib.bitLenAux f n : Nat) : Int) := by
  intro f
  induction f with
  | zero =>
    intro n w hn _ _
    refine Ev.step (fun k => by rw [spec_WidthOf.l0]) ?_
    exact ev_neg (by omega) (ev_now _)
  | succ f ih =>
    intro n w hn hf hw
    refine Ev.step (fun k => by rw [spec_WidthOf.l0]) ?_
    have hp : 2 ^ (f + 1) ≤ 2 ^ 64 := Nat.pow_le_pow_right (by decide) hf
    have hpp : 2 ^ (f + 1) = 2 ^ f * 2 := Nat.pow_succ ..
    rw [Go.Lib.bitLenAux]
    by_cases h : n = 0
    · rw [if_pos h]
      exact ev_neg (by omega) (ev_now _)
    · rw [if_neg h]
      refine ev_pos (by omega) ?_
      rw [show Int.tdiv (n : Int) 2 = ((n / 2 : Nat) : Int) from tdiv_nat n 2, w64 (n := (w : Int) + 1) (by omega) (by omega), w64 (n := ((n / 2 : Nat) : Int)) (by omega) (by omega)]
      refine ev_eq (ih (n / 2) (w + 1) (by omega) (by omega) (by omega)) ?_
      omega
theorem FnExactWidthOf : laws_FnExactWidthOf.Pure := by
  intro a ha
  have hr := wf_i64 ha
  refine Ev.rounds ?_
  unfold laws_FnExactWidthOf.f
  by_cases h : a < 0
  · have hs : Ev (fun k => spec_WidthOf.f k a) (-1) := by
      unfold spec_WidthOf.f
      exact ev_pos h (ev_now _)
    have hi : impl_WidthOf.f a = some (-1) := by
      unfold impl_WidthOf.f
      rw [if_pos h]
    exact ev_bind hs (ev_some hi (ev_pos rfl (ev_now _)))
  · obtain ⟨n, rfl⟩ : ∃ n : Nat, a = (n : Int) := ⟨a.toNat, by omega⟩
    have hs : Ev (fun k => spec_WidthOf.f k (n : Int)) ((Go.Lib.bitLen n : Nat) : Int) := by
      unfold spec_WidthOf.f
      refine ev_neg h (ev_eq (spec_WidthOf_l0 64 n 0 (by omega) (by omega) (by omega)) ?_)
      rw [Nat.zero_add]; rfl
    have hi : impl_WidthOf.f (n : Int) = some ((Go.Lib.bitLen n : Nat) : Int) := by
      unfold impl_WidthOf.f bits_Len.f bits_Len64.f
      rw [if_neg h, wraps_u64 _ (by omega) (by omega), if_pos ⟨by omega, by omega⟩, Int.toNat_natCast]
      rfl
    exact ev_bind hs (ev_some hi (ev_pos rfl (ev_now _)))

end Go.Proofs.Ytmjjnhnclebaiaa.Pure
