/- The pure statement of the law FnExactCrc: the program's answers equal the reference's, for all arguments within the row's bounds. -/
import Derived.Test.YtmjjnhnclebaiaaQFnExactCrcx1
import Derived.Test.YtmjjnhnclebaiaaLib
namespace Go.Proofs.Ytmjjnhnclebaiaa.Pure
open Go.RowKit Go.Proofs.Ytmjjnhnclebaiaa.QFnExactCrc Go.Proofs.Ytmjjnhnclebaiaa.Lib Go.Proofs.YtmjjnhnclebaiaaW.PrintWords Go.Proofs.YtmjjnhnclebaiaaW.PrintLast Go.Proofs.YtmjjnhnclebaiaaW.PrintMore
set_option linter.unusedVariables false
set_option linter.unusedSimpArgs false

theorem laws_toByteS_l0 (xs : List Int) (hm : xs.length ≤ 140737488355328) : ∀ (d n : Nat) (out : List Int), n + d = xs.length → out.length = xs.length → (∀ j, j < n → out[j]? = xs[j]?) → Ev (fun k => laws_toByteS.l0 k xs out (n : Int)) xs := by
  intro d
  induction d with
  | zero =>
    intro n out hn hl ho
    refine Ev.step (fun k => by rw [laws_toByteS.l0]) ?_
    refine ev_neg (by omega) (ev_now' ?_)
    apply List.ext_getElem? ; intro j
    by_cases hj : j < n
    · exact ho j hj
    · rw [List.getElem?_eq_none (by omega), List.getElem?_eq_none (by omega)]
  | succ d ih =>
    intro n out hn hl ho
    refine Ev.step (fun k => by rw [laws_toByteS.l0]) ?_
    refine ev_pos (by omega) (ev_pos (by omega) (ev_pos (by omega) ?_))
    rw [w64 (by omega) (by omega)]
    refine ih (n + 1) _ (by omega) (by simp [hl]) ?_
    intro j hj
    rw [Int.toNat_natCast, List.getElem?_set, rd_lt (by omega)]
    by_cases e : n = j
    · subst e; rw [if_pos rfl, if_pos (by omega), List.getElem?_eq_getElem (by omega)]
    · rw [if_neg e]; exact ho j (by omega)
theorem laws_toByteS_ev (xs : List Int) (hm : xs.length ≤ 140737488355328) : Ev (fun k => laws_toByteS.f k xs) xs := by
  unfold laws_toByteS.f
  refine ev_pos (by omega) (ev_pos (by omega) ?_)
  exact laws_toByteS_l0 xs hm xs.length 0 _ (by omega) (by simp) (by simp)
theorem laws_eqByteS_l0 (xs ys : List Int) (hl : xs.length = ys.length) (hm : xs.length ≤ 140737488355328) : ∀ (d n : Nat), n + d = xs.length → Ev (fun k => laws_eqByteS.l0 k xs ys (n : Int)) (decide (xs.drop n = ys.drop n)) := by
  intro d
  induction d with
  | zero =>
    intro n hn
    refine Ev.step (fun k => by rw [laws_eqByteS.l0]) ?_
    refine ev_neg (by omega) (ev_now' ?_)
    rw [List.drop_eq_nil_of_le (by omega), List.drop_eq_nil_of_le (by omega)]; rfl
  | succ d ih =>
    intro n hn
    refine Ev.step (fun k => by rw [laws_eqByteS.l0]) ?_
    refine ev_pos (by omega) (ev_pos (by omega) (ev_pos (by omega) ?_))
    rw [rd_lt (by omega), rd_lt (by omega), w64 (by omega) (by omega)]
    rw [List.drop_eq_getElem_cons (show n < xs.length by omega), List.drop_eq_getElem_cons (show n < ys.length by omega)]
    refine ev_ite (fun h => ev_eq (ih (n + 1) (by omega)) ?_) (fun h => ev_now' ?_)
    · simp only [List.cons.injEq, h, true_and]
    · exact (decide_eq_false (fun e => h (List.cons.inj e).1)).symm
theorem laws_eqByteS_ev (xs ys : List Int) (hm : xs.length ≤ 140737488355328) : Ev (fun k => laws_eqByteS.f k xs ys) (decide (xs = ys)) := by
  unfold laws_eqByteS.f
  refine ev_ite (fun h => ?_) (fun h => ev_now' ?_)
  · exact laws_eqByteS_l0 xs ys (by omega) hm xs.length 0 (by omega)
  · exact (decide_eq_false (fun e => h (by rw [e]))).symm
theorem spec_Crc_l1 (xs : List Int) (i : Nat) (r : Int) : ∀ (d j c : Nat), j + d = 8 → c < 2 ^ 32 → Ev (fun k => spec_Crc.l0 k xs ((crcIter d c : Nat) : Int) (wrap64 ((i : Int) + 1))) r → Ev (fun k => spec_Crc.l1 k xs (c : Int) (i : Int) (j : Int)) r := by
  intro d
  induction d with
  | zero =>
    intro j c hj hc h
    refine Ev.step (fun k => by rw [spec_Crc.l1]) ?_
    exact ev_neg (by omega) h
  | succ d ih =>
    intro j c hj hc h
    refine Ev.step (fun k => by rw [spec_Crc.l1]) ?_
    have e1 : Int.tmod (c : Int) 2 = ((c % 2 : Nat) : Int) := tmod_nat c 2
    have e2 : Int.tdiv (c : Int) 2 = ((c / 2 : Nat) : Int) := tdiv_nat c 2
    rw [e1, e2, w64 (n := (j : Int) + 1) (by omega) (by omega), w64 (n := ((c / 2 : Nat) : Int)) (by omega) (by omega), show (3988292384 : Int) = ((3988292384 : Nat) : Int) from rfl, xor_i64 _ _ (by omega) (by decide)]
    have hs := crcStep_lt hc
    refine ev_pos (by omega) (ev_ite (fun o => ?_) (fun o => ?_))
    · have e : crcStep c = (c / 2) ^^^ 3988292384 := by unfold crcStep; rw [if_pos (by omega)]
      rw [← e]
      exact ih (j + 1) _ (by omega) hs h
    · have e : crcStep c = c / 2 := by unfold crcStep; rw [if_neg (by omega)]
      rw [← e]
      exact ih (j + 1) _ (by omega) hs h
theorem spec_Crc_l0 (xs : List Int) (hm : xs.length ≤ 16000) (hb : ∀ b ∈ xs, 0 ≤ b ∧ b < 256) : ∀ (d n c : Nat), n + d = xs.length → c < 2 ^ 32 → Ev (fun k => spec_Crc.l0 k xs (c : Int) (n : Int)) ((crcAll ((xs.drop n).map Int.toNat) c ^^^ 4294967295 : Nat) : Int) := by
  intro d
  induction d with
  | zero =>
    intro n c hn hc
    refine Ev.step (fun k => by rw [spec_Crc.l0]) ?_
    refine ev_neg (by omega) (ev_now' ?_)
    rw [List.drop_eq_nil_of_le (by omega), show (4294967295 : Int) = ((4294967295 : Nat) : Int) from rfl, xor_i64 _ _ (by omega) (by decide)]
    rfl
  | succ d ih =>
    intro n c hn hc
    refine Ev.step (fun k => by rw [spec_Crc.l0]) ?_
    refine ev_pos (by omega) (ev_pos (by omega) ?_)
    have hx := hb _ (List.getElem_mem (show n < xs.length by omega))
    rw [rd_lt (show n < xs.length by omega), w64 (n := xs[n]) (by omega) (by omega)]
    have e : xs[n] = ((xs[n].toNat : Nat) : Int) := by omega
    rw [e, xor_i64 _ _ (by omega) (by omega)]
    have hlt : c ^^^ xs[n].toNat < 2 ^ 32 := Nat.xor_lt_two_pow hc (by omega)
    refine spec_Crc_l1 xs n _ 8 0 _ (by omega) hlt ?_
    rw [w64 (n := (n : Int) + 1) (by omega) (by omega)]
    refine ev_eq (ih (n + 1) _ (by omega) (crcIter_lt hlt)) ?_
    rw [List.drop_eq_getElem_cons (show n < xs.length by omega), List.map_cons, crcAll]
theorem spec_Crc_ev (xs : List Int) (hm : xs.length ≤ 16000) (hb : ∀ b ∈ xs, 0 ≤ b ∧ b < 256) : Ev (fun k => spec_Crc.f k xs) ((crcOf xs : Nat) : Int) := by
  unfold spec_Crc.f
  refine ev_neg (by omega) ?_
  exact spec_Crc_l0 xs hm hb xs.length 0 4294967295 (by omega) (by decide)
theorem spec_Crc_bad (xs : List Int) (hm : 16000 < xs.length) : Ev (fun k => spec_Crc.f k xs) (-1) := by
  unfold spec_Crc.f
  exact ev_pos (by omega) (ev_now _)
theorem impl_crc_l1 (xs : List Int) (m : Int) (i : Nat) (r : Int) : ∀ (d j c : Nat), j + d = 8 → c < 2 ^ 32 → Ev (fun k => impl_crc.l0 k ((crcIter d c : Nat) : Int) xs m (wrap64 ((i : Int) + 1))) r → Ev (fun k => impl_crc.l1 k (c : Int) xs m (i : Int) (j : Int)) r := by
  intro d
  induction d with
  | zero =>
    intro j c hj hc h
    refine Ev.step (fun k => by rw [impl_crc.l1]) ?_
    exact ev_neg (by omega) h
  | succ d ih =>
    intro j c hj hc h
    refine Ev.step (fun k => by rw [impl_crc.l1]) ?_
    have e2 : (c : Int) / 2 = ((c / 2 : Nat) : Int) := by omega
    have hs := crcStep_lt hc
    have e3 : (((c % 2 : Nat) : Int) * 3988292384) % 4294967296 = ((c % 2 * 3988292384 : Nat) : Int) := by omega
    rw [and1_u32 c hc, e2, e3, xor_u32 _ _ (by omega) (by omega), w64 (n := (j : Int) + 1) (by omega) (by omega)]
    refine ev_pos (by omega) ?_
    have e : crcStep c = (c / 2) ^^^ (c % 2 * 3988292384) := by
      unfold crcStep
      split
      · rename_i o; rw [o]
      · have o : c % 2 = 0 := by omega
        rw [o]; simp
    rw [← e]
    exact ih (j + 1) _ (by omega) hs h
theorem impl_crc_l0 (xs : List Int) (hm : xs.length ≤ 1099511627776) (hb : ∀ b ∈ xs, 0 ≤ b ∧ b < 256) : ∀ (d n c : Nat), n + d = xs.length → c < 2 ^ 32 → Ev (fun k => impl_crc.l0 k (c : Int) xs (xs.length : Int) (n : Int)) ((crcAll ((xs.drop n).map Int.toNat) c ^^^ 4294967295 : Nat) : Int) := by
  intro d
  induction d with
  | zero =>
    intro n c hn hc
    refine Ev.step (fun k => by rw [impl_crc.l0]) ?_
    refine ev_neg (by omega) (ev_now' ?_)
    have hlt : c ^^^ 4294967295 < 2 ^ 32 := Nat.xor_lt_two_pow hc (by decide)
    rw [List.drop_eq_nil_of_le (by omega), show (4294967295 : Int) = ((4294967295 : Nat) : Int) from rfl, xor_u32 _ _ (by omega) (by decide), w64 (by omega) (by omega)]
    rfl
  | succ d ih =>
    intro n c hn hc
    refine Ev.step (fun k => by rw [impl_crc.l0]) ?_
    refine ev_pos (by omega) (ev_pos (by omega) (ev_pos (by omega) ?_))
    have hx := hb _ (List.getElem_mem (show n < xs.length by omega))
    rw [rd_lt (show n < xs.length by omega)]
    have e : xs[n] % 4294967296 = ((xs[n].toNat : Nat) : Int) := by omega
    rw [e, xor_u32 _ _ (by omega) (by omega)]
    have hlt : c ^^^ xs[n].toNat < 2 ^ 32 := Nat.xor_lt_two_pow hc (by omega)
    refine impl_crc_l1 xs _ n _ 8 0 _ (by omega) hlt ?_
    rw [w64 (n := (n : Int) + 1) (by omega) (by omega)]
    refine ev_eq (ih (n + 1) _ (by omega) (crcIter_lt hlt)) ?_
    rw [List.drop_eq_getElem_cons (show n < xs.length by omega), List.map_cons, crcAll]
theorem impl_crc_ev (xs : List Int) (hm : xs.length ≤ 1099511627776) (hb : ∀ b ∈ xs, 0 ≤ b ∧ b < 256) : Ev (fun k => impl_crc.f k xs) ((crcOf xs : Nat) : Int) := by
  unfold impl_crc.f
  exact impl_crc_l0 xs hm hb xs.length 0 4294967295 (by omega) (by decide)
theorem impl_Crc_ev (xs : List Int) (hm : xs.length ≤ 16000) (hb : ∀ b ∈ xs, 0 ≤ b ∧ b < 256) : Ev (fun k => impl_Crc.f k xs) ((crcOf xs : Nat) : Int) := by
  unfold impl_Crc.f
  exact ev_neg (by omega) (ev_bind (impl_crc_ev xs (by omega) hb) (ev_now _))
theorem impl_Crc_bad (xs : List Int) (hm : 16000 < xs.length) : Ev (fun k => impl_Crc.f k xs) (-1) := by
  unfold impl_Crc.f
  exact ev_pos (by omega) (ev_now _)

theorem FnExactCrc : laws_FnExactCrc.Pure := by
  intro l hl _ hw
  have hb : ∀ b ∈ l, 0 ≤ b ∧ b < 256 := fun b h => wf_u8 (hw b h)
  refine Ev.rounds ?_
  unfold laws_FnExactCrc.f
  refine ev_ite (fun _ => ev_now _) (fun h => ?_)
  have hm : l.length ≤ 140737488355328 := by omega
  obtain ⟨c, hs, hi⟩ : ∃ c, Ev (fun k => spec_Crc.f k l) c ∧ Ev (fun k => impl_Crc.f k l) c := by
    by_cases h6 : l.length ≤ 16000
    · exact ⟨_, spec_Crc_ev l h6 hb, impl_Crc_ev l h6 hb⟩
    · exact ⟨_, spec_Crc_bad l (by omega), impl_Crc_bad l (by omega)⟩
  refine ev_bind (laws_toByteS_ev l hm) (ev_bind hs (ev_bind (laws_toByteS_ev l hm) (ev_bind hi (ev_pos rfl ?_))))
  refine ev_bind (laws_toByteS_ev l hm) (ev_bind (laws_eqByteS_ev l l hm) ?_)
  exact ev_pos (by simp) (ev_now _)

end Go.Proofs.Ytmjjnhnclebaiaa.Pure
