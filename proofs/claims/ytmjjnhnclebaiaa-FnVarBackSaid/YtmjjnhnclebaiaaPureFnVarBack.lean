/- The pure statement of the law FnVarBack: the program's answers equal the reference's, for all arguments within the row's bounds. -/
import Derived.Test.YtmjjnhnclebaiaaQFnVarBackx3
import Derived.Test.YtmjjnhnclebaiaaLib
namespace Go.Proofs.Ytmjjnhnclebaiaa.Pure
open Go.RowKit Go.Proofs.Ytmjjnhnclebaiaa.QFnVarBack Go.Proofs.Ytmjjnhnclebaiaa.Lib Go.Proofs.YtmjjnhnclebaiaaW.PrintWords Go.Proofs.YtmjjnhnclebaiaaW.PrintLast Go.Proofs.YtmjjnhnclebaiaaW.PrintMore
set_option linter.unusedVariables false
set_option linter.unusedSimpArgs false

def varOfR (v : Nat) : List Int := if v ≤ 4294967295 then varB 4 v else []
/-- reading on from byte i, of five at most -/
def varL (xs : List Int) (a : Nat) : Nat → Nat → Nat → Int × Int × Bool
  | 0, _, _ => (0, 0, false)
  | d + 1, i, acc =>
    if a + i < xs.length then
      (if xs.getD (a + i) 0 < 128 then
        (if (strOfNums (varOfR (acc + 128 ^ i * ((xs.getD (a + i) 0).toNat % 128)))).toList = (strOfNums ((xs.take (a + i + 1)).drop a)).toList then (((acc + 128 ^ i * ((xs.getD (a + i) 0).toNat % 128) : Nat) : Int), ((a + i + 1 : Nat) : Int), true) else (0, 0, false))
       else varL xs a d (i + 1) (acc + 128 ^ i * ((xs.getD (a + i) 0).toNat % 128)))
    else (0, 0, false)
theorem varL_step {i acc b : Nat} (h : acc < 128 ^ i) (hb : b < 128) : acc + 128 ^ i * b < 128 ^ (i + 1) := by
  have h1 : 128 ^ i * b ≤ 128 ^ i * 127 := Nat.mul_le_mul_left _ (by omega)
  rw [Nat.pow_succ]
  omega
def varReadR (xs : List Int) (a : Int) : Int × Int × Bool := if 0 ≤ a ∧ a < xs.length then varL xs a.toNat 5 0 0 else (0, 0, false)
theorem varL_ok (xs : List Int) (a : Nat) : ∀ (d i acc : Nat), (varL xs a d i acc).2.2 = true → ∃ n r : Nat, varL xs a d i acc = ((n : Int), (r : Int), true) ∧ a < r ∧ r ≤ xs.length ∧ (varOfR n).length = r - a := by
  intro d
  induction d with
  | zero => intro i acc h; rw [varL] at h; cases h
  | succ d ih =>
    intro i acc h
    rw [varL] at h ⊢
    by_cases h1 : a + i < xs.length
    · rw [if_pos h1] at h ⊢
      by_cases h2 : xs.getD (a + i) 0 < 128
      · rw [if_pos h2] at h ⊢
        by_cases h3 : (strOfNums (varOfR (acc + 128 ^ i * ((xs.getD (a + i) 0).toNat % 128)))).toList = (strOfNums ((xs.take (a + i + 1)).drop a)).toList
        · rw [if_pos h3]
          refine ⟨_, _, rfl, by omega, by omega, ?_⟩
          rw [strs_length h3, List.length_drop, List.length_take]; omega
        · rw [if_neg h3] at h; cases h
      · rw [if_neg h2] at h ⊢
        exact ih _ _ h
    · rw [if_neg h1] at h; cases h
theorem varReadR_ok (xs : List Int) (a : Nat) (h : (varReadR xs a).2.2 = true) : ∃ n r : Nat, varReadR xs a = ((n : Int), (r : Int), true) ∧ a < r ∧ r ≤ xs.length ∧ (varOfR n).length = r - a := by
  unfold varReadR at h ⊢
  by_cases h1 : 0 ≤ (a : Int) ∧ (a : Int) < xs.length
  · rw [if_pos h1] at h ⊢
    exact varL_ok xs a 5 0 0 h
  · rw [if_neg h1] at h; cases h
theorem impl_WidthOf_f (n : Nat) (h : n < 2 ^ 63) : impl_WidthOf.f (n : Int) = some ((Go.Lib.bitLen n : Nat) : Int) := by
  unfold impl_WidthOf.f bits_Len.f bits_Len64.f
  rw [if_neg (by omega), wraps_u64 _ (by omega) (by omega), if_pos ⟨by omega, by omega⟩, Int.toNat_natCast]
  rfl
theorem spec_VarOf_l0 : ∀ (f n : Nat) (acc : List Int), n < 128 ^ (f + 1) → f ≤ 8 → acc.length + f ≤ 100 → Ev (fun k => spec_VarOf.l0 k (n : Int) acc) (acc ++ varB f n) := by
  intro f
  induction f with
  | zero =>
    intro n acc hn hf hl
    refine Ev.step (fun k => by rw [spec_VarOf.l0]) ?_
    refine ev_neg (by omega) (ev_pos (by omega) (ev_now' rfl))
  | succ f ih =>
    intro n acc hn hf hl
    refine Ev.step (fun k => by rw [spec_VarOf.l0]) ?_
    have hp : 128 ^ (f + 1) ≤ 128 ^ 8 := Nat.pow_le_pow_right (by decide) (by omega)
    have hpp : 128 ^ (f + 1 + 1) = 128 ^ (f + 1) * 128 := Nat.pow_succ ..
    have hq : n / 128 < 128 ^ (f + 1) := by rw [Nat.div_lt_iff_lt_mul (by decide)]; omega
    by_cases h : 128 ≤ n
    · refine ev_pos (by omega) (ev_pos (by omega) ?_)
      have e1 : Int.tdiv (n : Int) 128 = ((n / 128 : Nat) : Int) := tdiv_nat n 128
      have e2 : Int.tmod (n : Int) 128 = ((n % 128 : Nat) : Int) := tmod_nat n 128
      rw [e1, e2, w64 (by omega) (by omega), w64 (by omega) (by omega)]
      refine ev_eq (ih (n / 128) _ hq (by omega) (by simp; omega)) ?_
      rw [varB, if_pos h, List.append_assoc, List.singleton_append]
      congr 2
      omega
    · refine ev_neg (by omega) (ev_pos (by omega) (ev_now' ?_))
      rw [varB, if_neg h]
theorem spec_VarOf_ev (n : Nat) (h : n ≤ 4294967295) : Ev (fun k => spec_VarOf.f k (n : Int)) (varB 4 n) := by
  unfold spec_VarOf.f
  refine ev_neg (by omega) (Ev.step (fun k => by rw [spec_VarOf.j0]) (ev_neg (by simp; omega) ?_))
  exact spec_VarOf_l0 4 n [] (by omega) (by omega) (by simp)
theorem spec_VarOf_bad (a : Int) (h : a < 0 ∨ 4294967295 < a) : Ev (fun k => spec_VarOf.f k a) [] := by
  unfold spec_VarOf.f
  refine ev_ite (fun _ => Ev.step (fun k => by rw [spec_VarOf.j0]) (ev_pos rfl (ev_now _))) (fun _ => Ev.step (fun k => by rw [spec_VarOf.j0]) (ev_pos (by simp; omega) (ev_now _)))
theorem impl_within_f (a b c : Int) : impl_within.f a b c = some (decide (b ≤ a ∧ a ≤ c)) := by
  unfold impl_within.f
  by_cases h : b ≤ a <;> simp [h]
theorem impl_VarOf_l0 : ∀ (f n : Nat) (acc : List Int), n < 128 ^ (f + 1) → f ≤ 8 → acc.length + f ≤ 100 → Ev (fun k => impl_VarOf.l0 k (n : Int) acc) (acc ++ varB f n) := by
  intro f
  induction f with
  | zero =>
    intro n acc hn hf hl
    refine Ev.step (fun k => by rw [impl_VarOf.l0]) ?_
    refine ev_neg (by omega) (ev_pos (by omega) (ev_now' rfl))
  | succ f ih =>
    intro n acc hn hf hl
    refine Ev.step (fun k => by rw [impl_VarOf.l0]) ?_
    have hp : 128 ^ (f + 1) ≤ 128 ^ 8 := Nat.pow_le_pow_right (by decide) (by omega)
    have hpp : 128 ^ (f + 1 + 1) = 128 ^ (f + 1) * 128 := Nat.pow_succ ..
    have hq : n / 128 < 128 ^ (f + 1) := by rw [Nat.div_lt_iff_lt_mul (by decide)]; omega
    by_cases h : 128 ≤ n
    · refine ev_pos (by omega) (ev_pos (by omega) ?_)
      have e1 : (n : Int) / 128 = ((n / 128 : Nat) : Int) := by omega
      have e2 : Go.bits .or .i64 (Go.bits .and .i64 (n : Int) 127) 128 = ((128 + n % 128 : Nat) : Int) := by
        rw [i64_and127, show (n : Int) % 128 = ((n % 128 : Nat) : Int) by omega, show (128 : Int) = ((128 : Nat) : Int) from rfl, or_i64 _ _ (by omega) (by decide)]
        congr 1
        have := Nat.two_pow_add_eq_or_of_lt (i := 7) (b := n % 128) (by omega) 1
        rw [Nat.or_comm]
        simpa using this.symm
      rw [e1, e2]
      refine ev_eq (ih (n / 128) _ hq (by omega) (by simp; omega)) ?_
      rw [varB, if_pos h, List.append_assoc, List.singleton_append]
      congr 2
      omega
    · refine ev_neg (by omega) (ev_pos (by omega) (ev_now' ?_))
      rw [varB, if_neg h]
theorem impl_VarOf_ev (n : Nat) (h : n ≤ 4294967295) : Ev (fun k => impl_VarOf.f k (n : Int)) (varB 4 n) := by
  unfold impl_VarOf.f
  refine ev_some (impl_within_f _ _ _) (ev_pos (by simp; omega) ?_)
  exact impl_VarOf_l0 4 n [] (by omega) (by omega) (by simp)
theorem impl_VarOf_bad (a : Int) (h : a < 0 ∨ 4294967295 < a) : Ev (fun k => impl_VarOf.f k a) [] := by
  unfold impl_VarOf.f
  exact ev_some (impl_within_f _ _ _) (ev_neg (by simp; omega) (ev_now _))
theorem impl_VarOf_R (v : Nat) : Ev (fun k => impl_VarOf.f k (v : Int)) (varOfR v) := by
  unfold varOfR
  split
  · rename_i h; exact impl_VarOf_ev v h
  · exact impl_VarOf_bad _ (by omega)
theorem wraps_u8 (n : Int) (h₀ : 0 ≤ n) (h₁ : n < 2 ^ 8) : IntKind.u8.wrap n = n := by rw [IntKind.wrap_u8']; omega
theorem impl_VarRead_l0 (xs : List Int) (a : Nat) (hm : xs.length ≤ 1048576) (ha : a ≤ xs.length) (hw : ∀ x ∈ xs, 0 ≤ x ∧ x < 256) : ∀ (d i acc : Nat), i + d = 5 → acc < 128 ^ i → Ev (fun k => impl_VarRead.l0 k xs (a : Int) (acc : Int) (xs.drop a) ((xs.drop a).length : Int) (i : Int)) (varL xs a d i acc) := by
  intro d
  induction d with
  | zero =>
    intro i acc hi hacc
    refine Ev.step (fun k => by rw [impl_VarRead.l0]) ?_
    rw [varL]
    exact ev_ite (fun _ => ev_pos (by omega) (ev_pos (by omega) (ev_pos (by omega) (ev_now _)))) (fun _ => ev_now _)
  | succ d ih =>
    intro i acc hi hacc
    refine Ev.step (fun k => by rw [impl_VarRead.l0]) ?_
    rw [varL]
    have hdl : (xs.drop a).length = xs.length - a := List.length_drop ..
    by_cases hlt : a + i < xs.length
    · have hx := hw _ (List.getElem_mem hlt)
      have hlt' : i < (xs.drop a).length := by omega
      obtain ⟨b, e⟩ : ∃ b : Nat, xs[a + i] = (b : Int) := ⟨xs[a + i].toNat, by omega⟩
      have hv := varL_step (b := b % 128) hacc (by omega)
      have hp5 : 128 ^ (i + 1) ≤ 128 ^ 5 := Nat.pow_le_pow_right (by decide) (by omega)
      have hpp : 128 ^ (i + 1) = 128 ^ i * 128 := Nat.pow_succ ..
      have e7 : wrap64 (7 * (i : Int)) = ((7 * i : Nat) : Int) := by rw [w64 (by omega) (by omega)]; omega
      have h27 : 2 ^ (7 * i) = 128 ^ i := by rw [Nat.pow_mul]
      have ev : Go.bits .or .i64 (acc : Int) (shl .i64 (wrap64 (Go.bits .and .u8 (b : Int) 127)) ((7 * i : Nat) : Int)) = ((acc + 128 ^ i * (b % 128) : Nat) : Int) := by
        have h := bits_mask .u8 8 (by decide) wraps_u8 7 (by decide) (b : Int) (by omega) (by omega)
        rw [show ((2 : Int) ^ 7 - 1) = 127 by decide, show (b : Int) % 2 ^ 7 = ((b % 128 : Nat) : Int) by omega] at h
        rw [h, w64 (by omega) (by omega), shl_i64 _ _ (by omega), ← Int.natCast_mul, h27, Nat.mul_comm (b % 128), w64 (by omega) (by omega), or_i64 _ _ (by omega) (by omega)]
        congr 1
        rw [← h27, Nat.or_comm, ← Nat.two_pow_add_eq_or_of_lt (by rw [h27]; exact hacc), Nat.add_comm]
      rw [if_pos hlt, rd_lt hlt', List.getElem_drop, List.getD_eq_getElem?_getD, List.getElem?_eq_getElem hlt, Option.getD_some, e, Int.toNat_natCast, e7, ev, w64 (n := (i : Int) + 1) (by omega) (by omega)]
      refine ev_pos (by omega) (ev_pos (by omega) (ev_pos (by omega) (ev_neg (by omega) (ev_pos (by omega) ?_))))
      refine ev_ite (fun h => ?_) (fun h => ?_)
      · rw [if_neg (by omega)]
        exact ih (i + 1) _ (by omega) hv
      · rw [if_pos (by omega)]
        refine ev_bind (impl_VarOf_R _) ?_
        rw [w64 (n := (a : Int) + (i : Int)) (by omega) (by omega), w64 (n := (a : Int) + (i : Int) + 1) (by omega) (by omega), show (a : Int) + (i : Int) + 1 = ((a + i + 1 : Nat) : Int) by omega, Int.toNat_natCast, Int.toNat_natCast]
        refine ev_pos (by omega) (ev_pos (by omega) (ev_pos (by omega) (ev_some rfl ?_)))
        by_cases h : (strOfNums (varOfR (acc + 128 ^ i * (b % 128)))).toList = (strOfNums ((xs.take (a + i + 1)).drop a)).toList
        · rw [if_pos h]; exact ev_pos (by rw [beq_iff_eq]; exact h) (ev_now _)
        · rw [if_neg h]; exact ev_neg (by rw [beq_iff_eq]; exact h) (ev_now _)
    · rw [if_neg hlt]
      exact ev_neg (by omega) (ev_now _)
theorem impl_VarRead_ev (xs : List Int) (a : Int) (hm : xs.length ≤ 1048576) (hw : ∀ x ∈ xs, 0 ≤ x ∧ x < 256) : Ev (fun k => impl_VarRead.f k xs a) (varReadR xs a) := by
  unfold impl_VarRead.f varReadR
  refine ev_some (impl_within_f a 0 _) ?_
  by_cases h : 0 ≤ a ∧ a ≤ xs.length
  · rw [decide_eq_true h]
    obtain ⟨a, rfl⟩ : ∃ a' : Nat, a = (a' : Int) := ⟨a.toNat, by omega⟩
    rw [Int.toNat_natCast]
    refine ev_pos rfl (ev_pos (by omega) (ev_pos (by omega) (ev_some rfl ?_)))
    have key := impl_VarRead_l0 xs a hm (by omega) hw 5 0 0 (by omega) (by decide)
    by_cases h1 : (a : Int) < xs.length
    · rw [if_pos ⟨by omega, h1⟩]; exact key
    · rw [if_neg (by omega)]
      rw [varL, if_neg (by omega)] at key
      exact key
  · rw [decide_eq_false h, if_neg (by omega)]
    exact ev_neg (by decide) (ev_now _)
theorem rd_all {l : List Int} {P : Int → Prop} (h : ∀ x ∈ l, P x) {v : Int} (h0 : 0 ≤ v) (h1 : v < l.length) : P (rd l v) := by
  rw [rd_of h0 h1]; exact h _ (List.getElem_mem _)
/-- what a drawing keeps of its state: the place, the seed -/
def drawOk (p s : Int) : Prop := 0 ≤ p ∧ p ≤ 1000000000000 ∧ 0 ≤ s ∧ s < 70000
theorem pick_ok (code : List Int) (hb : ∀ b ∈ code, 0 ≤ b ∧ b < 256) (p s a : Int) (h : drawOk p s) : ∃ v q s', spec_l01Cur_pick.f code p s a = some (v, q, s') ∧ p ≤ q ∧ q ≤ p + 1 ∧ 0 ≤ s' ∧ s' < 70000 ∧ 0 ≤ v ∧ (v < a ∨ v = 0) := by
  obtain ⟨h1, h2, h3, h4⟩ := h
  unfold spec_l01Cur_pick.f
  by_cases c1 : a < 2
  · rw [if_pos c1]
    exact ⟨0, p, s, rfl, by omega, by omega, h3, h4, by omega, Or.inr rfl⟩
  · rw [if_neg c1]
    have e3 : wrap64 (s * 1103) = s * 1103 := w64 (by omega) (by omega)
    have e4 : wrap64 (s * 1103 + 12345) = s * 1103 + 12345 := w64 (by omega) (by omega)
    have e5 : Int.tmod (s * 1103 + 12345) 65521 = (s * 1103 + 12345) % 65521 := Int.tmod_eq_emod_of_nonneg (by omega)
    have e2 : wrap64 (p + 1) = p + 1 := w64 (by omega) (by omega)
    by_cases c2 : p < (code.length : Int)
    · rw [if_pos c2, if_pos h1, if_neg (by omega), e2]
      have hx : 0 ≤ rd code p ∧ rd code p < 256 := by rw [rd_of h1 c2]; exact hb _ (List.getElem_mem _)
      rw [w64 (by omega) (by omega), Int.tmod_eq_emod_of_nonneg (by omega)]
      exact ⟨_, _, _, rfl, by omega, by omega, h3, h4, Int.emod_nonneg _ (by omega), Or.inl (Int.emod_lt_of_pos _ (by omega))⟩
    · rw [if_neg c2, e2, e3, e4, e5]
      by_cases c3 : (code.length : Int) > 0
      · have e6 : Int.tmod p (code.length : Int) = p % (code.length : Int) := Int.tmod_eq_emod_of_nonneg h1
        have m1 := Int.emod_nonneg p (b := (code.length : Int)) (by omega)
        have m2 := Int.emod_lt_of_pos p c3
        rw [if_pos c3, if_neg (by omega), e6, if_pos m1, if_pos m2, if_neg (by omega)]
        have hx : 0 ≤ rd code (p % (code.length : Int)) ∧ rd code (p % (code.length : Int)) < 256 := by rw [rd_of m1 m2]; exact hb _ (List.getElem_mem _)
        have e7 : Int.tdiv ((s * 1103 + 12345) % 65521) 7 = (s * 1103 + 12345) % 65521 / 7 := Int.tdiv_eq_ediv_of_nonneg (by omega)
        rw [e7, w64 (n := (s * 1103 + 12345) % 65521 / 7) (by omega) (by omega), w64 (n := rd code (p % (code.length : Int))) (by omega) (by omega), w64 (by omega) (by omega), Int.tmod_eq_emod_of_nonneg (by omega)]
        exact ⟨_, _, _, rfl, by omega, by omega, by omega, by omega, Int.emod_nonneg _ (by omega), Or.inl (Int.emod_lt_of_pos _ (by omega))⟩
      · rw [if_neg c3, if_neg (by omega), Int.zero_emod]
        exact ⟨_, _, _, rfl, by omega, by omega, by omega, by omega, by omega, Or.inr rfl⟩
def i64r (v : Int) : Prop := -9223372036854775808 ≤ v ∧ v ≤ 9223372036854775807
theorem wrap_i64r (v : Int) : i64r (wrap64 v) := by unfold i64r wrap64; omega
theorem raw_ok (code : List Int) (hb : ∀ b ∈ code, 0 ≤ b ∧ b < 256) (p s : Int) (h : drawOk p s) (h2 : p ≤ 900000000000) : ∃ v q s', spec_l01Cur_raw.f code p s = some (v, q, s') ∧ p ≤ q ∧ q ≤ p + 2 ∧ 0 ≤ s' ∧ s' < 70000 ∧ i64r v := by
  unfold spec_l01Cur_raw.f
  obtain ⟨v1, q1, s1, e1, a1, b1, c1, d1, _, _⟩ := pick_ok code hb p s 8 h
  have k1 : drawOk q1 s1 := ⟨by have := h.1; omega, by omega, c1, d1⟩
  rw [e1, Option.bind_some]
  simp only
  by_cases g0 : v1 = 0
  · rw [if_pos g0]
    obtain ⟨v2, q2, s2, e2, a2, b2, c2, d2, _, _⟩ := pick_ok code hb q1 s1 256 k1
    rw [e2]
    exact ⟨wrap64 (v2 - 128), q2, s2, rfl, by omega, by omega, c2, d2, wrap_i64r _⟩
  · rw [if_neg g0]
    by_cases g1 : v1 = 1
    · rw [if_pos g1, Option.bind_some]
      obtain ⟨v2, q2, s2, e2, a2, b2, c2, d2, f2, f3⟩ := pick_ok code hb q1 s1 8 k1
      rw [e2, Option.bind_some]
      simp only
      rw [if_pos f2, if_pos (by simp; omega)]
      refine ⟨_, _, _, rfl, by omega, by omega, c2, d2, ?_⟩
      have hv : v2 < 8 := by omega
      obtain ⟨n, rfl⟩ : ∃ n : Nat, v2 = (n : Int) := ⟨v2.toNat, by omega⟩
      rw [rd_nat]
      have hn : n < 8 := by omega
      unfold i64r
      match n, hn with
      | 0, _ => decide
      | 1, _ => decide
      | 2, _ => decide
      | 3, _ => decide
      | 4, _ => decide
      | 5, _ => decide
      | 6, _ => decide
      | 7, _ => decide
    · rw [if_neg g1]
      obtain ⟨v2, q2, s2, e2, a2, b2, c2, d2, _, _⟩ := pick_ok code hb q1 s1 14 k1
      rw [e2]
      exact ⟨wrap64 (v2 - 3), q2, s2, rfl, by omega, by omega, c2, d2, wrap_i64r _⟩
theorem wide_ok (code : List Int) (hb : ∀ b ∈ code, 0 ≤ b ∧ b < 256) (p s a : Int) (ha : 1 ≤ a) (h : drawOk p s) (hp : p ≤ 900000000000) : ∃ v q s', spec_l01Cur_wide.f code p s a = some (v, q, s') ∧ p ≤ q ∧ q ≤ p + 3 ∧ 0 ≤ s' ∧ s' < 70000 ∧ 0 ≤ v ∧ v < a ∧ v ≤ 16777215 := by
  have hh := h.1
  unfold spec_l01Cur_wide.f
  obtain ⟨v1, q1, s1, e1, a1, b1, c1, d1, f1, g1⟩ := pick_ok code hb p s 256 h
  obtain ⟨v2, q2, s2, e2, a2, b2, c2, d2, f2, g2⟩ := pick_ok code hb q1 s1 256 ⟨by omega, by omega, c1, d1⟩
  obtain ⟨v3, q3, s3, e3, a3, b3, c3, d3, f3, g3⟩ := pick_ok code hb q2 s2 256 ⟨by omega, by omega, c2, d2⟩
  rw [e1, Option.bind_some]
  simp only
  rw [e2, Option.bind_some]
  simp only
  rw [e3, Option.bind_some]
  simp only
  rw [if_neg (by omega), w64 (n := 65536 * v1) (by omega) (by omega), w64 (n := 256 * v2) (by omega) (by omega), w64 (n := 65536 * v1 + 256 * v2) (by omega) (by omega), w64 (n := 65536 * v1 + 256 * v2 + v3) (by omega) (by omega), Int.tmod_eq_emod_of_nonneg (by omega)]
  have m1 := Int.emod_nonneg (65536 * v1 + 256 * v2 + v3) (b := a) (by omega)
  have m2 := Int.emod_lt_of_pos (65536 * v1 + 256 * v2 + v3) (show 0 < a by omega)
  have m3 : (65536 * v1 + 256 * v2 + v3) % a ≤ 65536 * v1 + 256 * v2 + v3 := by
    rcases Int.lt_or_le (65536 * v1 + 256 * v2 + v3) a with g | g
    · rw [Int.emod_eq_of_lt (by omega) g]; exact Int.le_refl _
    · omega
  exact ⟨_, _, _, rfl, by omega, by omega, c3, d3, m1, m2, by omega⟩
theorem DrawVarOf_ok (code : List Int) (hb : ∀ b ∈ code, 0 ≤ b ∧ b < 256) : ∃ n, spec_DrawVarOf.f code = some n ∧ i64r n := by
  unfold spec_DrawVarOf.f
  have h0 : spec_l01Open.f code = some (code, 0, 89 + ((code.length : Int) % 1000)) := rfl
  obtain ⟨v1, q1, s1, e1, a1, b1, c1, d1, f1⟩ := raw_ok code hb 0 (89 + ((code.length : Int) % 1000)) ⟨by omega, by omega, by omega, by omega⟩ (by omega)
  obtain ⟨v2, q2, s2, e2, a2, b2, c2, d2, f2, g2, h2⟩ := wide_ok code hb q1 s1 16777216 (by omega) ⟨by omega, by omega, c1, d1⟩ (by omega)
  obtain ⟨v3, q3, s3, e3, a3, b3, c3, d3, f3, g3⟩ := pick_ok code hb q2 s2 256 ⟨by omega, by omega, c2, d2⟩
  obtain ⟨v4, q4, s4, e4, a4, b4, c4, d4, f4, g4⟩ := pick_ok code hb q3 s3 3 ⟨by omega, by omega, c3, d3⟩
  obtain ⟨v5, q5, s5, e5, a5, b5, c5, d5, f5, g5⟩ := pick_ok code hb q4 s4 4 ⟨by omega, by omega, c4, d4⟩
  have hl : v5 < (([v1, wrap64 (v2 * 256), v3, wrap64 (16383 + v4)] : List Int).length : Int) := by simp; omega
  refine ⟨rd [v1, wrap64 (v2 * 256), v3, wrap64 (16383 + v4)] v5, ?_, rd_all (P := i64r) (fun x hx => ?_) f5 hl⟩
  · rw [h0, Option.bind_some]
    simp only
    rw [e1, Option.bind_some]
    simp only
    rw [e2, Option.bind_some]
    simp only
    rw [e3, Option.bind_some]
    simp only
    rw [e4, Option.bind_some]
    simp only
    rw [Option.bind_some, e5, Option.bind_some]
    simp only
    rw [if_pos f5, if_pos hl]
  · simp only [List.mem_cons, List.not_mem_nil, or_false] at hx
    rcases hx with rfl | rfl | rfl | rfl
    · exact f1
    · exact wrap_i64r _
    · unfold i64r; omega
    · exact wrap_i64r _
theorem laws_pick_l0 (code : List Int) (hb : ∀ b ∈ code, 0 ≤ b ∧ b < 256) (hm : code.length ≤ 1048576) (h0 : 0 < code.length) (a1 x2 : Int) (ha : 0 ≤ a1 ∧ a1 ≤ 1000) (hx : 1 ≤ x2) : ∀ (d i : Nat) (x7 : Int), i + d = 3 → 0 ≤ x7 → x7 ≤ 255 * 40 ^ i → ∃ v, Ev (fun k => laws_pick.l0 k code a1 x2 x7 (i : Int)) v ∧ 0 ≤ v ∧ v < x2 := by
  intro d
  induction d with
  | zero =>
    intro i x7 hi h1 h2
    have e : i = 3 := by omega
    subst e
    have h2 : x7 ≤ 16320000 := h2
    refine ⟨Int.tmod (wrap64 (x7 + a1)) x2, Ev.step (fun k => by rw [laws_pick.l0]) (ev_neg (by omega) (ev_neg (by omega) (ev_now _))), ?_⟩
    rw [w64 (by omega) (by omega), Int.tmod_eq_emod_of_nonneg (by omega)]
    exact ⟨Int.emod_nonneg _ (by omega), Int.emod_lt_of_pos _ (by omega)⟩
  | succ d ih =>
    intro i x7 hi h1 h2
    have hp : (40 : Int) ^ i ≤ 1600 ∧ (40 : Int) ^ (i + 1) = 40 ^ i * 40 ∧ 1 ≤ (40 : Int) ^ i := by
      have hi3 : i < 3 := by omega
      match i, hi3 with
      | 0, _ => decide
      | 1, _ => decide
      | 2, _ => decide
    have e1 : wrap64 (a1 + (i : Int)) = a1 + (i : Int) := w64 (by omega) (by omega)
    have e2 : Int.tmod (a1 + (i : Int)) (code.length : Int) = (a1 + (i : Int)) % (code.length : Int) := Int.tmod_eq_emod_of_nonneg (by omega)
    have m1 := Int.emod_nonneg (a1 + (i : Int)) (b := (code.length : Int)) (by omega)
    have m2 := Int.emod_lt_of_pos (a1 + (i : Int)) (show (0 : Int) < (code.length : Int) by omega)
    have hr : 0 ≤ rd code ((a1 + (i : Int)) % (code.length : Int)) ∧ rd code ((a1 + (i : Int)) % (code.length : Int)) < 256 := by rw [rd_of m1 m2]; exact hb _ (List.getElem_mem _)
    obtain ⟨v, k1, k2, k3⟩ := ih (i + 1) (31 * x7 + rd code ((a1 + (i : Int)) % (code.length : Int))) (by omega) (by omega) (by omega)
    refine ⟨v, ?_, k2, k3⟩
    refine Ev.step (fun k => by rw [laws_pick.l0]) (ev_pos (by omega) (ev_neg (by omega) ?_))
    rw [e1, e2]
    refine ev_pos m1 (ev_pos m2 ?_)
    rw [w64 (n := 31 * x7) (by omega) (by omega), w64 (n := rd code ((a1 + (i : Int)) % (code.length : Int))) (by omega) (by omega), w64 (n := 31 * x7 + rd code ((a1 + (i : Int)) % (code.length : Int))) (by omega) (by omega), w64 (by omega) (by omega)]
    exact k1
theorem laws_pick_ev (code : List Int) (hb : ∀ b ∈ code, 0 ≤ b ∧ b < 256) (hm : code.length ≤ 1048576) (a1 x2 : Int) (ha : 0 ≤ a1 ∧ a1 ≤ 1000) (hx : 1 ≤ x2) : ∃ v, Ev (fun k => laws_pick.f k code a1 x2) v ∧ 0 ≤ v ∧ v < x2 := by
  unfold laws_pick.f
  have bad : Ev (fun k => laws_pick.j0 k code a1 x2 true) 0 := Ev.step (fun k => by rw [laws_pick.j0]) (ev_pos rfl (ev_now _))
  by_cases h0 : code.length = 0
  · exact ⟨0, ev_pos (by omega) bad, by omega, by omega⟩
  · by_cases h2 : x2 < 2
    · exact ⟨0, ev_neg (by omega) (by rw [decide_eq_true h2]; exact bad), by omega, by omega⟩
    · obtain ⟨v, k1, k2, k3⟩ := laws_pick_l0 code hb hm (by omega) a1 x2 ha hx 3 0 0 (by omega) (by omega) (by omega)
      refine ⟨v, ev_neg (by omega) ?_, k2, k3⟩
      rw [decide_eq_false h2]
      refine Ev.step (fun k => by rw [laws_pick.j0]) ?_
      exact ev_neg (by decide) k1
/-! ### a number is read back -/
theorem varL_back (xs : List Int) (a n : Nat) (suf : List Int) (hx : xs.drop a = varB 4 n ++ suf) (hn : n ≤ 4294967295) : ∀ (f d i acc q : Nat), f + 1 ≤ d → q < 128 ^ (f + 1) → n = acc + 128 ^ i * q → xs.drop (a + i) = varB f q ++ suf →
    varL xs a d i acc = ((n : Int), ((a + (varB 4 n).length : Nat) : Int), true) := by
  have hlen : xs.length = a + (varB 4 n).length + suf.length := by
    have h := congrArg List.length hx
    have h1 := (varB_length 4 n).1
    rw [List.length_drop, List.length_append] at h
    omega
  have stop : ∀ (f d i acc q : Nat), q < 128 → n = acc + 128 ^ i * q → xs.drop (a + i) = [(((q : Nat)) : Int) % 256] ++ suf → varL xs a (d + 1) i acc = ((n : Int), ((a + (varB 4 n).length : Nat) : Int), true) := by
    intro f d i acc q hq hnq hd
    have h := congrArg List.length hd
    rw [List.length_drop, List.length_append, List.length_singleton] at h
    have hl : (varB 4 n).length = i + 1 := by omega
    have hg : xs.getD (a + i) 0 = (q : Int) := by
      have h2 : (xs.drop (a + i)).getD 0 0 = (q : Int) % 256 := by rw [hd]; rfl
      rw [List.getD_eq_getElem?_getD, List.getElem?_drop, Nat.add_zero, ← List.getD_eq_getElem?_getD] at h2
      omega
    rw [varL, if_pos (by omega), hg, Int.toNat_natCast, if_pos (by omega), show q % 128 = q by omega, ← hnq]
    have hc : (xs.take (a + i + 1)).drop a = varB 4 n := by
      rw [List.drop_take, hx, show a + i + 1 - a = (varB 4 n).length by omega, List.take_left]
    rw [hc, if_pos (by unfold varOfR; rw [if_pos hn]), hl]
    rfl
  intro f
  induction f with
  | zero =>
    intro d i acc q hd hq hnq hx'
    obtain ⟨d, rfl⟩ : ∃ d', d = d' + 1 := ⟨d - 1, by omega⟩
    exact stop 0 d i acc q (by simpa using hq) hnq hx'
  | succ f ih =>
    intro d i acc q hd hq hnq hx'
    obtain ⟨d, rfl⟩ : ∃ d', d = d' + 1 := ⟨d - 1, by omega⟩
    rw [varB] at hx'
    by_cases h128 : 128 ≤ q
    · rw [if_pos h128, List.cons_append] at hx'
      have h := congrArg List.length hx'
      rw [List.length_drop, List.length_cons] at h
      have hlt : a + i < xs.length := by omega
      have hg : xs.getD (a + i) 0 = ((128 + q % 128 : Nat) : Int) := by
        have h2 : (xs.drop (a + i)).getD 0 0 = ((128 + q % 128 : Nat) : Int) := by rw [hx']; rfl
        rw [List.getD_eq_getElem?_getD, List.getElem?_drop, Nat.add_zero, ← List.getD_eq_getElem?_getD] at h2
        exact h2
      rw [varL, if_pos hlt, hg, Int.toNat_natCast, if_neg (by omega), show (128 + q % 128) % 128 = q % 128 by omega]
      refine ih d (i + 1) _ (q / 128) (by omega) ?_ ?_ ?_
      · rw [Nat.div_lt_iff_lt_mul (by decide), ← Nat.pow_succ]; exact hq
      · rw [hnq, Nat.pow_succ]
        have e : 128 ^ i * q = 128 ^ i * (q % 128) + 128 ^ i * 128 * (q / 128) := by
          rw [Nat.mul_assoc, ← Nat.mul_add]
          congr 1
          omega
        omega
      · have h3 : xs.drop (a + (i + 1)) = (xs.drop (a + i)).drop 1 := by rw [List.drop_drop]; rfl
        rw [h3, hx']; rfl
    · rw [if_neg h128] at hx'
      exact stop (f + 1) d i acc q (by omega) hnq hx'
theorem varRead_back (pre suf : List Int) (n : Nat) (hn : n ≤ 4294967295) : varReadR (pre ++ varB 4 n ++ suf) (pre.length : Int) = ((n : Int), ((pre.length + (varB 4 n).length : Nat) : Int), true) := by
  have h1 := (varB_length 4 n).1
  unfold varReadR
  rw [if_pos ⟨by omega, by rw [List.length_append, List.length_append]; omega⟩, Int.toNat_natCast]
  have hd : (pre ++ varB 4 n ++ suf).drop pre.length = varB 4 n ++ suf := by rw [List.append_assoc, List.drop_left]
  refine varL_back _ _ n suf hd hn 4 5 0 0 n (by omega) (by omega) (by omega) ?_
  rw [Nat.add_zero]; exact hd
theorem blA_le : ∀ (f n b : Nat), n < 2 ^ f → (Go.Lib.bitLenAux f n ≤ b ↔ n < 2 ^ b) := by
  intro f
  induction f with
  | zero =>
    intro n b hn
    have : n = 0 := by simpa using hn
    subst this
    have := Nat.two_pow_pos b
    constructor
    · intro _; exact this
    · intro _; simp [Go.Lib.bitLenAux]
  | succ f ih =>
    intro n b hn
    rw [Go.Lib.bitLenAux]
    by_cases h : n = 0
    · subst h
      have := Nat.two_pow_pos b
      rw [if_pos rfl]; constructor <;> intro _ <;> omega
    · rw [if_neg h]
      cases b with
      | zero => rw [Nat.pow_zero]; constructor <;> intro _ <;> omega
      | succ b =>
        have := ih (n / 2) b (by rw [Nat.pow_succ] at hn; omega)
        rw [Nat.pow_succ]
        constructor
        · intro g; have := this.1 (by omega); omega
        · intro g; have := this.2 (by omega); omega
theorem bl_le (n b : Nat) (h : n < 2 ^ 64) : Go.Lib.bitLen n ≤ b ↔ n < 2 ^ b := blA_le 64 n b h

theorem vb_le : ∀ (f n j : Nat), n < 128 ^ (f + 1) → ((varB f n).length ≤ j + 1 ↔ n < 128 ^ (j + 1)) := by
  have big : ∀ n j : Nat, n < 128 → n < 128 ^ (j + 1) := by
    intro n j h
    have := Nat.pow_pos (n := j) (show 0 < 128 by decide)
    rw [Nat.pow_succ]
    omega
  intro f
  induction f with
  | zero =>
    intro n j hn
    have h : n < 128 := by simpa using hn
    rw [varB]
    constructor
    · intro _; exact big n j h
    · intro _; simp
  | succ f ih =>
    intro n j hn
    rw [varB]
    by_cases h : 128 ≤ n
    · rw [if_pos h, List.length_cons]
      have hl := (varB_length f (n / 128)).1
      cases j with
      | zero =>
        rw [Nat.zero_add, Nat.pow_one]
        constructor <;> intro _ <;> omega
      | succ j =>
        have := ih (n / 128) j (by rw [Nat.pow_succ] at hn; omega)
        rw [Nat.pow_succ]
        constructor
        · intro g; have := this.1 (by omega); omega
        · intro g; have := this.2 (by omega); omega
    · rw [if_neg h]
      constructor
      · intro _; exact big n j (by omega)
      · intro _; simp
theorem vb_width (n : Nat) (h : n ≤ 4294967295) : (((varB 4 n).length : Nat) : Int) = mx 1 (wrap64 (Int.tdiv (wrap64 (((Go.Lib.bitLen n : Nat) : Int) + 6)) 7)) := by
  have hb := (bl_le n 32 (by omega)).2 (by omega)
  have h1 := varB_length 4 n
  rw [w64 (n := ((Go.Lib.bitLen n : Nat) : Int) + 6) (by omega) (by omega), show ((Go.Lib.bitLen n : Nat) : Int) + 6 = ((Go.Lib.bitLen n + 6 : Nat) : Int) by omega, show Int.tdiv ((Go.Lib.bitLen n + 6 : Nat) : Int) 7 = (((Go.Lib.bitLen n + 6) / 7 : Nat) : Int) from tdiv_nat _ 7, w64 (by omega) (by omega)]
  have key : ∀ j : Nat, (varB 4 n).length ≤ j + 1 ↔ Go.Lib.bitLen n ≤ 7 * (j + 1) := by
    intro j
    rw [vb_le 4 n j (by omega), bl_le n _ (by omega), Nat.pow_mul]
  have k1 := (key ((varB 4 n).length - 1)).1 (by omega)
  have k2 := (key ((Go.Lib.bitLen n + 6) / 7 - 1)).2 (by omega)
  unfold mx
  split <;> omega
theorem vb_less (n : Nat) (h : n ≤ 4294967295) (h0 : 0 < n) : (varB 4 (n - 1)).length ≤ (varB 4 n).length := by
  have h1 := varB_length 4 n
  have k1 := (vb_le 4 n ((varB 4 n).length - 1) (by omega)).1 (by omega)
  have k2 := (vb_le 4 (n - 1) ((varB 4 n).length - 1) (by omega)).2 (by omega)
  omega
theorem FnVarBack : laws_FnVarBack.Pure := by
  intro code hl _ hw
  refine Ev.rounds ?_
  unfold laws_FnVarBack.f
  have hb : ∀ b ∈ code, 0 ≤ b ∧ b < 256 := fun x hx => wf_u8 (hw x hx)
  refine ev_some (show laws_big.f code = some (decide ((code.length : Int) > 1048576)) from rfl) (ev_ite (fun _ => ev_now _) (fun h => ?_))
  have hm : code.length ≤ 1048576 := by
    rcases Nat.lt_or_ge 1048576 code.length with g | g
    · exact absurd (decide_eq_true (by omega)) h
    · exact g
  obtain ⟨a, k1, k2⟩ := DrawVarOf_ok code hb
  refine ev_some k1 ?_
  by_cases g : 0 ≤ a ∧ a ≤ 4294967295
  · obtain ⟨n, rfl⟩ : ∃ n : Nat, a = (n : Int) := ⟨a.toNat, by omega⟩
    have hn : n ≤ 4294967295 := by omega
    have hlen := varB_length 4 n
    have hm := varB_mem 4 n
    obtain ⟨i, p1, p2, p3⟩ := laws_pick_ev code hb (by omega) 3 4 (by omega) (by omega)
    obtain ⟨i, rfl⟩ : ∃ i' : Nat, i = (i' : Int) := ⟨i.toNat, by omega⟩
    have hi : i < 4 := by omega
    have tl : (([200, 1, 128, 7] : List Int).take i).length = i := by rw [List.length_take]; simp; omega
    have hback := varRead_back (([200, 1, 128, 7] : List Int).take i) [255, 1] n hn
    rw [tl] at hback
    have hall : ∀ b ∈ ([200, 1, 128, 7] : List Int).take i ++ varB 4 n ++ [255, 1], 0 ≤ b ∧ b < 256 := by
      intro b hb2
      rcases List.mem_append.1 hb2 with e | e
      · rcases List.mem_append.1 e with e | e
        · have := List.mem_of_mem_take e
          simp only [List.mem_cons, List.not_mem_nil, or_false] at this
          omega
        · exact hm b e
      · simp only [List.mem_cons, List.not_mem_nil, or_false] at e
        omega
    have hread := impl_VarRead_ev (([200, 1, 128, 7] : List Int).take i ++ varB 4 n ++ [255, 1]) (i : Int) (by rw [List.length_append, List.length_append, tl]; simp; omega) hall
    rw [hback] at hread
    refine ev_bind (impl_VarOf_ev n hn) (ev_bind (spec_VarOf_ev n hn) (ev_neg (by omega) (ev_bind p1 (ev_some rfl (ev_pos (by omega) (ev_pos (by simp; omega) (ev_some rfl ?_)))))))
    rw [Int.toNat_natCast]
    refine ev_pos (by rw [tl]; omega) (ev_some rfl (ev_some rfl (ev_pos (by rw [List.length_append, tl]; simp; omega) (ev_bind hread (ev_pos rfl (ev_pos rfl (ev_pos ?_ ?_)))))))
    · rw [w64 (by omega) (by omega)]
      show ((i + (varB 4 n).length : Nat) : Int) = _
      omega
    · have hwd := impl_WidthOf_f n (by omega)
      have hfin : Ev (fun k => (impl_WidthOf.f (n : Int)).bind fun t => some (((varB 4 n).length : Int) == (mx 1 (wrap64 (Int.tdiv (wrap64 (t + 6)) 7))))) true := by
        refine ev_some hwd (ev_now' ?_)
        rw [beq_iff_eq]
        exact vb_width n hn
      refine ev_ite (fun _ => hfin) (fun h0 => ?_)
      have hpred : wrap64 ((n : Int) - 1) = ((n - 1 : Nat) : Int) := by rw [w64 (by omega) (by omega)]; omega
      rw [hpred]
      have := vb_less n hn (by omega)
      exact ev_bind (impl_VarOf_ev (n - 1) (by omega)) (ev_pos (by omega) hfin)
  · refine ev_bind (impl_VarOf_bad a (by omega)) (ev_bind (spec_VarOf_bad a (by omega)) (ev_pos rfl (ev_now' rfl)))

end Go.Proofs.Ytmjjnhnclebaiaa.Pure
