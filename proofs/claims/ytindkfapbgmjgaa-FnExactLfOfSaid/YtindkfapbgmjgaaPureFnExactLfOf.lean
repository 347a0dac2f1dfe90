/- The pure statement of the law FnExactLfOf: the program's answers equal the reference's, for all arguments within the row's bounds. -/
import Derived.Test.YtindkfapbgmjgaaQFnExactLfOfx4
import Derived.Test.YtindkfapbgmjgaaLib
namespace Go.Proofs.Ytindkfapbgmjgaa.Pure
open Go.RowKit Go.Proofs.Ytindkfapbgmjgaa.QFnExactLfOf Go.Proofs.Ytindkfapbgmjgaa.Lib Go.Proofs.YtindkfapbgmjgaaW.PrintWords Go.Proofs.YtindkfapbgmjgaaW.PrintLast Go.Proofs.YtindkfapbgmjgaaW.PrintMore
set_option linter.unusedVariables false
set_option linter.unusedSimpArgs false

theorem laws_toIntS_l0 (xs : List Int) (hm : xs.length ≤ 35184372088832) : ∀ (d n : Nat) (out : List Int), n + d = xs.length → out.length = xs.length → (∀ j, j < n → out[j]? = xs[j]?) → Ev (fun k => laws_toIntS.l0 k xs out (n : Int)) xs := by
  intro d
  induction d with
  | zero =>
    intro n out hn hl ho
    refine Ev.step (fun k => by rw [laws_toIntS.l0]) ?_
    refine ev_neg (by omega) (ev_now' ?_)
    apply List.ext_getElem? ; intro j
    by_cases hj : j < n
    · exact ho j hj
    · rw [List.getElem?_eq_none (by omega), List.getElem?_eq_none (by omega)]
  | succ d ih =>
    intro n out hn hl ho
    refine Ev.step (fun k => by rw [laws_toIntS.l0]) ?_
    refine ev_pos (by omega) (ev_pos (by omega) (ev_pos (by omega) ?_))
    rw [w64 (by omega) (by omega)]
    refine ih (n + 1) _ (by omega) (by simp [hl]) ?_
    intro j hj
    rw [Int.toNat_natCast, List.getElem?_set, rd_lt (by omega)]
    by_cases e : n = j
    · subst e; rw [if_pos rfl, if_pos (by omega), List.getElem?_eq_getElem (by omega)]
    · rw [if_neg e]; exact ho j (by omega)
theorem laws_toIntS_ev (xs : List Int) (hm : xs.length ≤ 35184372088832) : Ev (fun k => laws_toIntS.f k xs) xs := by
  unfold laws_toIntS.f
  refine ev_pos (by omega) (ev_pos (by omega) ?_)
  exact laws_toIntS_l0 xs hm xs.length 0 _ (by omega) (by simp) (by simp)
theorem laws_eqIntS_l0 (xs ys : List Int) (hl : xs.length = ys.length) (hm : xs.length ≤ 140737488355328) : ∀ (d n : Nat), n + d = xs.length → Ev (fun k => laws_eqIntS.l0 k xs ys (n : Int)) (decide (xs.drop n = ys.drop n)) := by
  intro d
  induction d with
  | zero =>
    intro n hn
    refine Ev.step (fun k => by rw [laws_eqIntS.l0]) ?_
    refine ev_neg (by omega) (ev_now' ?_)
    rw [List.drop_eq_nil_of_le (by omega), List.drop_eq_nil_of_le (by omega)]; rfl
  | succ d ih =>
    intro n hn
    refine Ev.step (fun k => by rw [laws_eqIntS.l0]) ?_
    refine ev_pos (by omega) (ev_pos (by omega) (ev_pos (by omega) ?_))
    rw [rd_lt (by omega), rd_lt (by omega), w64 (by omega) (by omega)]
    rw [List.drop_eq_getElem_cons (show n < xs.length by omega), List.drop_eq_getElem_cons (show n < ys.length by omega)]
    refine ev_ite (fun h => ev_eq (ih (n + 1) (by omega)) ?_) (fun h => ev_now' ?_)
    · simp only [List.cons.injEq, h, true_and]
    · exact (decide_eq_false (fun e => h (List.cons.inj e).1)).symm
theorem laws_eqIntS_ev (xs ys : List Int) (hm : xs.length ≤ 140737488355328) : Ev (fun k => laws_eqIntS.f k xs ys) (decide (xs = ys)) := by
  unfold laws_eqIntS.f
  refine ev_ite (fun h => ?_) (fun h => ev_now' ?_)
  · exact laws_eqIntS_l0 xs ys (by omega) hm xs.length 0 (by omega)
  · exact (decide_eq_false (fun e => h (by rw [e]))).symm
theorem laws_markIntS_l0 (xs : List Int) (a : Nat) (hm : a + xs.length ≤ 1099511627776) : ∀ (d n : Nat), n + d = xs.length → Ev (fun k => laws_markIntS.l0 k (marked (fun x => x) n a ++ xs.drop n) ((a + n : Nat) : Int) (n : Int)) (((a + xs.length : Nat) : Int), marked (fun x => x) xs.length a) := by
  intro d
  induction d with
  | zero =>
    intro n hn
    have e : n = xs.length := by omega
    subst e
    refine Ev.step (fun k => by rw [laws_markIntS.l0]) ?_
    refine ev_neg (by simp [marked_length]) (ev_now' ?_)
    rw [List.drop_length, List.append_nil]
  | succ d ih =>
    intro n hn
    refine Ev.step (fun k => by rw [laws_markIntS.l0]) ?_
    refine ev_pos (by simp [marked_length]; omega) (ev_pos (by omega) ?_)
    rw [w64 (by omega) (by omega), w64 (by omega) (by omega), Int.toNat_natCast]
    have e := set_mark (c := (fun x => x)) (a := a) (show n < xs.length by omega)
    rw [show (((a + n : Nat) : Int)) = (fun x => x) ((a + n : Nat) : Int) from rfl, e]
    exact ih (n + 1) (by omega)
theorem laws_markIntS_ev (xs : List Int) (a : Nat) (hm : a + xs.length ≤ 1099511627776) : Ev (fun k => laws_markIntS.f k xs (a : Int)) (((a + xs.length : Nat) : Int), marked (fun x => x) xs.length a) := by
  unfold laws_markIntS.f
  have h := laws_markIntS_l0 xs a hm xs.length 0 (by omega)
  simpa [marked] using h
theorem laws_heldIntS_l0 (m a : Nat) (hm : a + m ≤ 1099511627776) : ∀ (d n : Nat), n + d = m → Ev (fun k => laws_heldIntS.l0 k (marked (fun x => x) m a) ((a + n : Nat) : Int) (n : Int)) ((a + m : Nat) : Int) := by
  intro d
  induction d with
  | zero =>
    intro n hn
    have e : n = m := by omega
    subst e
    refine Ev.step (fun k => by rw [laws_heldIntS.l0]) ?_
    exact ev_neg (by simp [marked_length]) (ev_now _)
  | succ d ih =>
    intro n hn
    refine Ev.step (fun k => by rw [laws_heldIntS.l0]) ?_
    refine ev_pos (by rw [marked_length]; omega) (ev_pos (by omega) ?_)
    rw [rd_lt (by rw [marked_length]; omega), marked_get _ _ _ _ (by omega), w64 (by omega) (by omega), w64 (by omega) (by omega)]
    exact ev_pos rfl (ih (n + 1) (by omega))
theorem laws_heldIntS_ev (m a : Nat) (hm : a + m ≤ 1099511627776) : Ev (fun k => laws_heldIntS.f k (marked (fun x => x) m a) (a : Int)) ((a + m : Nat) : Int) := by
  unfold laws_heldIntS.f
  exact laws_heldIntS_l0 m a hm m 0 (by omega)
def symsOk (l : List Int) : Bool := decide (l.length ≤ 301) && l.all fun a => decide (0 ≤ a ∧ a ≤ 256)
theorem spec_SymsOk_l0 (xs : List Int) (hm : xs.length ≤ 301) : ∀ (d n : Nat), n + d = xs.length → Ev (fun k => spec_SymsOk.l0 k xs (n : Int)) ((xs.drop n).all fun a => decide (0 ≤ a ∧ a ≤ 256)) := by
  intro d
  induction d with
  | zero =>
    intro n hn
    refine Ev.step (fun k => by rw [spec_SymsOk.l0]) ?_
    refine ev_neg (by omega) (ev_now' ?_)
    rw [List.drop_eq_nil_of_le (by omega)]; rfl
  | succ d ih =>
    intro n hn
    refine Ev.step (fun k => by rw [spec_SymsOk.l0]) ?_
    refine ev_pos (by omega) (ev_pos (by omega) ?_)
    rw [rd_lt (show n < xs.length by omega), w64 (by omega) (by omega), List.drop_eq_getElem_cons (show n < xs.length by omega), List.all_cons]
    refine ev_ite (fun h => ev_now' ?_) (fun h => ev_ite (fun h' => ev_now' ?_) (fun h' => ev_eq (ih (n + 1) (by omega)) ?_))
    · rw [decide_eq_false (by omega)]; rfl
    · rw [decide_eq_false (by omega)]; rfl
    · rw [decide_eq_true (by omega)]; rfl
theorem spec_SymsOk_ev (xs : List Int) : Ev (fun k => spec_SymsOk.f k xs) (symsOk xs) := by
  unfold spec_SymsOk.f symsOk
  refine ev_ite (fun h => ev_now' ?_) (fun h => ev_eq (spec_SymsOk_l0 xs (by omega) xs.length 0 (by omega)) ?_)
  · rw [decide_eq_false (by omega)]; rfl
  · rw [decide_eq_true (by omega)]; rfl
def lfL (l : List Int) : List Int := tab l.length fun k => ((cLt l (l.getD k 0) + cEq (l.take k) (l.getD k 0) : Nat) : Int)
theorem lfL_length (l : List Int) : (lfL l).length = l.length := tab_length _ _
theorem lfL_get (l : List Int) (k : Nat) (h : k < l.length) : rd (lfL l) (k : Int) = ((cLt l l[k] + cEq (l.take k) l[k] : Nat) : Int) := by
  unfold lfL
  rw [rd_tab h, List.getD_eq_getElem?_getD, List.getElem?_eq_getElem h, Option.getD_some]
theorem spec_LfOf_l1 (xs acc : List Int) (q : Nat) (hq : q < xs.length) (r : List Int) (hm : xs.length ≤ 1000) (ha : acc.length ≤ 1000) : ∀ (d n m : Nat), n + d = xs.length → m ≤ n → Ev (fun k => spec_LfOf.l0 k xs (acc ++ [((m + cLt (xs.drop n) xs[q] + cEq ((xs.take q).drop n) xs[q] : Nat) : Int)]) (wrap64 ((q : Int) + 1))) r → Ev (fun k => spec_LfOf.l1 k xs acc (q : Int) (m : Int) (n : Int)) r := by
  intro d
  induction d with
  | zero =>
    intro n m hn hmn h
    rw [List.drop_eq_nil_of_le (by omega), List.drop_eq_nil_of_le (by rw [List.length_take]; omega)] at h
    refine Ev.step (fun k => by rw [spec_LfOf.l1]) ?_
    exact ev_neg (by omega) (ev_pos (by omega) h)
  | succ d ih =>
    intro n m hn hmn h
    have hlt : n < xs.length := by omega
    rw [List.drop_eq_getElem_cons hlt, cLt_cons] at h
    refine Ev.step (fun k => by rw [spec_LfOf.l1]) ?_
    refine ev_pos (by omega) (ev_pos (by omega) (ev_pos (by omega) (ev_pos (by omega) ?_)))
    rw [rd_lt hlt, rd_lt hq, w64 (n := (n : Int) + 1) (by omega) (by omega), w64 (n := (m : Int) + 1) (by omega) (by omega)]
    by_cases hnq : n < q
    · have hl2 : n < (xs.take q).length := by rw [List.length_take]; omega
      rw [List.drop_eq_getElem_cons hl2, cEq_cons, List.getElem_take] at h
      by_cases hx : xs[n] < xs[q]
      · rw [if_pos hx, if_neg (by omega)] at h
        refine ev_pos hx (ih (n + 1) (m + 1) (by omega) (by omega) ?_)
        rw [show m + 1 + cLt (xs.drop (n + 1)) xs[q] + cEq ((xs.take q).drop (n + 1)) xs[q] = m + (cLt (xs.drop (n + 1)) xs[q] + 1) + (cEq ((xs.take q).drop (n + 1)) xs[q] + 0) by omega]
        exact h
      · rw [if_neg hx] at h
        refine ev_neg hx (ev_pos (by omega) ?_)
        by_cases he : xs[n] = xs[q]
        · rw [if_pos he] at h
          refine ev_pos he (ih (n + 1) (m + 1) (by omega) (by omega) ?_)
          rw [show m + 1 + cLt (xs.drop (n + 1)) xs[q] + cEq ((xs.take q).drop (n + 1)) xs[q] = m + (cLt (xs.drop (n + 1)) xs[q] + 0) + (cEq ((xs.take q).drop (n + 1)) xs[q] + 1) by omega]
          exact h
        · rw [if_neg he] at h
          exact ev_neg he (ih (n + 1) m (by omega) (by omega) h)
    · have e2 : (xs.take q).drop n = [] := List.drop_eq_nil_of_le (by rw [List.length_take]; omega)
      have e3 : (xs.take q).drop (n + 1) = [] := List.drop_eq_nil_of_le (by rw [List.length_take]; omega)
      rw [e2] at h
      by_cases hx : xs[n] < xs[q]
      · rw [if_pos hx] at h
        refine ev_pos hx (ih (n + 1) (m + 1) (by omega) (by omega) ?_)
        rw [e3, show m + 1 + cLt (xs.drop (n + 1)) xs[q] = m + (cLt (xs.drop (n + 1)) xs[q] + 1) by omega]
        exact h
      · rw [if_neg hx] at h
        refine ev_neg hx (ev_neg (by omega) (ih (n + 1) m (by omega) (by omega) ?_))
        rw [e3]; exact h
theorem spec_LfOf_l0 (xs : List Int) (hm : xs.length ≤ 1000) : ∀ (d q : Nat), q + d = xs.length → Ev (fun k => spec_LfOf.l0 k xs (tab q fun k => ((cLt xs (xs.getD k 0) + cEq (xs.take k) (xs.getD k 0) : Nat) : Int)) (q : Int)) (lfL xs) := by
  intro d
  induction d with
  | zero =>
    intro q hq
    refine Ev.step (fun k => by rw [spec_LfOf.l0]) ?_
    have e : q = xs.length := by omega
    subst e
    exact ev_neg (by omega) (ev_now _)
  | succ d ih =>
    intro q hq
    have hlt : q < xs.length := by omega
    refine Ev.step (fun k => by rw [spec_LfOf.l0]) ?_
    refine ev_pos (by omega) ?_
    refine spec_LfOf_l1 xs _ q hlt _ hm (by rw [tab_length]; omega) xs.length 0 0 (by omega) (by omega) ?_
    rw [w64 (by omega) (by omega), List.drop_zero, List.drop_zero, Nat.zero_add]
    have h := ih (q + 1) (by omega)
    rw [tab_succ] at h
    have e : xs.getD q 0 = xs[q] := by rw [List.getD_eq_getElem?_getD, List.getElem?_eq_getElem hlt, Option.getD_some]
    rw [e] at h
    exact h
theorem spec_LfOf_ev (xs : List Int) : Ev (fun k => spec_LfOf.f k xs) (if symsOk xs = true then lfL xs else []) := by
  unfold spec_LfOf.f
  refine ev_bind (spec_SymsOk_ev xs) (ev_ite (fun h => ?_) (fun h => ?_))
  · rw [if_pos h]
    unfold symsOk at h
    rw [Bool.and_eq_true] at h
    have := of_decide_eq_true h.1
    exact spec_LfOf_l0 xs (by omega) xs.length 0 (by omega)
  · rw [if_neg h]; exact ev_now _
theorem impl_within_f (a b c : Int) : impl_within.f a b c = some (decide (b ≤ a ∧ a ≤ c)) := by
  unfold impl_within.f
  by_cases h : b ≤ a <;> simp [h]
theorem impl_SymsOk_1_f (a : Int) : impl_SymsOk_1.f a = some (decide (0 ≤ a ∧ a ≤ 256)) := by
  unfold impl_SymsOk_1.f
  rw [impl_within_f]; rfl
theorem allO_all (p : Int → Option Bool) (q : Int → Bool) (h : ∀ x, p x = some (q x)) (l : List Int) : allO p l = some (l.all q) := by
  induction l with
  | nil => rfl
  | cons x l ih =>
    rw [allO, h x, Option.bind_some]
    cases hq : q x
    · simp [hq]
    · rw [if_pos rfl, ih]; simp [hq]
theorem impl_areAll_SymsOk_1_f (l : List Int) : impl_areAll_SymsOk_1.f l = some (l.all fun a => decide (0 ≤ a ∧ a ≤ 256)) := allO_all _ _ impl_SymsOk_1_f l
theorem impl_SymsOk_f (xs : List Int) : impl_SymsOk.f xs = some (symsOk xs) := by
  unfold impl_SymsOk.f symsOk
  by_cases h : xs.length ≤ 301
  · rw [if_pos (by omega), impl_areAll_SymsOk_1_f, decide_eq_true h]; rfl
  · rw [if_neg (by omega), decide_eq_false h]; rfl
theorem symsOk_mem {xs : List Int} (h : symsOk xs = true) : xs.length ≤ 301 ∧ ∀ x ∈ xs, 0 ≤ x ∧ x ≤ 256 := by
  unfold symsOk at h
  rw [Bool.and_eq_true] at h
  exact ⟨of_decide_eq_true h.1, fun x hx => of_decide_eq_true (List.all_eq_true.1 h.2 x hx)⟩
def countsR (l : List Int) : List Int := tab 258 fun c => ((cLt l (c : Int) : Nat) : Int)
theorem impl_counts_l1 (xs : List Int) (hm : xs.length ≤ 301) (hx : ∀ x ∈ xs, 0 ≤ x ∧ x ≤ 256) : ∀ (d c : Nat), c + d = 258 → 1 ≤ c → Ev (fun k => impl_counts.l1 k (tab 258 fun j => if j < c then ((cLt xs (j : Int) : Nat) : Int) else ((cEq xs ((j : Int) - 1) : Nat) : Int)) (c : Int)) (countsR xs) := by
  intro d
  induction d with
  | zero =>
    intro c hc h1
    have e : c = 258 := by omega
    subst e
    refine Ev.step (fun k => by rw [impl_counts.l1]) ?_
    refine ev_neg (by omega) (ev_now' ?_)
    exact tab_congr (fun i hi => by rw [if_pos hi])
  | succ d ih =>
    intro c hc h1
    refine Ev.step (fun k => by rw [impl_counts.l1]) ?_
    rw [w64 (n := (c : Int) - 1) (by omega) (by omega), w64 (n := (c : Int) + 1) (by omega) (by omega), show (c : Int) - 1 = ((c - 1 : Nat) : Int) by omega, rd_tab (show c < 258 by omega), rd_tab (show c - 1 < 258 by omega), if_neg (by omega), if_pos (by omega)]
    have b1 := cEq_le xs ((c : Int) - 1)
    have b2 := cLt_le xs ((c - 1 : Nat) : Int)
    have e1 : cLt xs (c : Int) = cLt xs ((c - 1 : Nat) : Int) + cEq xs ((c : Int) - 1) := by
      have h := cLt_succ xs ((c - 1 : Nat) : Int)
      rw [show ((c - 1 : Nat) : Int) + 1 = (c : Int) by omega] at h
      rw [h, show ((c - 1 : Nat) : Int) = (c : Int) - 1 by omega]
    refine ev_pos (by omega) (ev_pos (by omega) (ev_pos (by rw [tab_length]; omega) (ev_pos (by omega) (ev_pos (by rw [tab_length]; omega) ?_))))
    rw [w64 (by omega) (by omega), Int.toNat_natCast, tab_set]
    have h := ih (c + 1) (by omega) (by omega)
    refine Ev.congr (fun k => ?_) h
    congr 1
    apply tab_congr
    intro j hj
    by_cases e : j = c
    · subst e; rw [if_pos rfl, if_pos (by omega)]; omega
    · rw [if_neg e]
      by_cases f : j < c
      · rw [if_pos f, if_pos (by omega)]
      · rw [if_neg f, if_neg (by omega)]
theorem impl_counts_l0 (xs : List Int) (hm : xs.length ≤ 301) (hx : ∀ x ∈ xs, 0 ≤ x ∧ x ≤ 256) : ∀ (d n : Nat), n + d = xs.length → Ev (fun k => impl_counts.l0 k (tab 258 fun j => ((cEq (xs.take n) ((j : Int) - 1) : Nat) : Int)) xs (xs.length : Int) (n : Int)) (countsR xs) := by
  intro d
  induction d with
  | zero =>
    intro n hn
    refine Ev.step (fun k => by rw [impl_counts.l0]) ?_
    refine ev_neg (by omega) ?_
    have h := impl_counts_l1 xs hm hx 257 1 (by omega) (by omega)
    refine Ev.congr (fun k => ?_) h
    congr 1
    apply tab_congr
    intro j hj
    rw [List.take_of_length_le (by omega)]
    by_cases f : j < 1
    · have e : j = 0 := by omega
      subst e
      rw [if_pos (by omega), cEq_neg xs (fun x h => (hx x h).1) _ (by omega)]
      exact (congrArg (fun n : Nat => (n : Int)) (cLt_zero xs (fun x h => (hx x h).1))).symm
    · rw [if_neg f]
  | succ d ih =>
    intro n hn
    have hlt : n < xs.length := by omega
    have hv := hx _ (List.getElem_mem hlt)
    refine Ev.step (fun k => by rw [impl_counts.l0]) ?_
    rw [rd_lt hlt, w64 (n := xs[n] + 1) (by omega) (by omega), w64 (n := (n : Int) + 1) (by omega) (by omega)]
    obtain ⟨v, e⟩ : ∃ v : Nat, xs[n] + 1 = (v : Int) := ⟨(xs[n] + 1).toNat, by omega⟩
    rw [e, rd_tab (show v < 258 by omega)]
    have b1 := cEq_le (xs.take n) ((v : Int) - 1)
    rw [List.length_take] at b1
    refine ev_pos (by omega) (ev_pos (by omega) (ev_pos (by omega) (ev_pos (by omega) (ev_pos (by rw [tab_length]; omega) ?_))))
    rw [w64 (by omega) (by omega), Int.toNat_natCast, tab_set]
    have h := ih (n + 1) (by omega)
    refine Ev.congr (fun k => ?_) h
    congr 1
    apply tab_congr
    intro j hj
    rw [take_snoc' hlt, cEq_snoc]
    by_cases f : j = v
    · subst f; rw [if_pos rfl, if_pos (by omega)]; omega
    · rw [if_neg f, if_neg (by omega)]; omega
theorem impl_counts_ev (xs : List Int) (h : symsOk xs = true) : Ev (fun k => impl_counts.f k xs) (countsR xs) := by
  obtain ⟨hm, hx⟩ := symsOk_mem h
  unfold impl_counts.f
  refine ev_pos (by decide) ?_
  have h := impl_counts_l0 xs hm hx xs.length 0 (by omega)
  rw [tab_zero 258 (fun j => ((cEq (xs.take 0) ((j : Int) - 1) : Nat) : Int)) (fun i hi => by simp [cEq])]
  exact h
def lfR (l : List Int) : List Int := tab l.length fun k => ((cLt l (l.getD k 0) + cEq (l.take k) (l.getD k 0) : Nat) : Int)
theorem impl_lfOf_l0 (xs : List Int) (hm : xs.length ≤ 301) (hx : ∀ x ∈ xs, 0 ≤ x ∧ x ≤ 256) : ∀ (d q : Nat), q + d = xs.length → Ev (fun k => impl_lfOf.l0 k (tab 258 fun j => ((cLt xs (j : Int) + cEq (xs.take q) (j : Int) : Nat) : Int)) (tab q fun k => ((cLt xs (xs.getD k 0) + cEq (xs.take k) (xs.getD k 0) : Nat) : Int)) xs (xs.length : Int) (q : Int)) (lfR xs) := by
  intro d
  induction d with
  | zero =>
    intro q hq
    refine Ev.step (fun k => by rw [impl_lfOf.l0]) ?_
    have e : q = xs.length := by omega
    subst e
    exact ev_neg (by omega) (ev_now _)
  | succ d ih =>
    intro q hq
    have hlt : q < xs.length := by omega
    have hv := hx _ (List.getElem_mem hlt)
    refine Ev.step (fun k => by rw [impl_lfOf.l0]) ?_
    rw [rd_lt hlt, w64 (n := (q : Int) + 1) (by omega) (by omega)]
    obtain ⟨v, e⟩ : ∃ v : Nat, xs[q] = (v : Int) := ⟨xs[q].toNat, by omega⟩
    rw [e, rd_tab (show v < 258 by omega)]
    have b1 := cEq_le (xs.take q) (v : Int)
    have b2 := cLt_le xs (v : Int)
    rw [List.length_take] at b1
    refine ev_pos (by omega) (ev_pos (by omega) (ev_pos (by omega) (ev_pos (by omega) (ev_pos (by rw [tab_length]; omega) (ev_pos (by rw [tab_length]; omega) ?_)))))
    rw [w64 (by omega) (by omega), Int.toNat_natCast, tab_set]
    have h := ih (q + 1) (by omega)
    refine Ev.congr (fun k => ?_) h
    have eg : xs.getD q 0 = (v : Int) := by rw [List.getD_eq_getElem?_getD, List.getElem?_eq_getElem hlt, Option.getD_some, e]
    congr 1
    · apply tab_congr
      intro j hj
      rw [take_snoc' hlt, cEq_snoc, e]
      by_cases f : j = v
      · subst f; rw [if_pos rfl, if_pos rfl]; omega
      · rw [if_neg f, if_neg (by omega)]; omega
    · rw [tab_succ, eg]
theorem impl_lfOf_ev (xs : List Int) (h : symsOk xs = true) : Ev (fun k => impl_lfOf.f k xs) (lfR xs) := by
  unfold impl_lfOf.f
  refine ev_bind (impl_counts_ev xs h) ?_
  obtain ⟨hm, hx⟩ := symsOk_mem h
  have h := impl_lfOf_l0 xs hm hx xs.length 0 (by omega)
  refine Ev.congr (fun k => ?_) h
  congr 1
theorem impl_LfOf_ev (xs : List Int) : Ev (fun k => impl_LfOf.f k xs) (if symsOk xs = true then lfR xs else []) := by
  unfold impl_LfOf.f
  refine ev_some (impl_SymsOk_f xs) (ev_ite (fun h => ?_) (fun h => ?_))
  · rw [if_pos h]; exact ev_bind (impl_lfOf_ev xs h) (ev_now _)
  · rw [if_neg h]; exact ev_now _

theorem FnExactLfOf : laws_FnExactLfOf.Pure := by
  intro l hl _ hw
  refine Ev.rounds ?_
  unfold laws_FnExactLfOf.f
  refine ev_ite (fun _ => ev_now _) (fun h => ?_)
  have hm : l.length ≤ 35184372088832 := by omega
  obtain ⟨out, hs, hi, ho⟩ : ∃ out, Ev (fun k => spec_LfOf.f k l) out ∧ Ev (fun k => impl_LfOf.f k l) out ∧ out.length ≤ 1099511627775 := by
    refine ⟨_, spec_LfOf_ev l, impl_LfOf_ev l, ?_⟩
    split
    · rw [lfL_length]; omega
    · simp
  have hml : (1 : Nat) + l.length ≤ 1099511627776 := by omega
  have hmo : (1 : Nat) + out.length ≤ 1099511627776 := by omega
  have hj : Ev (fun k => laws_FnExactLfOf.j0 k l out out false) true := by
    refine Ev.step (fun k => by rw [laws_FnExactLfOf.j0]) (ev_neg (by decide) ?_)
    refine ev_bind (laws_markIntS_ev out 1 hmo) (ev_bind (laws_heldIntS_ev out.length 1 hmo) (ev_neg (by omega) (ev_pos rfl ?_)))
    refine ev_bind (laws_toIntS_ev l hm) (ev_bind hi (ev_bind (laws_eqIntS_ev out out (by omega)) (ev_pos (by simp) ?_)))
    exact ev_bind (laws_heldIntS_ev out.length 1 hmo) (ev_neg (by omega) (ev_pos rfl (ev_now _)))
  refine ev_bind (laws_toIntS_ev l hm) (ev_bind hs (ev_bind (laws_toIntS_ev l hm) (ev_bind hi (ev_bind (laws_eqIntS_ev out out (by omega)) (ev_pos (by simp) ?_)))))
  refine ev_bind (laws_toIntS_ev l hm) (ev_bind (laws_eqIntS_ev l l (by omega)) (ev_pos (by simp) ?_))
  refine ev_bind (laws_markIntS_ev l 1 hml) (ev_neg (by omega) (ev_bind (laws_eqIntS_ev out out (by omega)) ?_))
  rw [show (!decide (out = out)) = false by simp]
  exact hj

end Go.Proofs.Ytindkfapbgmjgaa.Pure
