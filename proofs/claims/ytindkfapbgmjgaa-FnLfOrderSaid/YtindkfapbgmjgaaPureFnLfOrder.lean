/- The pure statement of the law FnLfOrder: the program's answers equal the reference's, for all arguments within the row's bounds. -/
import Derived.Test.YtindkfapbgmjgaaQFnLfOrderx5
import Derived.Test.YtindkfapbgmjgaaLib
namespace Go.Proofs.Ytindkfapbgmjgaa.Pure
open Go.RowKit Go.Proofs.Ytindkfapbgmjgaa.QFnLfOrder Go.Proofs.Ytindkfapbgmjgaa.Lib Go.Proofs.YtindkfapbgmjgaaW.PrintWords Go.Proofs.YtindkfapbgmjgaaW.PrintLast Go.Proofs.YtindkfapbgmjgaaW.PrintMore
set_option linter.unusedVariables false
set_option linter.unusedSimpArgs false

theorem impl_within_f (a b c : Int) : impl_within.f a b c = some (decide (b ≤ a ∧ a ≤ c)) := by
  unfold impl_within.f
  by_cases h : b ≤ a <;> simp [h]
theorem impl_SymsOk_1_f (a : Int) : impl_SymsOk_1.f a = some (decide (0 ≤ a ∧ a ≤ 256)) := by
  unfold impl_SymsOk_1.f
  rw [impl_within_f]; rfl
theorem allO_all (p : Int → Option Bool) (q : Int → Bool) (h : ∀ x, p x = some (q x)) (l : List Int) : allO p l = some (l.all q) := by
  induction l with
  | nil => rfl
  | cons x l ih =>
    rw [allO, h x, Option.bind_some]
    cases hq : q x
    · simp [hq]
    · rw [if_pos rfl, ih]; simp [hq]
theorem impl_areAll_SymsOk_1_f (l : List Int) : impl_areAll_SymsOk_1.f l = some (l.all fun a => decide (0 ≤ a ∧ a ≤ 256)) := allO_all _ _ impl_SymsOk_1_f l
theorem impl_SymsOk_f (xs : List Int) : impl_SymsOk.f xs = some (symsOk xs) := by
  unfold impl_SymsOk.f symsOk
  by_cases h : xs.length ≤ 301
  · rw [if_pos (by omega), impl_areAll_SymsOk_1_f, decide_eq_true h]; rfl
  · rw [if_neg (by omega), decide_eq_false h]; rfl
theorem symsOk_mem {xs : List Int} (h : symsOk xs = true) : xs.length ≤ 301 ∧ ∀ x ∈ xs, 0 ≤ x ∧ x ≤ 256 := by
  unfold symsOk at h
  rw [Bool.and_eq_true] at h
  exact ⟨of_decide_eq_true h.1, fun x hx => of_decide_eq_true (List.all_eq_true.1 h.2 x hx)⟩
def countsR (l : List Int) : List Int := tab 258 fun c => ((cLt l (c : Int) : Nat) : Int)
theorem impl_counts_l1 (xs : List Int) (hm : xs.length ≤ 301) (hx : ∀ x ∈ xs, 0 ≤ x ∧ x ≤ 256) : ∀ (d c : Nat), c + d = 258 → 1 ≤ c → Ev (fun k => impl_counts.l1 k (tab 258 fun j => if j < c then ((cLt xs (j : Int) : Nat) : Int) else ((cEq xs ((j : Int) - 1) : Nat) : Int)) (c : Int)) (countsR xs) := by
  intro d
  induction d with
  | zero =>
    intro c hc h1
    have e : c = 258 := by omega
    subst e
    refine Ev.step (fun k => by rw [impl_counts.l1]) ?_
    refine ev_neg (by omega) (ev_now' ?_)
    exact tab_congr (fun i hi => by rw [if_pos hi])
  | succ d ih =>
    intro c hc h1
    refine Ev.step (fun k => by rw [impl_counts.l1]) ?_
    rw [w64 (n := (c : Int) - 1) (by omega) (by omega), w64 (n := (c : Int) + 1) (by omega) (by omega), show (c : Int) - 1 = ((c - 1 : Nat) : Int) by omega, rd_tab (show c < 258 by omega), rd_tab (show c - 1 < 258 by omega), if_neg (by omega), if_pos (by omega)]
    have b1 := cEq_le xs ((c : Int) - 1)
    have b2 := cLt_le xs ((c - 1 : Nat) : Int)
    have e1 : cLt xs (c : Int) = cLt xs ((c - 1 : Nat) : Int) + cEq xs ((c : Int) - 1) := by
      have h := cLt_succ xs ((c - 1 : Nat) : Int)
      rw [show ((c - 1 : Nat) : Int) + 1 = (c : Int) by omega] at h
      rw [h, show ((c - 1 : Nat) : Int) = (c : Int) - 1 by omega]
    refine ev_pos (by omega) (ev_pos (by omega) (ev_pos (by rw [tab_length]; omega) (ev_pos (by omega) (ev_pos (by rw [tab_length]; omega) ?_))))
    rw [w64 (by omega) (by omega), Int.toNat_natCast, tab_set]
    have h := ih (c + 1) (by omega) (by omega)
    refine Ev.congr (fun k => ?_) h
    congr 1
    apply tab_congr
    intro j hj
    by_cases e : j = c
    · subst e; rw [if_pos rfl, if_pos (by omega)]; omega
    · rw [if_neg e]
      by_cases f : j < c
      · rw [if_pos f, if_pos (by omega)]
      · rw [if_neg f, if_neg (by omega)]
theorem impl_counts_l0 (xs : List Int) (hm : xs.length ≤ 301) (hx : ∀ x ∈ xs, 0 ≤ x ∧ x ≤ 256) : ∀ (d n : Nat), n + d = xs.length → Ev (fun k => impl_counts.l0 k (tab 258 fun j => ((cEq (xs.take n) ((j : Int) - 1) : Nat) : Int)) xs (xs.length : Int) (n : Int)) (countsR xs) := by
  intro d
  induction d with
  | zero =>
    intro n hn
    refine Ev.step (fun k => by rw [impl_counts.l0]) ?_
    refine ev_neg (by omega) ?_
    have h := impl_counts_l1 xs hm hx 257 1 (by omega) (by omega)
    refine Ev.congr (fun k => ?_) h
    congr 1
    apply tab_congr
    intro j hj
    rw [List.take_of_length_le (by omega)]
    by_cases f : j < 1
    · have e : j = 0 := by omega
      subst e
      rw [if_pos (by omega), cEq_neg xs (fun x h => (hx x h).1) _ (by omega)]
      exact (congrArg (fun n : Nat => (n : Int)) (cLt_zero xs (fun x h => (hx x h).1))).symm
    · rw [if_neg f]
  | succ d ih =>
    intro n hn
    have hlt : n < xs.length := by omega
    have hv := hx _ (List.getElem_mem hlt)
    refine Ev.step (fun k => by rw [impl_counts.l0]) ?_
    rw [rd_lt hlt, w64 (n := xs[n] + 1) (by omega) (by omega), w64 (n := (n : Int) + 1) (by omega) (by omega)]
    obtain ⟨v, e⟩ : ∃ v : Nat, xs[n] + 1 = (v : Int) := ⟨(xs[n] + 1).toNat, by omega⟩
    rw [e, rd_tab (show v < 258 by omega)]
    have b1 := cEq_le (xs.take n) ((v : Int) - 1)
    rw [List.length_take] at b1
    refine ev_pos (by omega) (ev_pos (by omega) (ev_pos (by omega) (ev_pos (by omega) (ev_pos (by rw [tab_length]; omega) ?_))))
    rw [w64 (by omega) (by omega), Int.toNat_natCast, tab_set]
    have h := ih (n + 1) (by omega)
    refine Ev.congr (fun k => ?_) h
    congr 1
    apply tab_congr
    intro j hj
    rw [take_snoc' hlt, cEq_snoc]
    by_cases f : j = v
    · subst f; rw [if_pos rfl, if_pos (by omega)]; omega
    · rw [if_neg f, if_neg (by omega)]; omega
theorem impl_counts_ev (xs : List Int) (h : symsOk xs = true) : Ev (fun k => impl_counts.f k xs) (countsR xs) := by
  obtain ⟨hm, hx⟩ := symsOk_mem h
  unfold impl_counts.f
  refine ev_pos (by decide) ?_
  have h := impl_counts_l0 xs hm hx xs.length 0 (by omega)
  rw [tab_zero 258 (fun j => ((cEq (xs.take 0) ((j : Int) - 1) : Nat) : Int)) (fun i hi => by simp [cEq])]
  exact h
theorem impl_Counts_ev (xs : List Int) : Ev (fun k => impl_Counts.f k xs) (if symsOk xs = true then countsR xs else []) := by
  unfold impl_Counts.f
  refine ev_some (impl_SymsOk_f xs) (ev_ite (fun h => ?_) (fun h => ?_))
  · rw [if_pos h]; exact ev_bind (impl_counts_ev xs h) (ev_now _)
  · rw [if_neg h]; exact ev_now _
def lfR (l : List Int) : List Int := tab l.length fun k => ((cLt l (l.getD k 0) + cEq (l.take k) (l.getD k 0) : Nat) : Int)
theorem impl_lfOf_l0 (xs : List Int) (hm : xs.length ≤ 301) (hx : ∀ x ∈ xs, 0 ≤ x ∧ x ≤ 256) : ∀ (d q : Nat), q + d = xs.length → Ev (fun k => impl_lfOf.l0 k (tab 258 fun j => ((cLt xs (j : Int) + cEq (xs.take q) (j : Int) : Nat) : Int)) (tab q fun k => ((cLt xs (xs.getD k 0) + cEq (xs.take k) (xs.getD k 0) : Nat) : Int)) xs (xs.length : Int) (q : Int)) (lfR xs) := by
  intro d
  induction d with
  | zero =>
    intro q hq
    refine Ev.step (fun k => by rw [impl_lfOf.l0]) ?_
    have e : q = xs.length := by omega
    subst e
    exact ev_neg (by omega) (ev_now _)
  | succ d ih =>
    intro q hq
    have hlt : q < xs.length := by omega
    have hv := hx _ (List.getElem_mem hlt)
    refine Ev.step (fun k => by rw [impl_lfOf.l0]) ?_
    rw [rd_lt hlt, w64 (n := (q : Int) + 1) (by omega) (by omega)]
    obtain ⟨v, e⟩ : ∃ v : Nat, xs[q] = (v : Int) := ⟨xs[q].toNat, by omega⟩
    rw [e, rd_tab (show v < 258 by omega)]
    have b1 := cEq_le (xs.take q) (v : Int)
    have b2 := cLt_le xs (v : Int)
    rw [List.length_take] at b1
    refine ev_pos (by omega) (ev_pos (by omega) (ev_pos (by omega) (ev_pos (by omega) (ev_pos (by rw [tab_length]; omega) (ev_pos (by rw [tab_length]; omega) ?_)))))
    rw [w64 (by omega) (by omega), Int.toNat_natCast, tab_set]
    have h := ih (q + 1) (by omega)
    refine Ev.congr (fun k => ?_) h
    have eg : xs.getD q 0 = (v : Int) := by rw [List.getD_eq_getElem?_getD, List.getElem?_eq_getElem hlt, Option.getD_some, e]
    congr 1
    · apply tab_congr
      intro j hj
      rw [take_snoc' hlt, cEq_snoc, e]
      by_cases f : j = v
      · subst f; rw [if_pos rfl, if_pos rfl]; omega
      · rw [if_neg f, if_neg (by omega)]; omega
    · rw [tab_succ, eg]
theorem impl_lfOf_ev (xs : List Int) (h : symsOk xs = true) : Ev (fun k => impl_lfOf.f k xs) (lfR xs) := by
  unfold impl_lfOf.f
  refine ev_bind (impl_counts_ev xs h) ?_
  obtain ⟨hm, hx⟩ := symsOk_mem h
  have h := impl_lfOf_l0 xs hm hx xs.length 0 (by omega)
  refine Ev.congr (fun k => ?_) h
  congr 1
theorem impl_LfOf_ev (xs : List Int) : Ev (fun k => impl_LfOf.f k xs) (if symsOk xs = true then lfR xs else []) := by
  unfold impl_LfOf.f
  refine ev_some (impl_SymsOk_f xs) (ev_ite (fun h => ?_) (fun h => ?_))
  · rw [if_pos h]; exact ev_bind (impl_lfOf_ev xs h) (ev_now _)
  · rw [if_neg h]; exact ev_now _
def cmpI : List Int → List Int → Int
  | [], [] => 0
  | [], _ :: _ => -1
  | _ :: _, [] => 1
  | a :: l, b :: m => if a < b then -1 else if b < a then 1 else cmpI l m
theorem spec_l05Cmp_l0 (xs ys : List Int) (hm : xs.length ≤ 1048576) : ∀ (d n : Nat), n + d = xs.length → n ≤ ys.length → Ev (fun k => spec_l05Cmp.l0 k xs ys (n : Int)) (cmpI (xs.drop n) (ys.drop n)) := by
  have stop : ∀ n : Nat, n ≤ xs.length → n ≤ ys.length → (n = xs.length ∨ n = ys.length) → Ev (fun k => spec_l05Cmp.j1 k xs ys (n : Int) false) (cmpI (xs.drop n) (ys.drop n)) := by
    intro n h1 h2 h
    refine Ev.step (fun k => by rw [spec_l05Cmp.j1]) (ev_neg (by decide) ?_)
    by_cases a : n < xs.length
    · have b : n = ys.length := by omega
      rw [List.drop_eq_getElem_cons a, show ys.drop n = [] from List.drop_eq_nil_of_le (by omega), cmpI]
      exact ev_neg (by omega) (ev_pos (by omega) (ev_now _))
    · rw [show xs.drop n = [] from List.drop_eq_nil_of_le (by omega)]
      by_cases b : n < ys.length
      · rw [List.drop_eq_getElem_cons b, cmpI]
        exact ev_pos (by omega) (ev_now _)
      · rw [show ys.drop n = [] from List.drop_eq_nil_of_le (by omega), cmpI]
        exact ev_neg (by omega) (ev_neg (by omega) (ev_now _))
  intro d
  induction d with
  | zero =>
    intro n hn hy
    refine Ev.step (fun k => by rw [spec_l05Cmp.l0]) ?_
    exact ev_neg (by omega) (stop n (by omega) hy (Or.inl (by omega)))
  | succ d ih =>
    intro n hn hy
    have hlt : n < xs.length := by omega
    refine Ev.step (fun k => by rw [spec_l05Cmp.l0]) (ev_pos (by omega) ?_)
    by_cases h : n < ys.length
    · rw [decide_eq_true (by omega), List.drop_eq_getElem_cons hlt, List.drop_eq_getElem_cons h, cmpI]
      refine Ev.step (fun k => by rw [spec_l05Cmp.j1]) (ev_pos rfl (ev_pos (by omega) (ev_pos (by omega) (ev_pos (by omega) ?_))))
      rw [rd_lt hlt, rd_lt h, w64 (by omega) (by omega)]
      refine ev_ite (fun c => ?_) (fun c => ev_ite (fun c2 => ?_) (fun c2 => ?_))
      · rw [if_pos c]; exact ev_now _
      · rw [if_neg c, if_pos c2]; exact ev_now _
      · rw [if_neg c, if_neg c2]; exact ih (n + 1) (by omega) (by omega)
    · rw [decide_eq_false (by omega)]
      exact stop n (by omega) hy (Or.inr (by omega))
theorem spec_l05Cmp_ev (xs ys : List Int) (hm : xs.length ≤ 1048576) : Ev (fun k => spec_l05Cmp.f k xs ys) (cmpI xs ys) := by
  unfold spec_l05Cmp.f
  have := spec_l05Cmp_l0 xs ys hm xs.length 0 (by omega) (by omega)
  rw [List.drop_zero, List.drop_zero] at this
  exact this
/-- rows that a text of n bytes may have -/
def rowsIn (n : Nat) (l : List Int) : Prop := ∀ x ∈ l, 0 ≤ x ∧ x ≤ (n : Int)
theorem SuffixRows_l1_ok (t : List Int) (hm : t.length ≤ 300) (out : List Int) (i : Nat) (hi : i ≤ t.length) (ho : out.length ≤ 301) (hr : rowsIn t.length out) (P : List Int → Prop)
    (h : ∀ lo : Nat, lo ≤ out.length → ∃ r, Ev (fun k => spec_SuffixRows.l0 k t (out.take lo ++ ((i : Int) :: out.drop lo)) ((i : Int) - 1)) r ∧ P r) :
    ∀ (d lo hi : Nat), hi ≤ lo + d → lo ≤ hi → hi ≤ out.length → ∃ r, Ev (fun k => spec_SuffixRows.l1 k t out (i : Int) (lo : Int) (hi : Int)) r ∧ P r := by
  intro d
  induction d with
  | zero =>
    intro lo hi' h1 h2 h3
    obtain ⟨r, hr1, hr2⟩ := h lo (by omega)
    refine ⟨r, ?_, hr2⟩
    refine Ev.step (fun k => by rw [spec_SuffixRows.l1]) ?_
    have hd : (out.drop lo).length ≤ 301 := by rw [List.length_drop]; omega
    have ht : (out.take lo).length ≤ 301 := by rw [List.length_take]; omega
    refine ev_neg (by omega) ?_
    refine ev_some rfl (ev_pos (by omega) (ev_pos (by omega) (ev_some rfl ?_)))
    rw [Int.toNat_natCast, w64 (n := (i : Int) - 1) (by omega) (by omega)]
    refine ev_pos (by rw [List.length_singleton]; omega) (ev_some rfl (ev_some rfl (ev_some rfl ?_)))
    refine ev_pos (by rw [List.length_nil]; omega) (ev_some rfl (ev_pos (by rw [List.nil_append, List.length_append, List.length_singleton]; omega) ?_))
    exact hr1
  | succ d ih =>
    intro lo hi' h1 h2 h3
    by_cases e : lo < hi'
    · have m1 : wrap64 (Int.tdiv (wrap64 ((lo : Int) + (hi' : Int))) 2) = (((lo + hi') / 2 : Nat) : Int) := by
        rw [w64 (n := (lo : Int) + (hi' : Int)) (by omega) (by omega), ← Int.natCast_add, show Int.tdiv ((lo + hi' : Nat) : Int) 2 = (((lo + hi') / 2 : Nat) : Int) from tdiv_nat (lo + hi') 2, w64 (by omega) (by omega)]
      have hlt : (lo + hi') / 2 < out.length := by omega
      have hx := hr _ (List.getElem_mem hlt)
      have step : ∀ c : Int, ∃ r, Ev (fun k => if c < 0 then spec_SuffixRows.l1 k t out (i : Int) (wrap64 ((((lo + hi') / 2 : Nat) : Int) + 1)) (hi' : Int) else spec_SuffixRows.l1 k t out (i : Int) (lo : Int) (((lo + hi') / 2 : Nat) : Int)) r ∧ P r := by
        intro c
        by_cases hc : c < 0
        · obtain ⟨r, k1, k2⟩ := ih ((lo + hi') / 2 + 1) hi' (by omega) (by omega) h3
          refine ⟨r, ev_pos hc ?_, k2⟩
          rw [w64 (by omega) (by omega)]
          exact k1
        · obtain ⟨r, k1, k2⟩ := ih lo ((lo + hi') / 2) (by omega) (by omega) (by omega)
          exact ⟨r, ev_neg hc k1, k2⟩
      obtain ⟨r, k1, k2⟩ := step (cmpI (t.drop (out[(lo + hi') / 2]).toNat) (t.drop i))
      refine ⟨r, ?_, k2⟩
      refine Ev.step (fun k => by rw [spec_SuffixRows.l1]) (ev_pos (by omega) ?_)
      rw [m1, rd_lt hlt]
      refine ev_pos (by omega) (ev_pos (by omega) (ev_pos (by omega) (ev_pos (by omega) (ev_pos (by omega) (ev_pos (by omega) ?_)))))
      rw [Int.toNat_natCast]
      exact ev_bind (spec_l05Cmp_ev _ _ (by rw [List.length_drop]; omega)) k1
    · exact ih lo hi' (by omega) h2 h3
theorem SuffixRows_l0_ok (t : List Int) (hm : t.length ≤ 300) : ∀ (d : Nat) (out : List Int), d ≤ t.length + 1 → out.length + d = t.length + 1 → rowsIn t.length out → ∃ r, Ev (fun k => spec_SuffixRows.l0 k t out ((d : Int) - 1)) r ∧ (rowsIn t.length r ∧ r.length = t.length + 1) := by
  intro d
  induction d with
  | zero =>
    intro out hd hl hr
    refine ⟨out, ?_, hr, by omega⟩
    refine Ev.step (fun k => by rw [spec_SuffixRows.l0]) ?_
    exact ev_neg (by omega) (ev_now _)
  | succ d ih =>
    intro out hd hl hr
    obtain ⟨r, k1, k2⟩ := SuffixRows_l1_ok t hm out d (by omega) (by omega) hr (fun r => rowsIn t.length r ∧ r.length = t.length + 1) (by
      intro lo hlo
      refine ih _ (by omega) ?_ ?_
      · rw [List.length_append, List.length_cons, List.length_take, List.length_drop]; omega
      · intro x hx
        rcases List.mem_append.1 hx with hx | hx
        · exact hr x (List.mem_of_mem_take hx)
        · rcases List.mem_cons.1 hx with hx | hx
          · rw [hx]; omega
          · exact hr x (List.mem_of_mem_drop hx)) out.length 0 out.length (by omega) (by omega) (by omega)
    refine ⟨r, ?_, k2⟩
    refine Ev.step (fun k => by rw [spec_SuffixRows.l0]) (ev_pos (by omega) ?_)
    rw [show ((d + 1 : Nat) : Int) - 1 = (d : Int) by omega]
    exact k1
theorem SuffixRows_ok (t : List Int) (hm : t.length ≤ 300) : ∃ r, Ev (fun k => spec_SuffixRows.f k t) r ∧ (rowsIn t.length r ∧ r.length = t.length + 1) := by
  obtain ⟨r, k1, k2⟩ := SuffixRows_l0_ok t hm (t.length + 1) [] (by omega) (by simp) (fun x hx => by simp at hx)
  refine ⟨r, ?_, k2⟩
  unfold spec_SuffixRows.f
  have h : spec_TextOk.f t = some (decide ((t.length : Int) ≤ 300)) := rfl
  refine ev_some h (ev_pos (decide_eq_true (by omega)) ?_)
  rw [show (t.length : Int) = ((t.length + 1 : Nat) : Int) - 1 by omega]
  exact k1
theorem BwtOf_l0_ok (t rows : List Int) (hm : t.length ≤ 300) (hl : rows.length ≤ 301) (hr : rowsIn t.length rows) : ∀ (d i : Nat) (acc : List Int), i + d = rows.length → acc.length = i → ∃ r, Ev (fun k => spec_BwtOf.l0 k t rows acc (i : Int)) r ∧ r.length = rows.length := by
  intro d
  induction d with
  | zero =>
    intro i acc hi ha
    refine ⟨acc, ?_, by omega⟩
    refine Ev.step (fun k => by rw [spec_BwtOf.l0]) ?_
    exact ev_neg (by omega) (ev_now _)
  | succ d ih =>
    intro i acc hi ha
    have hlt : i < rows.length := by omega
    have hx := hr _ (List.getElem_mem hlt)
    by_cases e : rows[i] = 0
    · obtain ⟨r, k1, k2⟩ := ih (i + 1) (acc ++ [0]) (by omega) (by simp [ha])
      refine ⟨r, ?_, k2⟩
      refine Ev.step (fun k => by rw [spec_BwtOf.l0]) (ev_pos (by omega) (ev_pos (by omega) ?_))
      rw [rd_lt hlt, w64 (n := (i : Int) + 1) (by omega) (by omega)]
      exact ev_pos e (ev_pos (by omega) k1)
    · obtain ⟨r, k1, k2⟩ := ih (i + 1) (acc ++ [wrap64 (wrap64 (rd t (wrap64 (rows[i] - 1))) + 1)]) (by omega) (by simp [ha])
      refine ⟨r, ?_, k2⟩
      refine Ev.step (fun k => by rw [spec_BwtOf.l0]) (ev_pos (by omega) (ev_pos (by omega) ?_))
      rw [rd_lt hlt, w64 (n := (i : Int) + 1) (by omega) (by omega)]
      have hw : wrap64 (rows[i] - 1) = rows[i] - 1 := w64 (by omega) (by omega)
      refine ev_neg e (ev_pos (by omega) (ev_pos (by omega) (ev_pos (by omega) ?_)))
      exact k1
theorem BwtOf_ok (t : List Int) (hm : t.length ≤ 300) : ∃ r, Ev (fun k => spec_BwtOf.f k t) r ∧ r.length = t.length + 1 := by
  obtain ⟨rows, k1, k2, k3⟩ := SuffixRows_ok t hm
  obtain ⟨r, q1, q2⟩ := BwtOf_l0_ok t rows hm (by omega) k2 rows.length 0 [] (by omega) rfl
  unfold spec_BwtOf.f
  exact ⟨r, ev_bind k1 q1, by omega⟩
theorem rd_all {l : List Int} {P : Int → Prop} (h : ∀ x ∈ l, P x) {v : Int} (h0 : 0 ≤ v) (h1 : v < l.length) : P (rd l v) := by
  rw [rd_of h0 h1]; exact h _ (List.getElem_mem _)
/-- what a drawing keeps of its state: the place, the seed -/
def drawOk (p s : Int) : Prop := 0 ≤ p ∧ p ≤ 1000000000000 ∧ 0 ≤ s ∧ s < 70000
theorem pick_ok (code : List Int) (hb : ∀ b ∈ code, 0 ≤ b ∧ b < 256) (p s a : Int) (h : drawOk p s) : ∃ v q s', spec_l01Cur_pick.f code p s a = some (v, q, s') ∧ p ≤ q ∧ q ≤ p + 1 ∧ 0 ≤ s' ∧ s' < 70000 ∧ 0 ≤ v ∧ (v < a ∨ v = 0) := by
  obtain ⟨h1, h2, h3, h4⟩ := h
  unfold spec_l01Cur_pick.f
  by_cases c1 : a < 2
  · rw [if_pos c1]
    exact ⟨0, p, s, rfl, by omega, by omega, h3, h4, by omega, Or.inr rfl⟩
  · rw [if_neg c1]
    have e3 : wrap64 (s * 1103) = s * 1103 := w64 (by omega) (by omega)
    have e4 : wrap64 (s * 1103 + 12345) = s * 1103 + 12345 := w64 (by omega) (by omega)
    have e5 : Int.tmod (s * 1103 + 12345) 65521 = (s * 1103 + 12345) % 65521 := Int.tmod_eq_emod_of_nonneg (by omega)
    have e2 : wrap64 (p + 1) = p + 1 := w64 (by omega) (by omega)
    by_cases c2 : p < (code.length : Int)
    · rw [if_pos c2, if_pos h1, if_neg (by omega), e2]
      have hx : 0 ≤ rd code p ∧ rd code p < 256 := by rw [rd_of h1 c2]; exact hb _ (List.getElem_mem _)
      rw [w64 (by omega) (by omega), Int.tmod_eq_emod_of_nonneg (by omega)]
      exact ⟨_, _, _, rfl, by omega, by omega, h3, h4, Int.emod_nonneg _ (by omega), Or.inl (Int.emod_lt_of_pos _ (by omega))⟩
    · rw [if_neg c2, e2, e3, e4, e5]
      by_cases c3 : (code.length : Int) > 0
      · have e6 : Int.tmod p (code.length : Int) = p % (code.length : Int) := Int.tmod_eq_emod_of_nonneg h1
        have m1 := Int.emod_nonneg p (b := (code.length : Int)) (by omega)
        have m2 := Int.emod_lt_of_pos p c3
        rw [if_pos c3, if_neg (by omega), e6, if_pos m1, if_pos m2, if_neg (by omega)]
        have hx : 0 ≤ rd code (p % (code.length : Int)) ∧ rd code (p % (code.length : Int)) < 256 := by rw [rd_of m1 m2]; exact hb _ (List.getElem_mem _)
        have e7 : Int.tdiv ((s * 1103 + 12345) % 65521) 7 = (s * 1103 + 12345) % 65521 / 7 := Int.tdiv_eq_ediv_of_nonneg (by omega)
        rw [e7, w64 (n := (s * 1103 + 12345) % 65521 / 7) (by omega) (by omega), w64 (n := rd code (p % (code.length : Int))) (by omega) (by omega), w64 (by omega) (by omega), Int.tmod_eq_emod_of_nonneg (by omega)]
        exact ⟨_, _, _, rfl, by omega, by omega, by omega, by omega, Int.emod_nonneg _ (by omega), Or.inl (Int.emod_lt_of_pos _ (by omega))⟩
      · rw [if_neg c3, if_neg (by omega), Int.zero_emod]
        exact ⟨_, _, _, rfl, by omega, by omega, by omega, by omega, by omega, Or.inr rfl⟩
theorem once_ok (code : List Int) (hb : ∀ b ∈ code, 0 ≤ b ∧ b < 256) (p s a : Int) (h : drawOk p s) : ∃ v q s', spec_l01Cur_once.f code p s a = some (v, q, s') ∧ p ≤ q ∧ q ≤ p + 1 ∧ 0 ≤ s' ∧ s' < 70000 := by
  unfold spec_l01Cur_once.f
  obtain ⟨v1, q1, s1, e1, a1, b1, c1, d1, _, _⟩ := pick_ok code hb p s a h
  rw [e1]
  exact ⟨_, _, _, rfl, a1, b1, c1, d1⟩
theorem textOf_l0_ok (code : List Int) (hb : ∀ b ∈ code, 0 ≤ b ∧ b < 256) (al : ByteArray) (hal : 0 < al.size) (hal2 : al.size ≤ 100) : ∀ (d : Nat) (l : List Int) (p s : Int), d ≤ 40 → l.length ≤ 7 * (40 - d) → drawOk p s → p ≤ 500000000000 - 3 * (d : Int) → ∃ l' q s', Ev (fun k => spec_l01Cur_textOf.l0 k 30 l al (d : Int) code p s) (l', q, s') ∧ p ≤ q ∧ q ≤ p + 3 * d ∧ 0 ≤ s' ∧ s' < 70000 ∧ l'.length ≤ 300 := by
  intro d
  induction d with
  | zero =>
    intro l p s hd hl h hp
    by_cases e : (l.length : Int) > 30
    · refine ⟨l.take 30, p, s, ?_, by omega, by omega, h.2.2.1, h.2.2.2, by rw [List.length_take]; omega⟩
      refine Ev.step (fun k => by rw [spec_l01Cur_textOf.l0]) ?_
      exact ev_neg (by omega) (ev_pos e (ev_pos (by omega) (ev_pos (by omega) (ev_now _))))
    · refine ⟨l, p, s, ?_, by omega, by omega, h.2.2.1, h.2.2.2, by omega⟩
      refine Ev.step (fun k => by rw [spec_l01Cur_textOf.l0]) ?_
      exact ev_neg (by omega) (ev_neg e (ev_now _))
  | succ d ih =>
    intro l p s hd hl h hp
    have hh := h.1
    have one : ∀ (p1 s1 : Int), p ≤ p1 → p1 ≤ p + 1 → 0 ≤ s1 → s1 < 70000 → ∃ l' q s', Ev (fun k => spec_l01Cur_textOf.j1 k 30 l al ((d + 1 : Nat) : Int) false code p1 s1) (l', q, s') ∧ p ≤ q ∧ q ≤ p + 3 * ((d + 1 : Nat) : Int) ∧ 0 ≤ s' ∧ s' < 70000 ∧ l'.length ≤ 300 := by
      intro p1 s1 a0 b0 c0 d0
      obtain ⟨v1, q1, s2, e1, a1, b1, c1, d1, f1, g1⟩ := pick_ok code hb p1 s1 (al.size : Int) ⟨by omega, by omega, c0, d0⟩
      obtain ⟨l', q, s', k1, k2, k3, k4, k5, k6⟩ := ih (l ++ [bt al v1]) q1 s2 (by omega) (by rw [List.length_append, List.length_singleton]; omega) ⟨by omega, by omega, c1, d1⟩ (by omega)
      refine ⟨l', q, s', ?_, by omega, by omega, k4, k5, k6⟩
      refine Ev.step (fun k => by rw [spec_l01Cur_textOf.j1]) (ev_neg (by decide) (ev_some e1 (ev_pos f1 (ev_pos (by show v1 < (al.size : Int); omega) (ev_pos (by show l.length < 140737488355328; omega) ?_)))))
      rw [w64 (by omega) (by omega), show ((d + 1 : Nat) : Int) - 1 = (d : Int) by omega]
      exact k1
    by_cases e : (l.length : Int) > 3
    · obtain ⟨v0, q0, s0, e0, a0, b0, c0, d0⟩ := once_ok code hb p s 6 h
      cases v0 with
      | false =>
        obtain ⟨l', q, s', k1, k2⟩ := one q0 s0 a0 b0 c0 d0
        refine ⟨l', q, s', ?_, k2⟩
        refine Ev.step (fun k => by rw [spec_l01Cur_textOf.l0]) ?_
        exact ev_pos (by omega) (ev_pos e (ev_some e0 k1))
      | true =>
        obtain ⟨v1, q1, s1, e1, a1, b1, c1, d1, f1, g1⟩ := pick_ok code hb q0 s0 (l.length : Int) ⟨by omega, by omega, c0, d0⟩
        obtain ⟨v2, q2, s2, e2, a2, b2, c2, d2, f2, g2⟩ := pick_ok code hb q1 s1 6 ⟨by omega, by omega, c1, d1⟩
        have hw : wrap64 (wrap64 (v1 + 1) + v2) = v1 + 1 + v2 := by rw [w64 (n := v1 + 1) (by omega) (by omega), w64 (by omega) (by omega)]
        have hmn : v1 ≤ mn (l.length : Int) (v1 + 1 + v2) ∧ mn (l.length : Int) (v1 + 1 + v2) ≤ (l.length : Int) ∧ mn (l.length : Int) (v1 + 1 + v2) ≤ v1 + 6 := by unfold mn; split <;> omega
        have hcut : ((l.take (mn (l.length : Int) (v1 + 1 + v2)).toNat).drop v1.toNat).length ≤ 6 := by rw [List.length_drop, List.length_take]; omega
        obtain ⟨l', q, s', k1, k2, k3, k4, k5, k6⟩ := ih (l ++ (l.take (mn (l.length : Int) (v1 + 1 + v2)).toNat).drop v1.toNat) q2 s2 (by omega) (by rw [List.length_append]; omega) ⟨by omega, by omega, c2, d2⟩ (by omega)
        refine ⟨l', q, s', ?_, by omega, by omega, k4, k5, k6⟩
        refine Ev.step (fun k => by rw [spec_l01Cur_textOf.l0]) (ev_pos (by omega) (ev_pos e (ev_some e0 ?_)))
        refine Ev.step (fun k => by rw [spec_l01Cur_textOf.j1]) (ev_pos rfl (ev_some e1 (ev_some e2 ?_)))
        simp only
        rw [hw]
        refine ev_pos f1 (ev_pos hmn.1 (ev_pos hmn.2.1 (ev_some rfl (ev_pos (by omega) ?_))))
        rw [w64 (by omega) (by omega), show ((d + 1 : Nat) : Int) - 1 = (d : Int) by omega]
        exact k1
    · obtain ⟨l', q, s', k1, k2⟩ := one p s (by omega) (by omega) h.2.2.1 h.2.2.2
      refine ⟨l', q, s', ?_, k2⟩
      refine Ev.step (fun k => by rw [spec_l01Cur_textOf.l0]) ?_
      exact ev_pos (by omega) (ev_neg e k1)
theorem textOf_ok (code : List Int) (hb : ∀ b ∈ code, 0 ≤ b ∧ b < 256) (hm : code.length ≤ 140737488355328) (p s : Int) (h : drawOk p s) (hp : p ≤ 400000000000) : ∃ l q s', Ev (fun k => spec_l01Cur_textOf.f k code p s 30) (l, q, s') ∧ p ≤ q ∧ q ≤ p + 200 ∧ 0 ≤ s' ∧ s' < 70000 ∧ l.length ≤ 300 := by
  have hh := h.1
  unfold spec_l01Cur_textOf.f
  obtain ⟨v1, q1, s1, e1, a1, b1, c1, d1, f1, g1⟩ := pick_ok code hb p s 5 h
  have hsz : wrap64 (mn 30 (wrap64 (1 + wrap64 ((code.length : Int) / 8))) + 1) ≤ 31 := by
    rw [w64 (n := (code.length : Int) / 8) (by omega) (by omega), w64 (n := 1 + (code.length : Int) / 8) (by omega) (by omega)]
    have : mn 30 (1 + (code.length : Int) / 8) ≤ 30 ∧ 0 ≤ mn 30 (1 + (code.length : Int) / 8) := by unfold mn; split <;> omega
    rw [w64 (by omega) (by omega)]; omega
  obtain ⟨v2, q2, s2, e2, a2, b2, c2, d2, f2, g2⟩ := pick_ok code hb q1 s1 _ ⟨by omega, by omega, c1, d1⟩
  have e2' : spec_l01Cur_size.f code q1 s1 30 = some (v2, q2, s2) := by unfold spec_l01Cur_size.f; rw [e2]; rfl
  obtain ⟨n, rfl⟩ : ∃ n : Nat, v1 = (n : Int) := ⟨v1.toNat, by omega⟩
  have hn : n < 5 := by omega
  have hal : ∀ n : Nat, n < 5 → 0 < (rdOf ByteArray.empty [(⟨#[97]⟩ : ByteArray), (⟨#[97, 98]⟩ : ByteArray), (⟨#[97, 98, 99]⟩ : ByteArray), (⟨#[97, 99, 103, 116]⟩ : ByteArray), (⟨#[0, 255]⟩ : ByteArray)] (n : Int)).size ∧ (rdOf ByteArray.empty [(⟨#[97]⟩ : ByteArray), (⟨#[97, 98]⟩ : ByteArray), (⟨#[97, 98, 99]⟩ : ByteArray), (⟨#[97, 99, 103, 116]⟩ : ByteArray), (⟨#[0, 255]⟩ : ByteArray)] (n : Int)).size ≤ 100 := by
    intro n hn
    match n, hn with
    | 0, _ => exact ⟨by decide, by decide⟩
    | 1, _ => exact ⟨by decide, by decide⟩
    | 2, _ => exact ⟨by decide, by decide⟩
    | 3, _ => exact ⟨by decide, by decide⟩
    | 4, _ => exact ⟨by decide, by decide⟩
  obtain ⟨l', q, s', k1, k2, k3, k4, k5, k6⟩ := textOf_l0_ok code hb _ (hal n hn).1 (hal n hn).2 v2.toNat [] q2 s2 (by omega) (by simp) ⟨by omega, by omega, c2, d2⟩ (by omega)
  refine ⟨l', q, s', ?_, by omega, by omega, k4, k5, k6⟩
  rw [show ((v2.toNat : Nat) : Int) = v2 by omega] at k1
  exact ev_some rfl (ev_some e1 (ev_pos f1 (ev_pos (by simp; omega) (ev_some e2' k1))))
def i64r (v : Int) : Prop := -9223372036854775808 ≤ v ∧ v ≤ 9223372036854775807
theorem wrap_i64r (v : Int) : i64r (wrap64 v) := by unfold i64r wrap64; omega
theorem raw_ok (code : List Int) (hb : ∀ b ∈ code, 0 ≤ b ∧ b < 256) (p s : Int) (h : drawOk p s) (h2 : p ≤ 900000000000) : ∃ v q s', spec_l01Cur_raw.f code p s = some (v, q, s') ∧ p ≤ q ∧ q ≤ p + 2 ∧ 0 ≤ s' ∧ s' < 70000 ∧ i64r v := by
  unfold spec_l01Cur_raw.f
  obtain ⟨v1, q1, s1, e1, a1, b1, c1, d1, _, _⟩ := pick_ok code hb p s 8 h
  have k1 : drawOk q1 s1 := ⟨by have := h.1; omega, by omega, c1, d1⟩
  rw [e1, Option.bind_some]
  simp only
  by_cases g0 : v1 = 0
  · rw [if_pos g0]
    obtain ⟨v2, q2, s2, e2, a2, b2, c2, d2, _, _⟩ := pick_ok code hb q1 s1 256 k1
    rw [e2]
    exact ⟨wrap64 (v2 - 128), q2, s2, rfl, by omega, by omega, c2, d2, wrap_i64r _⟩
  · rw [if_neg g0]
    by_cases g1 : v1 = 1
    · rw [if_pos g1, Option.bind_some]
      obtain ⟨v2, q2, s2, e2, a2, b2, c2, d2, f2, f3⟩ := pick_ok code hb q1 s1 8 k1
      rw [e2, Option.bind_some]
      simp only
      rw [if_pos f2, if_pos (by simp; omega)]
      refine ⟨_, _, _, rfl, by omega, by omega, c2, d2, ?_⟩
      have hv : v2 < 8 := by omega
      obtain ⟨n, rfl⟩ : ∃ n : Nat, v2 = (n : Int) := ⟨v2.toNat, by omega⟩
      rw [rd_nat]
      have hn : n < 8 := by omega
      unfold i64r
      match n, hn with
      | 0, _ => decide
      | 1, _ => decide
      | 2, _ => decide
      | 3, _ => decide
      | 4, _ => decide
      | 5, _ => decide
      | 6, _ => decide
      | 7, _ => decide
    · rw [if_neg g1]
      obtain ⟨v2, q2, s2, e2, a2, b2, c2, d2, _, _⟩ := pick_ok code hb q1 s1 14 k1
      rw [e2]
      exact ⟨wrap64 (v2 - 3), q2, s2, rfl, by omega, by omega, c2, d2, wrap_i64r _⟩
theorem syms_ok (code : List Int) (hb : ∀ b ∈ code, 0 ≤ b ∧ b < 256) (hm : code.length ≤ 140737488355328) (p s : Int) (h : drawOk p s) (hp : p ≤ 300000000000) : ∃ l q s', Ev (fun k => spec_l01Cur_syms.f k code p s) (l, q, s') := by
  have hh := h.1
  unfold spec_l01Cur_syms.f
  obtain ⟨t, q1, s1, e1, a1, b1, c1, d1, tl⟩ := textOf_ok code hb hm p s h (by omega)
  obtain ⟨w, ew, wl⟩ := BwtOf_ok t tl
  obtain ⟨v2, q2, s2, e2, a2, b2, c2, d2, f2, g2⟩ := pick_ok code hb q1 s1 8 ⟨by omega, by omega, c1, d1⟩
  have o2 : drawOk q2 s2 := ⟨by omega, by omega, c2, d2⟩
  by_cases k0 : v2 = 0
  · obtain ⟨v3, q3, s3, e3, a3, b3, c3, d3, f3, g3⟩ := pick_ok code hb q2 s2 (w.length : Int) o2
    obtain ⟨v4, q4, s4, e4, a4, b4, c4, d4, f4⟩ := raw_ok code hb q3 s3 ⟨by omega, by omega, c3, d3⟩ (by omega)
    obtain ⟨v5, q5, s5, e5, a5, b5, c5, d5, f5, g5⟩ := pick_ok code hb q4 s4 4 ⟨by omega, by omega, c4, d4⟩
    exact ⟨_, _, _, ev_bind e1 (ev_bind ew (ev_some e2 (ev_pos k0 (ev_some e3 (ev_some e4 (ev_some rfl (ev_some e5 (ev_pos f5 (ev_pos (by simp; omega) (ev_pos f3 (ev_pos (by show v3 < (w.length : Int); omega) (ev_now _))))))))))))⟩
  · by_cases k1 : v2 = 1
    · by_cases kl : (w.length : Int) > 1
      · have hw1 : wrap64 ((w.length : Int) - 1) = (w.length : Int) - 1 := w64 (by omega) (by omega)
        obtain ⟨v3, q3, s3, e3, a3, b3, c3, d3, f3, g3⟩ := pick_ok code hb q2 s2 (wrap64 ((w.length : Int) - 1)) o2
        have hw2 : wrap64 (v3 + 1) = v3 + 1 := w64 (by omega) (by omega)
        exact ⟨_, _, _, ev_bind e1 (ev_bind ew (ev_some e2 (ev_neg k0 (ev_pos k1 (ev_pos kl (ev_some e3 (ev_pos f3 (ev_pos (by show v3 < (w.length : Int); omega) (ev_pos (by show 0 ≤ wrap64 (v3 + 1); omega) (ev_pos (by show wrap64 (v3 + 1) < (w.length : Int); omega) (ev_now _)))))))))))⟩
      · exact ⟨_, _, _, ev_bind e1 (ev_bind ew (ev_some e2 (ev_neg k0 (ev_pos k1 (ev_neg kl (ev_now _))))))⟩
    · by_cases k2 : v2 = 2
      · obtain ⟨v3, q3, s3, e3, a3, b3, c3, d3⟩ := once_ok code hb q2 s2 5 o2
        cases v3 with
        | true =>
          obtain ⟨v4, q4, s4, e4, a4, b4, c4, d4, f4, g4⟩ := pick_ok code hb q3 s3 2 ⟨by omega, by omega, c3, d3⟩
          have hw : wrap64 (301 + v4) = 301 + v4 := w64 (by omega) (by omega)
          exact ⟨_, _, _, ev_bind e1 (ev_bind ew (ev_some e2 (ev_neg k0 (ev_neg k1 (ev_pos k2 (ev_some e3 (ev_pos rfl (ev_some e4 (ev_pos (by show 0 ≤ wrap64 (301 + v4); omega) (ev_pos (by show (wrap64 (301 + v4)).toNat ≤ 35184372088832; omega) (ev_now _)))))))))))⟩
        | false => exact ⟨_, _, _, ev_bind e1 (ev_bind ew (ev_some e2 (ev_neg k0 (ev_neg k1 (ev_pos k2 (ev_some e3 (ev_neg (by simp) (ev_now _))))))))⟩
      · exact ⟨_, _, _, ev_bind e1 (ev_bind ew (ev_some e2 (ev_neg k0 (ev_neg k1 (ev_neg k2 (ev_now _))))))⟩
theorem DrawLfOf_ok (code : List Int) (hb : ∀ b ∈ code, 0 ≤ b ∧ b < 256) (hm : code.length ≤ 140737488355328) : ∃ l, Ev (fun m => spec_DrawLfOf.f m code) l := by
  unfold spec_DrawLfOf.f
  have h0 : spec_l01Open.f code = some (code, 0, 89 + ((code.length : Int) % 1000)) := rfl
  obtain ⟨l, q, s', e⟩ := syms_ok code hb hm 0 (89 + ((code.length : Int) % 1000)) ⟨by omega, by omega, by omega, by omega⟩ (by omega)
  exact ⟨l, ev_some h0 (ev_bind e (ev_now _))⟩
theorem spec_SymsOk_l0 (xs : List Int) (hm : xs.length ≤ 301) : ∀ (d n : Nat), n + d = xs.length → Ev (fun k => spec_SymsOk.l0 k xs (n : Int)) ((xs.drop n).all fun a => decide (0 ≤ a ∧ a ≤ 256)) := by
  intro d
  induction d with
  | zero =>
    intro n hn
    refine Ev.step (fun k => by rw [spec_SymsOk.l0]) ?_
    refine ev_neg (by omega) (ev_now' ?_)
    rw [List.drop_eq_nil_of_le (by omega)]; rfl
  | succ d ih =>
    intro n hn
    refine Ev.step (fun k => by rw [spec_SymsOk.l0]) ?_
    refine ev_pos (by omega) (ev_pos (by omega) ?_)
    rw [rd_lt (show n < xs.length by omega), w64 (by omega) (by omega), List.drop_eq_getElem_cons (show n < xs.length by omega), List.all_cons]
    refine ev_ite (fun h => ev_now' ?_) (fun h => ev_ite (fun h' => ev_now' ?_) (fun h' => ev_eq (ih (n + 1) (by omega)) ?_))
    · rw [decide_eq_false (by omega)]; rfl
    · rw [decide_eq_false (by omega)]; rfl
    · rw [decide_eq_true (by omega)]; rfl
theorem spec_SymsOk_ev (xs : List Int) : Ev (fun k => spec_SymsOk.f k xs) (symsOk xs) := by
  unfold spec_SymsOk.f symsOk
  refine ev_ite (fun h => ev_now' ?_) (fun h => ev_eq (spec_SymsOk_l0 xs (by omega) xs.length 0 (by omega)) ?_)
  · rw [decide_eq_false (by omega)]; rfl
  · rw [decide_eq_true (by omega)]; rfl

theorem cLt_mono (l : List Int) {a b : Int} (h : a ≤ b) : cLt l a ≤ cLt l b := by
  induction l with
  | nil => simp [cLt]
  | cons x l ih =>
    rw [cLt_cons, cLt_cons]
    by_cases c : x < a
    · rw [if_pos c, if_pos (by omega)]; omega
    · rw [if_neg c]; split <;> omega
theorem cEq_take_le (l : List Int) (v : Int) {i j : Nat} (h : i ≤ j) : cEq (l.take i) v ≤ cEq (l.take j) v := by
  have e : l.take j = l.take i ++ (l.take j).drop i := by
    have := List.take_append_drop i (l.take j)
    rw [List.take_take, Nat.min_eq_left h] at this
    exact this.symm
  rw [e, cEq_append]; omega
theorem cEq_take_all (l : List Int) (v : Int) (i : Nat) : cEq (l.take i) v ≤ cEq l v := by
  by_cases h : i ≤ l.length
  · have := cEq_take_le l v h
    rwa [List.take_length] at this
  · rw [List.take_of_length_le (by omega)]; omega
def lfn (b : List Int) (i : Nat) : Nat := cLt b (b.getD i 0) + cEq (b.take i) (b.getD i 0)
theorem getD_get (b : List Int) {i : Nat} (h : i < b.length) : b.getD i 0 = b[i] := by rw [List.getD_eq_getElem?_getD, List.getElem?_eq_getElem h, Option.getD_some]
theorem cEq_step (b : List Int) {i : Nat} (h : i < b.length) : cEq (b.take (i + 1)) b[i] = cEq (b.take i) b[i] + 1 := by rw [take_snoc' h, cEq_snoc, if_pos rfl]
theorem lfn_hi (b : List Int) {i : Nat} (h : i < b.length) : lfn b i < cLt b (b.getD i 0 + 1) := by
  unfold lfn
  rw [getD_get b h, cLt_succ]
  have h1 := cEq_step b h
  have h2 := cEq_take_all b b[i] (i + 1)
  omega
theorem lfn_order (b : List Int) {i j : Nat} (hi : i < b.length) (hj : j < i) (e : b.getD i 0 = b.getD j 0) : lfn b j < lfn b i := by
  unfold lfn
  rw [e, getD_get b (show j < b.length by omega)]
  have h1 := cEq_step b (show j < b.length by omega)
  have h2 := cEq_take_le b b[j] (show j + 1 ≤ i by omega)
  omega
theorem lfn_lt (b : List Int) {i : Nat} (h : i < b.length) : lfn b i < b.length := by
  unfold lfn
  rw [getD_get b h]
  exact cLt_cEq_lt h
theorem lfn_inj (b : List Int) {i j : Nat} (hi : i < b.length) (hj : j < i) : lfn b i ≠ lfn b j := by
  have hj' : j < b.length := by omega
  have a1 := lfn_hi b hi
  have a2 := lfn_hi b hj'
  have b1 : cLt b (b.getD i 0) ≤ lfn b i := by unfold lfn; omega
  have b2 : cLt b (b.getD j 0) ≤ lfn b j := by unfold lfn; omega
  rcases Int.lt_trichotomy (b.getD i 0) (b.getD j 0) with h | h | h
  · have := cLt_mono b (show b.getD i 0 + 1 ≤ b.getD j 0 by omega)
    omega
  · have := lfn_order b hi hj h
    omega
  · have := cLt_mono b (show b.getD j 0 + 1 ≤ b.getD i 0 by omega)
    omega
/-! each number once -/
theorem count_le_one : ∀ (l : List Int) (v : Int), (∀ i j (hi : i < l.length) (hj : j < l.length), j < i → l[i] ≠ l[j]) → l.count v ≤ 1 := by
  intro l
  induction l with
  | nil => intro v _; simp
  | cons x l ih =>
    intro v h
    rw [List.count_cons]
    have h' := ih v (fun i j hi hj hji => by
      have := h (i + 1) (j + 1) (by simp; omega) (by simp; omega) (by omega)
      simpa using this)
    by_cases e : x = v
    · have : l.count v = 0 := by
        rw [List.count_eq_zero]
        intro hm
        obtain ⟨i, hi, e2⟩ := List.getElem_of_mem hm
        have := h (i + 1) 0 (by simp; omega) (by simp) (by omega)
        simp at this
        rw [e2, e] at this
        exact this rfl
      simp [e, this]
    · simp [e]; omega
def cntSum (l : List Int) : Nat → Nat
  | 0 => 0
  | n + 1 => cntSum l n + l.count ((n : Nat) : Int)
theorem cntSum_nil (n : Nat) : cntSum [] n = 0 := by
  induction n with
  | zero => rfl
  | succ n ih => rw [cntSum, ih]; rfl
theorem cntSum_cons (x : Int) (l : List Int) (n : Nat) : cntSum (x :: l) n = cntSum l n + if 0 ≤ x ∧ x < n then 1 else 0 := by
  induction n with
  | zero => rw [cntSum, cntSum, if_neg (by omega)]
  | succ n ih =>
    rw [cntSum, cntSum, ih, List.count_cons]
    simp only [beq_iff_eq]
    repeat' split
    all_goals omega
theorem cntSum_all (n : Nat) : ∀ (l : List Int), (∀ x ∈ l, 0 ≤ x ∧ x < n) → cntSum l n = l.length := by
  intro l
  induction l with
  | nil => intro _; rw [cntSum_nil]; rfl
  | cons x l ih =>
    intro h
    rw [cntSum_cons, ih (fun y hy => h y (by simp [hy])), if_pos (h x (by simp))]; rfl
theorem cntSum_le (l : List Int) (h : ∀ v, l.count v ≤ 1) : ∀ n, cntSum l n ≤ n := by
  intro n
  induction n with
  | zero => exact Nat.le_refl 0
  | succ n ih => rw [cntSum]; have := h ((n : Nat) : Int); omega
theorem cntSum_hole (l : List Int) (h : ∀ v, l.count v ≤ 1) (v : Nat) (h0 : l.count (v : Int) = 0) : ∀ n, v < n → cntSum l n < n := by
  intro n
  induction n with
  | zero => intro hv; omega
  | succ n ih =>
    intro hv
    rw [cntSum]
    by_cases e : v = n
    · subst e
      have := cntSum_le l h v
      omega
    · have h1 := ih (by omega)
      have := h ((n : Nat) : Int)
      omega
theorem lf_once (b : List Int) (v : Nat) (hv : v < b.length) : (lfR b).count (v : Int) = 1 := by
  have hl : (lfR b).length = b.length := tab_length _ _
  have hg : ∀ i (h : i < (lfR b).length), (lfR b)[i] = ((lfn b i : Nat) : Int) := fun i h => tab_get h
  have hone : ∀ v, (lfR b).count v ≤ 1 := by
    intro v
    refine count_le_one _ v ?_
    intro i j hi hj hji
    rw [hg i hi, hg j hj]
    have := lfn_inj b (show i < b.length by omega) hji
    omega
  have hall : ∀ x ∈ lfR b, 0 ≤ x ∧ x < (b.length : Int) := by
    intro x hx
    obtain ⟨i, hi, e⟩ := List.getElem_of_mem hx
    rw [← e, hg i hi]
    have := lfn_lt b (show i < b.length by omega)
    omega
  have hs := cntSum_all b.length (lfR b) hall
  rcases Nat.eq_zero_or_pos ((lfR b).count (v : Int)) with h0 | h0
  · have := cntSum_hole (lfR b) hone v h0 b.length hv
    omega
  · have := hone (v : Int)
    omega
theorem laws_count_l0 (b : Int) (l : List Int) (hm : l.length ≤ 140737488355328) : ∀ (d i : Nat), i + d = l.length → Ev (fun k => laws_count.l0 k l b ((((l.take i).count b : Nat)) : Int) (i : Int)) ((l.count b : Nat) : Int) := by
  intro d
  induction d with
  | zero =>
    intro i hi
    refine Ev.step (fun k => by rw [laws_count.l0]) ?_
    exact ev_neg (by omega) (ev_now' (by rw [List.take_of_length_le (by omega)]))
  | succ d ih =>
    intro i hi
    have hlt : i < l.length := by omega
    refine Ev.step (fun k => by rw [laws_count.l0]) ?_
    have hc : (l.take i).count b ≤ l.length := Nat.le_trans List.count_le_length (by rw [List.length_take]; omega)
    have h := ih (i + 1) (by omega)
    rw [take_snoc' hlt, count_snoc] at h
    rw [rd_lt hlt, w64 (n := (i : Int) + 1) (by omega) (by omega)]
    refine ev_pos (by omega) (ev_pos (by omega) ?_)
    refine ev_ite (fun e => ?_) (fun e => ?_)
    · rw [if_pos e] at h
      rw [w64 (by omega) (by omega)]
      exact h
    · rw [if_neg e] at h
      exact h
theorem laws_count_ev (l : List Int) (b : Int) (hm : l.length ≤ 140737488355328) : Ev (fun k => laws_count.f k l b) ((l.count b : Nat) : Int) := by
  unfold laws_count.f
  have := laws_count_l0 b l hm l.length 0 (by omega)
  rw [List.take_zero] at this
  exact this
theorem lf_rd (b : List Int) {i : Nat} (h : i < b.length) : rd (lfR b) (i : Int) = ((lfn b i : Nat) : Int) := by
  unfold lfR
  rw [rd_tab h]; rfl
theorem LfOrder_l1 (b : List Int) (hm : b.length ≤ 301) (i : Nat) (hi : i < b.length) (c : List Int) (h : Ev (fun k => laws_FnLfOrder.l0 k b (lfR b) c ((i + 1 : Nat) : Int)) true) : ∀ (d j : Nat), j + d = i → Ev (fun k => laws_FnLfOrder.l1 k b (lfR b) c (i : Int) (j : Int)) true := by
  have hl : (lfR b).length = b.length := tab_length _ _
  intro d
  induction d with
  | zero =>
    intro j hj
    refine Ev.step (fun k => by rw [laws_FnLfOrder.l1]) (ev_neg (by omega) ?_)
    rw [w64 (by omega) (by omega)]
    exact h
  | succ d ih =>
    intro j hj
    refine Ev.step (fun k => by rw [laws_FnLfOrder.l1]) (ev_pos (by omega) (ev_pos (by omega) (ev_pos (by omega) (ev_pos (by omega) (ev_pos (by omega) ?_)))))
    rw [rd_lt hi, rd_lt (show j < b.length by omega), lf_rd b hi, lf_rd b (show j < b.length by omega), w64 (by omega) (by omega)]
    refine ev_ite (fun e => ev_pos (by omega) (ev_pos (by omega) (ev_neg ?_ (ih (j + 1) (by omega))))) (fun _ => ih (j + 1) (by omega))
    have := lfn_order b hi (show j < i by omega) (by rw [getD_get b hi, getD_get b (show j < b.length by omega)]; exact e)
    omega
theorem LfOrder_l0 (b : List Int) (hm : b.length ≤ 301) (hx : ∀ x ∈ b, 0 ≤ x ∧ x ≤ 256) : ∀ (d i : Nat), i + d = b.length → Ev (fun k => laws_FnLfOrder.l0 k b (lfR b) (countsR b) (i : Int)) true := by
  have hl : (lfR b).length = b.length := tab_length _ _
  have hc : (countsR b).length = 258 := tab_length _ _
  intro d
  induction d with
  | zero =>
    intro i hi
    refine Ev.step (fun k => by rw [laws_FnLfOrder.l0]) ?_
    exact ev_neg (by omega) (ev_now _)
  | succ d ih =>
    intro i hi
    have hlt : i < b.length := by omega
    have hv := hx _ (List.getElem_mem hlt)
    refine Ev.step (fun k => by rw [laws_FnLfOrder.l0]) (ev_pos (by omega) (ev_bind (laws_count_ev (lfR b) (i : Int) (by omega)) ?_))
    rw [lf_once b i hlt]
    obtain ⟨v, e⟩ : ∃ v : Nat, b[i] = (v : Int) := ⟨b[i].toNat, by omega⟩
    have r1 : rd (countsR b) (v : Int) = ((cLt b (v : Int) : Nat) : Int) := by unfold countsR; rw [rd_tab (by omega)]
    have r2 : rd (countsR b) ((v : Int) + 1) = ((cLt b ((v : Int) + 1) : Nat) : Int) := by
      rw [show (v : Int) + 1 = ((v + 1 : Nat) : Int) by omega]
      unfold countsR
      rw [rd_tab (by omega)]
    have h1 : cLt b (v : Int) ≤ lfn b i := by unfold lfn; rw [getD_get b hlt, e]; omega
    have h2 : lfn b i < cLt b ((v : Int) + 1) := by have := lfn_hi b hlt; rw [getD_get b hlt, e] at this; exact this
    rw [rd_lt hlt, lf_rd b hlt, e, w64 (by omega) (by omega), r1, r2]
    refine ev_pos (by omega) (ev_pos (by omega) (ev_pos (by omega) (ev_pos (by omega) (ev_pos (by omega) (ev_neg (by omega) (ev_pos (by omega) (ev_pos (by omega) ?_)))))))
    rw [decide_eq_false (by omega)]
    refine Ev.step (fun k => by rw [laws_FnLfOrder.j2]) (ev_neg (by decide) ?_)
    exact LfOrder_l1 b hm i hlt (countsR b) (ih (i + 1) (by omega)) i 0 (by omega)
theorem FnLfOrder : laws_FnLfOrder.Pure := by
  intro code hl _ hw
  refine Ev.rounds ?_
  unfold laws_FnLfOrder.f
  have hbig : laws_big.f code = some (decide ((code.length : Int) > 1048576)) := rfl
  refine ev_some hbig (ev_ite (fun _ => ev_now _) (fun hcl => ?_))
  have hcl' : code.length ≤ 1048576 := by
    rcases Nat.lt_or_ge 1048576 code.length with g | g
    · exact absurd (decide_eq_true (show (code.length : Int) > 1048576 by omega)) hcl
    · exact g
  obtain ⟨b, ed⟩ := DrawLfOf_ok code (fun x hx => wf_u8 (hw x hx)) (by omega)
  refine ev_bind ed (ev_bind (impl_LfOf_ev b) (ev_bind (impl_Counts_ev b) (ev_bind (spec_SymsOk_ev b) ?_)))
  by_cases h : symsOk b = true
  · obtain ⟨hm, hx⟩ := symsOk_mem h
    have hl' : (lfR b).length = b.length := tab_length _ _
    have hc : (countsR b).length = 258 := tab_length _ _
    rw [if_pos h, if_pos h]
    refine ev_pos h (ev_pos (by omega) (ev_pos (by omega) (ev_pos (by omega) ?_)))
    have e : rd (countsR b) 257 = (b.length : Int) := by
      rw [show (257 : Int) = ((257 : Nat) : Int) by rfl]
      unfold countsR
      rw [rd_tab (by omega)]
      have : cLt b ((257 : Nat) : Int) = b.length := by
        have : ∀ l : List Int, (∀ x ∈ l, 0 ≤ x ∧ x ≤ 256) → cLt l ((257 : Nat) : Int) = l.length := by
          intro l
          induction l with
          | nil => intro _; simp [cLt]
          | cons x l ih =>
            intro h
            rw [cLt_cons, if_pos (by have := h x (by simp); omega), ih (fun y hy => h y (by simp [hy]))]; rfl
        exact this b hx
      rw [this]
    rw [e, show ((b.length : Int) != (b.length : Int)) = false by simp]
    refine Ev.step (fun k => by rw [laws_FnLfOrder.j0]) (ev_neg (by decide) ?_)
    exact LfOrder_l0 b hm hx b.length 0 (by omega)
  · rw [if_neg h, if_neg h]
    exact ev_neg h (ev_pos (by simp) (ev_now' (by simp)))

end Go.Proofs.Ytindkfapbgmjgaa.Pure
