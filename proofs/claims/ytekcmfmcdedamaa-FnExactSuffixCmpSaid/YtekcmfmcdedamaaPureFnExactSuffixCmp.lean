/- The pure statement of the law FnExactSuffixCmp: the program's answers equal the reference's, for all arguments within the row's bounds. -/
import Derived.Test.YtekcmfmcdedamaaQFnExactSuffixCmpx2
import Derived.Test.YtekcmfmcdedamaaLib
namespace Go.Proofs.Ytekcmfmcdedamaa.Pure
open Go.RowKit Go.Proofs.Ytekcmfmcdedamaa.QFnExactSuffixCmp Go.Proofs.Ytekcmfmcdedamaa.Lib Go.Proofs.YtekcmfmcdedamaaW.PrintWords Go.Proofs.YtekcmfmcdedamaaW.PrintLast Go.Proofs.YtekcmfmcdedamaaW.PrintMore
set_option linter.unusedVariables false
set_option linter.unusedSimpArgs false

def cmpI : List Int → List Int → Int
  | [], [] => 0
  | [], _ :: _ => -1
  | _ :: _, [] => 1
  | a :: l, b :: m => if a < b then -1 else if b < a then 1 else cmpI l m
theorem u8_lt {a b : Int} (ha : 0 ≤ a ∧ a < 256) (hb : 0 ≤ b ∧ b < 256) : (UInt8.ofNat a.toNat < UInt8.ofNat b.toNat) ↔ a < b := by
  rw [UInt8.lt_iff_toNat_lt, UInt8.toNat_ofNat', UInt8.toNat_ofNat']
  omega
theorem cmp_bytes : ∀ (xs ys : List Int), (∀ b ∈ xs, 0 ≤ b ∧ b < 256) → (∀ b ∈ ys, 0 ≤ b ∧ b < 256) → Go.Lib.compareBytes (strOfNums xs).data.toList (strOfNums ys).data.toList = cmpI xs ys := by
  intro xs ys
  rw [strOfNums_data, strOfNums_data]
  induction xs generalizing ys with
  | nil =>
    intro _ _
    cases ys with
    | nil => rfl
    | cons y ys => rfl
  | cons x xs ih =>
    intro hx hy
    cases ys with
    | nil => rfl
    | cons y ys =>
      rw [List.map_cons, List.map_cons, Go.Lib.compareBytes, cmpI]
      have h1 := u8_lt (hx x (by simp)) (hy y (by simp))
      have h2 := u8_lt (hy y (by simp)) (hx x (by simp))
      rw [ih ys (fun b hb => hx b (by simp [hb])) (fun b hb => hy b (by simp [hb]))]
      by_cases c1 : x < y
      · rw [if_pos c1, if_pos (h1.2 c1)]
      · rw [if_neg c1, if_neg (fun g => c1 (h1.1 g))]
        by_cases c2 : y < x
        · rw [if_pos c2, if_pos (h2.2 c2)]
        · rw [if_neg c2, if_neg (fun g => c2 (h2.1 g))]
theorem spec_l05Cmp_l0 (xs ys : List Int) (hm : xs.length ≤ 1048576) : ∀ (d n : Nat), n + d = xs.length → n ≤ ys.length → Ev (fun k => spec_l05Cmp.l0 k xs ys (n : Int)) (cmpI (xs.drop n) (ys.drop n)) := by
  have stop : ∀ n : Nat, n ≤ xs.length → n ≤ ys.length → (n = xs.length ∨ n = ys.length) → Ev (fun k => spec_l05Cmp.j1 k xs ys (n : Int) false) (cmpI (xs.drop n) (ys.drop n)) := by
    intro n h1 h2 h
    refine Ev.step (fun k => by rw [spec_l05Cmp.j1]) (ev_neg (by decide) ?_)
    by_cases a : n < xs.length
    · have b : n = ys.length := by omega
      rw [List.drop_eq_getElem_cons a, show ys.drop n = [] from List.drop_eq_nil_of_le (by omega), cmpI]
      exact ev_neg (by omega) (ev_pos (by omega) (ev_now _))
    · rw [show xs.drop n = [] from List.drop_eq_nil_of_le (by omega)]
      by_cases b : n < ys.length
      · rw [List.drop_eq_getElem_cons b, cmpI]
        exact ev_pos (by omega) (ev_now _)
      · rw [show ys.drop n = [] from List.drop_eq_nil_of_le (by omega), cmpI]
        exact ev_neg (by omega) (ev_neg (by omega) (ev_now _))
  intro d
  induction d with
  | zero =>
    intro n hn hy
    refine Ev.step (fun k => by rw [spec_l05Cmp.l0]) ?_
    exact ev_neg (by omega) (stop n (by omega) hy (Or.inl (by omega)))
  | succ d ih =>
    intro n hn hy
    have hlt : n < xs.length := by omega
    refine Ev.step (fun k => by rw [spec_l05Cmp.l0]) (ev_pos (by omega) ?_)
    by_cases h : n < ys.length
    · rw [decide_eq_true (by omega), List.drop_eq_getElem_cons hlt, List.drop_eq_getElem_cons h, cmpI]
      refine Ev.step (fun k => by rw [spec_l05Cmp.j1]) (ev_pos rfl (ev_pos (by omega) (ev_pos (by omega) (ev_pos (by omega) ?_))))
      rw [rd_lt hlt, rd_lt h, w64 (by omega) (by omega)]
      refine ev_ite (fun c => ?_) (fun c => ev_ite (fun c2 => ?_) (fun c2 => ?_))
      · rw [if_pos c]; exact ev_now _
      · rw [if_neg c, if_pos c2]; exact ev_now _
      · rw [if_neg c, if_neg c2]; exact ih (n + 1) (by omega) (by omega)
    · rw [decide_eq_false (by omega)]
      exact stop n (by omega) hy (Or.inr (by omega))
theorem spec_l05Cmp_ev (xs ys : List Int) (hm : xs.length ≤ 1048576) : Ev (fun k => spec_l05Cmp.f k xs ys) (cmpI xs ys) := by
  unfold spec_l05Cmp.f
  have := spec_l05Cmp_l0 xs ys hm xs.length 0 (by omega) (by omega)
  rw [List.drop_zero, List.drop_zero] at this
  exact this
theorem spec_TextOk_f (xs : List Int) : spec_TextOk.f xs = some (decide (xs.length ≤ 300)) := by
  unfold spec_TextOk.f
  congr 1
  rw [decide_eq_decide]; omega
def sufCmpR (xs : List Int) (i j : Int) : Int := if xs.length ≤ 300 ∧ (0 ≤ i ∧ i ≤ xs.length) ∧ 0 ≤ j ∧ j ≤ xs.length then cmpI (xs.drop i.toNat) (xs.drop j.toNat) else 0
theorem spec_SuffixCmp_ev (xs : List Int) (i j : Int) (hm : xs.length ≤ 1048576) : Ev (fun k => spec_SuffixCmp.f k xs i j) (sufCmpR xs i j) := by
  unfold spec_SuffixCmp.f sufCmpR
  refine ev_some (spec_TextOk_f xs) (ev_ite (fun h => ?_) (fun h => ?_))
  · have h := of_decide_eq_true h
    refine ev_ite (fun h1 => ev_now' (by rw [if_neg (by omega)])) (fun h1 => ev_ite (fun h2 => ev_now' (by rw [if_neg (by omega)])) (fun h2 => ev_ite (fun h3 => ev_now' (by rw [if_neg (by omega)])) (fun h3 => ev_ite (fun h4 => ev_now' (by rw [if_neg (by omega)])) (fun h4 => ?_))))
    rw [if_pos ⟨h, ⟨by omega, by omega⟩, by omega, by omega⟩]
    refine ev_pos (by omega) (ev_pos (by omega) (ev_pos (by omega) (ev_pos (by omega) ?_)))
    exact ev_bind (spec_l05Cmp_ev _ _ (by rw [List.length_drop]; omega)) (ev_now _)
  · have h' : ¬ xs.length ≤ 300 := fun g => h (decide_eq_true g)
    rw [if_neg (by omega)]; exact ev_now _
theorem laws_toByteS_l0 (xs : List Int) (hm : xs.length ≤ 140737488355328) : ∀ (d n : Nat) (out : List Int), n + d = xs.length → out.length = xs.length → (∀ j, j < n → out[j]? = xs[j]?) → Ev (fun k => laws_toByteS.l0 k xs out (n : Int)) xs := by
  intro d
  induction d with
  | zero =>
    intro n out hn hl ho
    refine Ev.step (fun k => by rw [laws_toByteS.l0]) ?_
    refine ev_neg (by omega) (ev_now' ?_)
    apply List.ext_getElem? ; intro j
    by_cases hj : j < n
    · exact ho j hj
    · rw [List.getElem?_eq_none (by omega), List.getElem?_eq_none (by omega)]
  | succ d ih =>
    intro n out hn hl ho
    refine Ev.step (fun k => by rw [laws_toByteS.l0]) ?_
    refine ev_pos (by omega) (ev_pos (by omega) (ev_pos (by omega) ?_))
    rw [w64 (by omega) (by omega)]
    refine ih (n + 1) _ (by omega) (by simp [hl]) ?_
    intro j hj
    rw [Int.toNat_natCast, List.getElem?_set, rd_lt (by omega)]
    by_cases e : n = j
    · subst e; rw [if_pos rfl, if_pos (by omega), List.getElem?_eq_getElem (by omega)]
    · rw [if_neg e]; exact ho j (by omega)
theorem laws_toByteS_ev (xs : List Int) (hm : xs.length ≤ 140737488355328) : Ev (fun k => laws_toByteS.f k xs) xs := by
  unfold laws_toByteS.f
  refine ev_pos (by omega) (ev_pos (by omega) ?_)
  exact laws_toByteS_l0 xs hm xs.length 0 _ (by omega) (by simp) (by simp)
theorem impl_within_f (a b c : Int) : impl_within.f a b c = some (decide (b ≤ a ∧ a ≤ c)) := by
  unfold impl_within.f
  by_cases h : b ≤ a <;> simp [h]
theorem impl_TextOk_f (xs : List Int) : impl_TextOk.f xs = some (decide (xs.length ≤ 300)) := by
  unfold impl_TextOk.f
  congr 1
  rw [decide_eq_decide]; omega
theorem impl_SuffixCmp_f (xs : List Int) (i j : Int) (hb : ∀ b ∈ xs, 0 ≤ b ∧ b < 256) : impl_SuffixCmp.f xs i j = some (sufCmpR xs i j) := by
  unfold impl_SuffixCmp.f sufCmpR
  rw [impl_TextOk_f, Option.bind_some]
  by_cases h : xs.length ≤ 300
  · rw [if_pos (decide_eq_true h), impl_within_f, Option.bind_some]
    by_cases h1 : 0 ≤ i ∧ i ≤ xs.length
    · rw [if_pos (decide_eq_true h1), impl_within_f, Option.bind_some]
      by_cases h2 : 0 ≤ j ∧ j ≤ xs.length
      · rw [if_pos (decide_eq_true h2), if_pos h1.1, if_pos h1.2, if_pos h2.1, if_pos h2.2, if_pos ⟨h, h1, h2.1, h2.2⟩]
        unfold bytes_Compare.f
        rw [cmp_bytes _ _ (fun b g => hb b (List.mem_of_mem_drop g)) (fun b g => hb b (List.mem_of_mem_drop g))]
        rfl
      · rw [if_neg (by rw [decide_eq_false h2]; decide), if_neg (fun g => h2 ⟨g.2.2.1, g.2.2.2⟩)]
    · rw [if_neg (by rw [decide_eq_false h1]; decide), if_neg (fun g => h1 g.2.1)]
  · rw [if_neg (by rw [decide_eq_false h]; decide), if_neg (fun g => h g.1)]
theorem laws_eqByteS_l0 (xs ys : List Int) (hl : xs.length = ys.length) (hm : xs.length ≤ 140737488355328) : ∀ (d n : Nat), n + d = xs.length → Ev (fun k => laws_eqByteS.l0 k xs ys (n : Int)) (decide (xs.drop n = ys.drop n)) := by
  intro d
  induction d with
  | zero =>
    intro n hn
    refine Ev.step (fun k => by rw [laws_eqByteS.l0]) ?_
    refine ev_neg (by omega) (ev_now' ?_)
    rw [List.drop_eq_nil_of_le (by omega), List.drop_eq_nil_of_le (by omega)]; rfl
  | succ d ih =>
    intro n hn
    refine Ev.step (fun k => by rw [laws_eqByteS.l0]) ?_
    refine ev_pos (by omega) (ev_pos (by omega) (ev_pos (by omega) ?_))
    rw [rd_lt (by omega), rd_lt (by omega), w64 (by omega) (by omega)]
    rw [List.drop_eq_getElem_cons (show n < xs.length by omega), List.drop_eq_getElem_cons (show n < ys.length by omega)]
    refine ev_ite (fun h => ev_eq (ih (n + 1) (by omega)) ?_) (fun h => ev_now' ?_)
    · simp only [List.cons.injEq, h, true_and]
    · exact (decide_eq_false (fun e => h (List.cons.inj e).1)).symm
theorem laws_eqByteS_ev (xs ys : List Int) (hm : xs.length ≤ 140737488355328) : Ev (fun k => laws_eqByteS.f k xs ys) (decide (xs = ys)) := by
  unfold laws_eqByteS.f
  refine ev_ite (fun h => ?_) (fun h => ev_now' ?_)
  · exact laws_eqByteS_l0 xs ys (by omega) hm xs.length 0 (by omega)
  · exact (decide_eq_false (fun e => h (by rw [e]))).symm

theorem FnExactSuffixCmp : laws_FnExactSuffixCmp.Pure := by
  intro l i j hl _ hw _ _
  refine Ev.rounds ?_
  unfold laws_FnExactSuffixCmp.f
  refine ev_ite (fun _ => ev_now _) (fun h => ?_)
  have hm : l.length ≤ 140737488355328 := by omega
  have hb : ∀ b ∈ l, 0 ≤ b ∧ b < 256 := fun x hx => wf_u8 (hw x hx)
  refine ev_bind (laws_toByteS_ev l hm) (ev_bind (spec_SuffixCmp_ev l i j (by omega)) (ev_bind (laws_toByteS_ev l hm) (ev_some (impl_SuffixCmp_f l i j hb) (ev_pos rfl ?_))))
  exact ev_bind (laws_toByteS_ev l hm) (ev_bind (laws_eqByteS_ev l l hm) (ev_pos (by simp) (ev_now _)))

end Go.Proofs.Ytekcmfmcdedamaa.Pure
