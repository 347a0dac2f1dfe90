/- The pure statement of the law FnExactLcpRows: the program's answers equal the reference's, for all arguments within the row's bounds. -/
import Derived.Test.YtekcmfmcdedamaaQFnExactLcpRowsx5
import Derived.Test.YtekcmfmcdedamaaLib
namespace Go.Proofs.Ytekcmfmcdedamaa.Pure
open Go.RowKit Go.Proofs.Ytekcmfmcdedamaa.QFnExactLcpRows Go.Proofs.Ytekcmfmcdedamaa.Lib Go.Proofs.YtekcmfmcdedamaaW.PrintWords Go.Proofs.YtekcmfmcdedamaaW.PrintLast Go.Proofs.YtekcmfmcdedamaaW.PrintMore
set_option linter.unusedVariables false
set_option linter.unusedSimpArgs false

theorem laws_toByteS_l0 (xs : List Int) (hm : xs.length ≤ 140737488355328) : ∀ (d n : Nat) (out : List Int), n + d = xs.length → out.length = xs.length → (∀ j, j < n → out[j]? = xs[j]?) → Ev (fun k => laws_toByteS.l0 k xs out (n : Int)) xs := by
  intro d
  induction d with
  | zero =>
    intro n out hn hl ho
    refine Ev.step (fun k => by rw [laws_toByteS.l0]) ?_
    refine ev_neg (by omega) (ev_now' ?_)
    apply List.ext_getElem? ; intro j
    by_cases hj : j < n
    · exact ho j hj
    · rw [List.getElem?_eq_none (by omega), List.getElem?_eq_none (by omega)]
  | succ d ih =>
    intro n out hn hl ho
    refine Ev.step (fun k => by rw [laws_toByteS.l0]) ?_
    refine ev_pos (by omega) (ev_pos (by omega) (ev_pos (by omega) ?_))
    rw [w64 (by omega) (by omega)]
    refine ih (n + 1) _ (by omega) (by simp [hl]) ?_
    intro j hj
    rw [Int.toNat_natCast, List.getElem?_set, rd_lt (by omega)]
    by_cases e : n = j
    · subst e; rw [if_pos rfl, if_pos (by omega), List.getElem?_eq_getElem (by omega)]
    · rw [if_neg e]; exact ho j (by omega)
theorem laws_toByteS_ev (xs : List Int) (hm : xs.length ≤ 140737488355328) : Ev (fun k => laws_toByteS.f k xs) xs := by
  unfold laws_toByteS.f
  refine ev_pos (by omega) (ev_pos (by omega) ?_)
  exact laws_toByteS_l0 xs hm xs.length 0 _ (by omega) (by simp) (by simp)
theorem laws_eqByteS_l0 (xs ys : List Int) (hl : xs.length = ys.length) (hm : xs.length ≤ 140737488355328) : ∀ (d n : Nat), n + d = xs.length → Ev (fun k => laws_eqByteS.l0 k xs ys (n : Int)) (decide (xs.drop n = ys.drop n)) := by
  intro d
  induction d with
  | zero =>
    intro n hn
    refine Ev.step (fun k => by rw [laws_eqByteS.l0]) ?_
    refine ev_neg (by omega) (ev_now' ?_)
    rw [List.drop_eq_nil_of_le (by omega), List.drop_eq_nil_of_le (by omega)]; rfl
  | succ d ih =>
    intro n hn
    refine Ev.step (fun k => by rw [laws_eqByteS.l0]) ?_
    refine ev_pos (by omega) (ev_pos (by omega) (ev_pos (by omega) ?_))
    rw [rd_lt (by omega), rd_lt (by omega), w64 (by omega) (by omega)]
    rw [List.drop_eq_getElem_cons (show n < xs.length by omega), List.drop_eq_getElem_cons (show n < ys.length by omega)]
    refine ev_ite (fun h => ev_eq (ih (n + 1) (by omega)) ?_) (fun h => ev_now' ?_)
    · simp only [List.cons.injEq, h, true_and]
    · exact (decide_eq_false (fun e => h (List.cons.inj e).1)).symm
theorem laws_eqByteS_ev (xs ys : List Int) (hm : xs.length ≤ 140737488355328) : Ev (fun k => laws_eqByteS.f k xs ys) (decide (xs = ys)) := by
  unfold laws_eqByteS.f
  refine ev_ite (fun h => ?_) (fun h => ev_now' ?_)
  · exact laws_eqByteS_l0 xs ys (by omega) hm xs.length 0 (by omega)
  · exact (decide_eq_false (fun e => h (by rw [e]))).symm
theorem laws_eqIntS_l0 (xs ys : List Int) (hl : xs.length = ys.length) (hm : xs.length ≤ 140737488355328) : ∀ (d n : Nat), n + d = xs.length → Ev (fun k => laws_eqIntS.l0 k xs ys (n : Int)) (decide (xs.drop n = ys.drop n)) := by
  intro d
  induction d with
  | zero =>
    intro n hn
    refine Ev.step (fun k => by rw [laws_eqIntS.l0]) ?_
    refine ev_neg (by omega) (ev_now' ?_)
    rw [List.drop_eq_nil_of_le (by omega), List.drop_eq_nil_of_le (by omega)]; rfl
  | succ d ih =>
    intro n hn
    refine Ev.step (fun k => by rw [laws_eqIntS.l0]) ?_
    refine ev_pos (by omega) (ev_pos (by omega) (ev_pos (by omega) ?_))
    rw [rd_lt (by omega), rd_lt (by omega), w64 (by omega) (by omega)]
    rw [List.drop_eq_getElem_cons (show n < xs.length by omega), List.drop_eq_getElem_cons (show n < ys.length by omega)]
    refine ev_ite (fun h => ev_eq (ih (n + 1) (by omega)) ?_) (fun h => ev_now' ?_)
    · simp only [List.cons.injEq, h, true_and]
    · exact (decide_eq_false (fun e => h (List.cons.inj e).1)).symm
theorem laws_eqIntS_ev (xs ys : List Int) (hm : xs.length ≤ 140737488355328) : Ev (fun k => laws_eqIntS.f k xs ys) (decide (xs = ys)) := by
  unfold laws_eqIntS.f
  refine ev_ite (fun h => ?_) (fun h => ev_now' ?_)
  · exact laws_eqIntS_l0 xs ys (by omega) hm xs.length 0 (by omega)
  · exact (decide_eq_false (fun e => h (by rw [e]))).symm
theorem laws_markByteS_l0 (xs : List Int) (a : Nat) (hm : a + xs.length ≤ 1099511627776) : ∀ (d n : Nat), n + d = xs.length → Ev (fun k => laws_markByteS.l0 k (marked (fun x => x % 256) n a ++ xs.drop n) ((a + n : Nat) : Int) (n : Int)) (((a + xs.length : Nat) : Int), marked (fun x => x % 256) xs.length a) := by
  intro d
  induction d with
  | zero =>
    intro n hn
    have e : n = xs.length := by omega
    subst e
    refine Ev.step (fun k => by rw [laws_markByteS.l0]) ?_
    refine ev_neg (by simp [marked_length]) (ev_now' ?_)
    rw [List.drop_length, List.append_nil]
  | succ d ih =>
    intro n hn
    refine Ev.step (fun k => by rw [laws_markByteS.l0]) ?_
    refine ev_pos (by simp [marked_length]; omega) (ev_pos (by omega) ?_)
    rw [w64 (by omega) (by omega), w64 (by omega) (by omega), Int.toNat_natCast]
    have e := set_mark (c := (fun x => x % 256)) (a := a) (show n < xs.length by omega)
    rw [show (((a + n : Nat) : Int) % 256) = (fun x => x % 256) ((a + n : Nat) : Int) from rfl, e]
    exact ih (n + 1) (by omega)
theorem laws_markByteS_ev (xs : List Int) (a : Nat) (hm : a + xs.length ≤ 1099511627776) : Ev (fun k => laws_markByteS.f k xs (a : Int)) (((a + xs.length : Nat) : Int), marked (fun x => x % 256) xs.length a) := by
  unfold laws_markByteS.f
  have h := laws_markByteS_l0 xs a hm xs.length 0 (by omega)
  simpa [marked] using h
theorem laws_markIntS_l0 (xs : List Int) (a : Nat) (hm : a + xs.length ≤ 1099511627776) : ∀ (d n : Nat), n + d = xs.length → Ev (fun k => laws_markIntS.l0 k (marked (fun x => x) n a ++ xs.drop n) ((a + n : Nat) : Int) (n : Int)) (((a + xs.length : Nat) : Int), marked (fun x => x) xs.length a) := by
  intro d
  induction d with
  | zero =>
    intro n hn
    have e : n = xs.length := by omega
    subst e
    refine Ev.step (fun k => by rw [laws_markIntS.l0]) ?_
    refine ev_neg (by simp [marked_length]) (ev_now' ?_)
    rw [List.drop_length, List.append_nil]
  | succ d ih =>
    intro n hn
    refine Ev.step (fun k => by rw [laws_markIntS.l0]) ?_
    refine ev_pos (by simp [marked_length]; omega) (ev_pos (by omega) ?_)
    rw [w64 (by omega) (by omega), w64 (by omega) (by omega), Int.toNat_natCast]
    have e := set_mark (c := (fun x => x)) (a := a) (show n < xs.length by omega)
    rw [show (((a + n : Nat) : Int)) = (fun x => x) ((a + n : Nat) : Int) from rfl, e]
    exact ih (n + 1) (by omega)
theorem laws_markIntS_ev (xs : List Int) (a : Nat) (hm : a + xs.length ≤ 1099511627776) : Ev (fun k => laws_markIntS.f k xs (a : Int)) (((a + xs.length : Nat) : Int), marked (fun x => x) xs.length a) := by
  unfold laws_markIntS.f
  have h := laws_markIntS_l0 xs a hm xs.length 0 (by omega)
  simpa [marked] using h
theorem laws_heldIntS_l0 (m a : Nat) (hm : a + m ≤ 1099511627776) : ∀ (d n : Nat), n + d = m → Ev (fun k => laws_heldIntS.l0 k (marked (fun x => x) m a) ((a + n : Nat) : Int) (n : Int)) ((a + m : Nat) : Int) := by
  intro d
  induction d with
  | zero =>
    intro n hn
    have e : n = m := by omega
    subst e
    refine Ev.step (fun k => by rw [laws_heldIntS.l0]) ?_
    exact ev_neg (by simp [marked_length]) (ev_now _)
  | succ d ih =>
    intro n hn
    refine Ev.step (fun k => by rw [laws_heldIntS.l0]) ?_
    refine ev_pos (by rw [marked_length]; omega) (ev_pos (by omega) ?_)
    rw [rd_lt (by rw [marked_length]; omega), marked_get _ _ _ _ (by omega), w64 (by omega) (by omega), w64 (by omega) (by omega)]
    exact ev_pos rfl (ih (n + 1) (by omega))
theorem laws_heldIntS_ev (m a : Nat) (hm : a + m ≤ 1099511627776) : Ev (fun k => laws_heldIntS.f k (marked (fun x => x) m a) (a : Int)) ((a + m : Nat) : Int) := by
  unfold laws_heldIntS.f
  exact laws_heldIntS_l0 m a hm m 0 (by omega)
def cmpI : List Int → List Int → Int
  | [], [] => 0
  | [], _ :: _ => -1
  | _ :: _, [] => 1
  | a :: l, b :: m => if a < b then -1 else if b < a then 1 else cmpI l m
theorem spec_l05Cmp_l0 (xs ys : List Int) (hm : xs.length ≤ 1048576) : ∀ (d n : Nat), n + d = xs.length → n ≤ ys.length → Ev (fun k => spec_l05Cmp.l0 k xs ys (n : Int)) (cmpI (xs.drop n) (ys.drop n)) := by
  have stop : ∀ n : Nat, n ≤ xs.length → n ≤ ys.length → (n = xs.length ∨ n = ys.length) → Ev (fun k => spec_l05Cmp.j1 k xs ys (n : Int) false) (cmpI (xs.drop n) (ys.drop n)) := by
    intro n h1 h2 h
    refine Ev.step (fun k => by rw [spec_l05Cmp.j1]) (ev_neg (by decide) ?_)
    by_cases a : n < xs.length
    · have b : n = ys.length := by omega
      rw [List.drop_eq_getElem_cons a, show ys.drop n = [] from List.drop_eq_nil_of_le (by omega), cmpI]
      exact ev_neg (by omega) (ev_pos (by omega) (ev_now _))
    · rw [show xs.drop n = [] from List.drop_eq_nil_of_le (by omega)]
      by_cases b : n < ys.length
      · rw [List.drop_eq_getElem_cons b, cmpI]
        exact ev_pos (by omega) (ev_now _)
      · rw [show ys.drop n = [] from List.drop_eq_nil_of_le (by omega), cmpI]
        exact ev_neg (by omega) (ev_neg (by omega) (ev_now _))
  intro d
  induction d with
  | zero =>
    intro n hn hy
    refine Ev.step (fun k => by rw [spec_l05Cmp.l0]) ?_
    exact ev_neg (by omega) (stop n (by omega) hy (Or.inl (by omega)))
  | succ d ih =>
    intro n hn hy
    have hlt : n < xs.length := by omega
    refine Ev.step (fun k => by rw [spec_l05Cmp.l0]) (ev_pos (by omega) ?_)
    by_cases h : n < ys.length
    · rw [decide_eq_true (by omega), List.drop_eq_getElem_cons hlt, List.drop_eq_getElem_cons h, cmpI]
      refine Ev.step (fun k => by rw [spec_l05Cmp.j1]) (ev_pos rfl (ev_pos (by omega) (ev_pos (by omega) (ev_pos (by omega) ?_))))
      rw [rd_lt hlt, rd_lt h, w64 (by omega) (by omega)]
      refine ev_ite (fun c => ?_) (fun c => ev_ite (fun c2 => ?_) (fun c2 => ?_))
      · rw [if_pos c]; exact ev_now _
      · rw [if_neg c, if_pos c2]; exact ev_now _
      · rw [if_neg c, if_neg c2]; exact ih (n + 1) (by omega) (by omega)
    · rw [decide_eq_false (by omega)]
      exact stop n (by omega) hy (Or.inr (by omega))
theorem spec_l05Cmp_ev (xs ys : List Int) (hm : xs.length ≤ 1048576) : Ev (fun k => spec_l05Cmp.f k xs ys) (cmpI xs ys) := by
  unfold spec_l05Cmp.f
  have := spec_l05Cmp_l0 xs ys hm xs.length 0 (by omega) (by omega)
  rw [List.drop_zero, List.drop_zero] at this
  exact this
theorem cmpI_neg : ∀ (a b : List Int), cmpI b a = - cmpI a b
  | [], [] => rfl
  | [], _ :: _ => rfl
  | _ :: _, [] => rfl
  | x :: a, y :: b => by
    rw [cmpI, cmpI, cmpI_neg a b]
    by_cases h1 : x < y
    · rw [if_pos h1, if_neg (by omega), if_pos h1]; decide
    · by_cases h2 : y < x
      · rw [if_pos h2, if_neg h1, if_pos h2]
      · rw [if_neg h2, if_neg h1, if_neg h1, if_neg h2]
theorem cmpI_zero : ∀ (a b : List Int), cmpI a b = 0 → a = b
  | [], [] => fun _ => rfl
  | [], _ :: _ => fun h => by simp [cmpI] at h
  | _ :: _, [] => fun h => by simp [cmpI] at h
  | x :: a, y :: b => fun h => by
    rw [cmpI] at h
    by_cases h1 : x < y
    · rw [if_pos h1] at h; exact absurd h (by decide)
    · rw [if_neg h1] at h
      by_cases h2 : y < x
      · rw [if_pos h2] at h; exact absurd h (by decide)
      · rw [if_neg h2] at h
        have e : x = y := by omega
        rw [e, cmpI_zero a b h]
theorem cmpI_trans : ∀ (a b c : List Int), cmpI a b ≤ 0 → cmpI b c ≤ 0 → cmpI a c ≤ 0
  | [], _, [] => fun _ _ => by decide
  | [], _, _ :: _ => fun _ _ => by simp [cmpI]
  | _ :: _, [], _ => fun h _ => by simp [cmpI] at h
  | _ :: _, _ :: _, [] => fun _ h => by simp [cmpI] at h
  | x :: a, y :: b, z :: c => fun h k => by
    rw [cmpI] at h k ⊢
    have ih := cmpI_trans a b c
    split at h
    · split at k
      · rw [if_pos (by omega)]; decide
      · split at k
        · omega
        · rw [if_pos (by omega)]; decide
    · split at h
      · omega
      · split at k
        · rw [if_pos (by omega)]; decide
        · split at k
          · omega
          · rw [if_neg (by omega), if_neg (by omega)]; exact ih h k
/-- row a stands ahead of row b, or is it -/
def sLe (t : List Int) (a b : Int) : Prop := cmpI (t.drop a.toNat) (t.drop b.toNat) ≤ 0
theorem sLe_trans {t : List Int} {a b c : Int} (h : sLe t a b) (k : sLe t b c) : sLe t a c := cmpI_trans _ _ _ h k
theorem sLe_anti {t : List Int} {a b : Int} (ha : 0 ≤ a ∧ a ≤ (t.length : Int)) (hb : 0 ≤ b ∧ b ≤ (t.length : Int)) (h : sLe t a b) (k : sLe t b a) : a = b := by
  unfold sLe at h k
  rw [cmpI_neg] at k
  have e := congrArg List.length (cmpI_zero _ _ (show cmpI (t.drop a.toNat) (t.drop b.toNat) = 0 by omega))
  rw [List.length_drop, List.length_drop] at e
  omega
def uptoI (k : Nat) : List Int := (List.range k).map fun (i : Nat) => (i : Int)
theorem uptoI_succ (k : Nat) : uptoI (k + 1) = uptoI k ++ [(k : Int)] := by simp [uptoI, List.range_succ]
theorem uptoI_length (k : Nat) : (uptoI k).length = k := by simp [uptoI]
theorem uptoI_mem {k : Nat} {x : Int} (h : x ∈ uptoI k) : 0 ≤ x ∧ x < (k : Int) := by
  simp only [uptoI, List.mem_map, List.mem_range] at h
  obtain ⟨a, h1, h2⟩ := h
  omega
/-- rows that a text of n bytes may have -/
def rowsIn (n : Nat) (l : List Int) : Prop := ∀ x ∈ l, 0 ≤ x ∧ x ≤ (n : Int)
theorem SuffixRows_l1_ok (t : List Int) (hm : t.length ≤ 300) (out : List Int) (i : Nat) (hi : i ≤ t.length) (ho : out.length ≤ 301) (hr : rowsIn t.length out) (hs : out.Pairwise (sLe t)) (P : List Int → Prop)
    (h : ∀ lo : Nat, lo ≤ out.length → (out.take lo ++ ((i : Int) :: out.drop lo)).Pairwise (sLe t) → ∃ r, Ev (fun k => spec_SuffixRows.l0 k t (out.take lo ++ ((i : Int) :: out.drop lo)) ((i : Int) - 1)) r ∧ P r) :
    ∀ (d lo hi : Nat), hi ≤ lo + d → lo ≤ hi → hi ≤ out.length → (∀ j (hj : j < out.length), j < lo → sLe t out[j] (i : Int)) → (∀ j (hj : j < out.length), hi ≤ j → sLe t (i : Int) out[j]) → ∃ r, Ev (fun k => spec_SuffixRows.l1 k t out (i : Int) (lo : Int) (hi : Int)) r ∧ P r := by
  intro d
  induction d with
  | zero =>
    intro lo hi' h1 h2 h3 hlo hhi
    have hp : (out.take lo ++ ((i : Int) :: out.drop lo)).Pairwise (sLe t) := by
      have hsp := hs
      rw [← List.take_append_drop lo out, List.pairwise_append] at hsp
      obtain ⟨p1, p2, p3⟩ := hsp
      have q1 : ∀ a ∈ out.take lo, sLe t a (i : Int) := by
        intro a ha
        obtain ⟨j, hj, e⟩ := List.mem_iff_getElem.1 ha
        rw [List.length_take] at hj
        rw [List.getElem_take] at e
        subst e
        exact hlo j (by omega) (by omega)
      have q2 : ∀ b ∈ out.drop lo, sLe t (i : Int) b := by
        intro b hb
        obtain ⟨j, hj, e⟩ := List.mem_iff_getElem.1 hb
        rw [List.length_drop] at hj
        rw [List.getElem_drop] at e
        subst e
        exact hhi (lo + j) (by omega) (by omega)
      rw [List.pairwise_append]
      refine ⟨p1, List.pairwise_cons.2 ⟨q2, p2⟩, fun a ha b hb => ?_⟩
      rcases List.mem_cons.1 hb with hb | hb
      · rw [hb]; exact q1 a ha
      · exact p3 a ha b hb
    obtain ⟨r, hr1, hr2⟩ := h lo (by omega) hp
    refine ⟨r, ?_, hr2⟩
    refine Ev.step (fun k => by rw [spec_SuffixRows.l1]) ?_
    have hd : (out.drop lo).length ≤ 301 := by rw [List.length_drop]; omega
    have ht : (out.take lo).length ≤ 301 := by rw [List.length_take]; omega
    refine ev_neg (by omega) ?_
    refine ev_some rfl (ev_pos (by omega) (ev_pos (by omega) (ev_some rfl ?_)))
    rw [Int.toNat_natCast, w64 (n := (i : Int) - 1) (by omega) (by omega)]
    refine ev_pos (by rw [List.length_singleton]; omega) (ev_some rfl (ev_some rfl (ev_some rfl ?_)))
    refine ev_pos (by rw [List.length_nil]; omega) (ev_some rfl (ev_pos (by rw [List.nil_append, List.length_append, List.length_singleton]; omega) ?_))
    exact hr1
  | succ d ih =>
    intro lo hi' h1 h2 h3 hlo hhi
    by_cases e : lo < hi'
    · have m1 : wrap64 (Int.tdiv (wrap64 ((lo : Int) + (hi' : Int))) 2) = (((lo + hi') / 2 : Nat) : Int) := by
        rw [w64 (n := (lo : Int) + (hi' : Int)) (by omega) (by omega), ← Int.natCast_add, show Int.tdiv ((lo + hi' : Nat) : Int) 2 = (((lo + hi') / 2 : Nat) : Int) from tdiv_nat (lo + hi') 2, w64 (by omega) (by omega)]
      have hlt : (lo + hi') / 2 < out.length := by omega
      have hx := hr _ (List.getElem_mem hlt)
      have hord : ∀ a b (ha : a < out.length) (hb : b < out.length), a < b → sLe t out[a] out[b] := fun a b ha hb hab => List.pairwise_iff_getElem.1 hs a b ha hb hab
      have step : ∀ c : Int, c = cmpI (t.drop (out[(lo + hi') / 2]).toNat) (t.drop i) → ∃ r, Ev (fun k => if c < 0 then spec_SuffixRows.l1 k t out (i : Int) (wrap64 ((((lo + hi') / 2 : Nat) : Int) + 1)) (hi' : Int) else spec_SuffixRows.l1 k t out (i : Int) (lo : Int) (((lo + hi') / 2 : Nat) : Int)) r ∧ P r := by
        intro c hcc
        by_cases hc : c < 0
        · have hmid : sLe t out[(lo + hi') / 2] (i : Int) := by unfold sLe; rw [Int.toNat_natCast]; omega
          obtain ⟨r, k1, k2⟩ := ih ((lo + hi') / 2 + 1) hi' (by omega) (by omega) h3 (fun j hj hj2 => by
            by_cases ej : j = (lo + hi') / 2
            · subst ej; exact hmid
            · exact sLe_trans (hord j _ hj hlt (by omega)) hmid) hhi
          refine ⟨r, ev_pos hc ?_, k2⟩
          rw [w64 (by omega) (by omega)]
          exact k1
        · have hmid : sLe t (i : Int) out[(lo + hi') / 2] := by unfold sLe; rw [Int.toNat_natCast, cmpI_neg]; omega
          obtain ⟨r, k1, k2⟩ := ih lo ((lo + hi') / 2) (by omega) (by omega) (by omega) hlo (fun j hj hj2 => by
            by_cases ej : j = (lo + hi') / 2
            · subst ej; exact hmid
            · exact sLe_trans hmid (hord _ j hlt hj (by omega)))
          exact ⟨r, ev_neg hc k1, k2⟩
      obtain ⟨r, k1, k2⟩ := step _ rfl
      refine ⟨r, ?_, k2⟩
      refine Ev.step (fun k => by rw [spec_SuffixRows.l1]) (ev_pos (by omega) ?_)
      rw [m1, rd_lt hlt]
      refine ev_pos (by omega) (ev_pos (by omega) (ev_pos (by omega) (ev_pos (by omega) (ev_pos (by omega) (ev_pos (by omega) ?_)))))
      rw [Int.toNat_natCast]
      exact ev_bind (spec_l05Cmp_ev _ _ (by rw [List.length_drop]; omega)) k1
    · exact ih lo hi' (by omega) h2 h3 hlo hhi
theorem SuffixRows_l0_ok (t : List Int) (hm : t.length ≤ 300) : ∀ (d : Nat) (out : List Int), d ≤ t.length + 1 → out.length + d = t.length + 1 → rowsIn t.length out → out.Pairwise (sLe t) → ∃ r, Ev (fun k => spec_SuffixRows.l0 k t out ((d : Int) - 1)) r ∧ (r.Pairwise (sLe t) ∧ r.Perm (out ++ uptoI d)) := by
  intro d
  induction d with
  | zero =>
    intro out hd hl hr hs
    refine ⟨out, ?_, hs, by simp [uptoI]⟩
    refine Ev.step (fun k => by rw [spec_SuffixRows.l0]) ?_
    exact ev_neg (by omega) (ev_now _)
  | succ d ih =>
    intro out hd hl hr hs
    obtain ⟨r, k1, k2⟩ := SuffixRows_l1_ok t hm out d (by omega) (by omega) hr hs (fun r => r.Pairwise (sLe t) ∧ r.Perm (out ++ uptoI (d + 1))) (by
      intro lo hlo hp
      obtain ⟨r, j1, j2, j3⟩ := ih (out.take lo ++ ((d : Int) :: out.drop lo)) (by omega) (by rw [List.length_append, List.length_cons, List.length_take, List.length_drop]; omega) (by
        intro x hx
        rcases List.mem_append.1 hx with hx | hx
        · exact hr x (List.mem_of_mem_take hx)
        · rcases List.mem_cons.1 hx with hx | hx
          · rw [hx]; omega
          · exact hr x (List.mem_of_mem_drop hx)) hp
      refine ⟨r, j1, j2, j3.trans ?_⟩
      have e1 : (out.take lo ++ ((d : Int) :: out.drop lo)).Perm ((d : Int) :: out) := by
        have := List.perm_middle (a := (d : Int)) (l₁ := out.take lo) (l₂ := out.drop lo)
        rwa [List.take_append_drop] at this
      refine (e1.append_right _).trans ?_
      rw [uptoI_succ, ← List.append_assoc, List.cons_append]
      exact (List.perm_append_singleton (d : Int) (out ++ uptoI d)).symm) out.length 0 out.length (by omega) (by omega) (by omega) (fun j hj h0 => by omega) (fun j hj h0 => by omega)
    refine ⟨r, ?_, k2⟩
    refine Ev.step (fun k => by rw [spec_SuffixRows.l0]) (ev_pos (by omega) ?_)
    rw [show ((d + 1 : Nat) : Int) - 1 = (d : Int) by omega]
    exact k1
theorem SuffixRows_ok' (t : List Int) (hm : t.length ≤ 300) : ∃ r, Ev (fun k => spec_SuffixRows.f k t) r ∧ r.Pairwise (sLe t) ∧ r.Perm (uptoI (t.length + 1)) := by
  obtain ⟨r, k1, k2⟩ := SuffixRows_l0_ok t hm (t.length + 1) [] (by omega) (by simp) (fun x hx => by simp at hx) List.Pairwise.nil
  refine ⟨r, ?_, k2.1, by simpa using k2.2⟩
  unfold spec_SuffixRows.f
  have h : spec_TextOk.f t = some (decide ((t.length : Int) ≤ 300)) := rfl
  refine ev_some h (ev_pos (decide_eq_true (by omega)) ?_)
  rw [show (t.length : Int) = ((t.length + 1 : Nat) : Int) - 1 by omega]
  exact k1
theorem SuffixRows_ok (t : List Int) (hm : t.length ≤ 300) : ∃ r, Ev (fun k => spec_SuffixRows.f k t) r ∧ (rowsIn t.length r ∧ r.length = t.length + 1) := by
  obtain ⟨r, k1, k2, k3⟩ := SuffixRows_ok' t hm
  refine ⟨r, k1, fun x hx => ?_, by rw [k3.length_eq, uptoI_length]⟩
  have := uptoI_mem (k3.mem_iff.1 hx)
  omega
/-- there is one such row -/
theorem rows_one {t r s : List Int} (h1 : r.Pairwise (sLe t)) (h2 : r.Perm (uptoI (t.length + 1))) (h3 : s.Pairwise (sLe t)) (h4 : s.Perm (uptoI (t.length + 1))) : r = s := by
  refine List.Perm.eq_of_pairwise (le := sLe t) (fun a b ha hb k1 k2 => ?_) h1 h3 (h2.trans h4.symm)
  have := uptoI_mem (h2.mem_iff.1 ha)
  have := uptoI_mem (h4.mem_iff.1 hb)
  exact sLe_anti (by omega) (by omega) k1 k2
def comL : List Int → List Int → Nat
  | a :: l, b :: m => if a = b then comL l m + 1 else 0
  | _, _ => 0
theorem comL_le : ∀ (l m : List Int), comL l m ≤ l.length
  | [], [] => by simp [comL]
  | [], _ :: _ => by simp [comL]
  | _ :: _, [] => by simp [comL]
  | a :: l, b :: m => by
    rw [comL]
    have := comL_le l m
    split
    · simp; omega
    · simp
theorem comL_nil_r (l : List Int) : comL l [] = 0 := by cases l <;> rfl
theorem comL_nil_l (l : List Int) : comL [] l = 0 := by cases l <;> rfl
theorem spec_l05Common_l0 (xs ys : List Int) (hm : xs.length ≤ 1048576) : ∀ (d n : Nat), n + d = xs.length → n ≤ ys.length → Ev (fun k => spec_l05Common.l0 k xs ys (n : Int)) ((n + comL (xs.drop n) (ys.drop n) : Nat) : Int) := by
  intro d
  induction d with
  | zero =>
    intro n hn hy
    rw [List.drop_eq_nil_of_le (show xs.length ≤ n by omega), comL_nil_l]
    refine Ev.step (fun k => by rw [spec_l05Common.l0]) ?_
    exact ev_neg (by omega) (ev_now _)
  | succ d ih =>
    intro n hn hy
    have hlt : n < xs.length := by omega
    refine Ev.step (fun k => by rw [spec_l05Common.l0]) (ev_pos (by omega) ?_)
    by_cases h : n < ys.length
    · rw [List.drop_eq_getElem_cons hlt, List.drop_eq_getElem_cons h, comL]
      refine ev_pos (by omega) (ev_pos (by omega) ?_)
      rw [rd_lt hlt, rd_lt h, w64 (by omega) (by omega)]
      refine ev_ite (fun c => ?_) (fun c => ?_)
      · rw [if_pos c]
        refine ev_eq (ih (n + 1) (by omega) (by omega)) (by omega)
      · rw [if_neg c]; exact ev_now _
    · rw [List.drop_eq_nil_of_le (show ys.length ≤ n by omega), comL_nil_r]
      exact ev_neg (by omega) (ev_now _)
theorem spec_l05Common_ev (xs ys : List Int) (hm : xs.length ≤ 1048576) : Ev (fun k => spec_l05Common.f k xs ys) ((comL xs ys : Nat) : Int) := by
  unfold spec_l05Common.f
  have := spec_l05Common_l0 xs ys hm xs.length 0 (by omega) (by omega)
  rw [List.drop_zero, List.drop_zero, Nat.zero_add] at this
  exact this
def srows (t : List Int) : List Int := (sufRows t).map fun x => (x.val : Int)
theorem sr_lt {a b : Int} (ha : 0 ≤ a ∧ a < 256) (hb : 0 ≤ b ∧ b < 256) : (UInt8.ofNat a.toNat < UInt8.ofNat b.toNat) ↔ a < b := by
  rw [UInt8.lt_iff_toNat_lt, UInt8.toNat_ofNat', UInt8.toNat_ofNat']
  omega
theorem sr_cmp : ∀ (xs ys : List Int), (∀ b ∈ xs, 0 ≤ b ∧ b < 256) → (∀ b ∈ ys, 0 ≤ b ∧ b < 256) → Go.Lib.compareBytes (strOfNums xs).data.toList (strOfNums ys).data.toList = cmpI xs ys := by
  intro xs ys
  rw [strOfNums_data, strOfNums_data]
  induction xs generalizing ys with
  | nil =>
    intro _ _
    cases ys with
    | nil => rfl
    | cons y ys => rfl
  | cons x xs ih =>
    intro hx hy
    cases ys with
    | nil => rfl
    | cons y ys =>
      rw [List.map_cons, List.map_cons, Go.Lib.compareBytes, cmpI]
      have h1 := sr_lt (hx x (by simp)) (hy y (by simp))
      have h2 := sr_lt (hy y (by simp)) (hx x (by simp))
      rw [ih ys (fun b hb => hx b (by simp [hb])) (fun b hb => hy b (by simp [hb]))]
      by_cases c1 : x < y
      · rw [if_pos c1, if_pos (h1.2 c1)]
      · rw [if_neg c1, if_neg (fun g => c1 (h1.1 g))]
        by_cases c2 : y < x
        · rw [if_pos c2, if_pos (h2.2 c2)]
        · rw [if_neg c2, if_neg (fun g => c2 (h2.1 g))]
theorem sufC_eq (t : List Int) (hb : ∀ b ∈ t, 0 ≤ b ∧ b < 256) (x y : Fin (t.length + 1)) : sufC t x y = cmpI (t.drop x.val) (t.drop y.val) := by
  unfold sufC sufB
  exact sr_cmp _ _ (fun b g => hb b (List.mem_of_mem_drop g)) (fun b g => hb b (List.mem_of_mem_drop g))
theorem srows_perm (t : List Int) : (srows t).Perm (uptoI (t.length + 1)) := by
  unfold srows sufRows
  refine ((List.mergeSort_perm _ _).map _).trans ?_
  have e : (sufD t).toList.map (fun x => (x.val : Int)) = uptoI (t.length + 1) := by
    apply List.ext_getElem
    · simp [sufD, uptoI]
    · intro i h1 h2
      rw [List.getElem_map]
      simp only [sufD, uptoI, Array.toList_ofFn, List.getElem_ofFn, List.getElem_map, List.getElem_range]
      rfl
  rw [e]
theorem srows_sorted (t : List Int) (hb : ∀ b ∈ t, 0 ≤ b ∧ b < 256) : (srows t).Pairwise (sLe t) := by
  unfold srows sufRows
  rw [List.pairwise_map]
  have hO := sufC_swo t
  have h := List.pairwise_mergeSort (le := fun x y => !(ltOf (sufC t)) y x) (fun a b c h1 h2 => by
    rw [Bool.not_eq_true'] at h1 h2 ⊢
    exact hO.ntrans c b a h2 h1) (fun a b => by
    cases e1 : ltOf (sufC t) b a with
    | false => rfl
    | true =>
      cases e2 : ltOf (sufC t) a b with
      | false => rfl
      | true =>
        have := hO.trans b a b e1 e2
        rw [hO.irrefl] at this
        cases this) (sufD t).toList
  refine h.imp ?_
  intro a b hab
  rw [Bool.not_eq_true'] at hab
  unfold ltOf at hab
  have h1 := of_decide_eq_false hab
  rw [sufC_eq t hb, cmpI_neg] at h1
  unfold sLe
  rw [Int.toNat_natCast, Int.toNat_natCast]
  omega
theorem srows_length (t : List Int) : (srows t).length = t.length + 1 := by rw [(srows_perm t).length_eq, uptoI_length]
theorem srows_in (t : List Int) : rowsIn t.length (srows t) := fun x hx => by
  have := uptoI_mem ((srows_perm t).mem_iff.1 hx)
  omega
theorem impl_suffixRows_f (t : List Int) (hm : t.length ≤ 300) : impl_suffixRows.f t = some (srows t) := by
  unfold impl_suffixRows.f
  rw [if_pos (by omega)]; rfl
theorem spec_SuffixRows_ev (t : List Int) (hm : t.length ≤ 300) (hb : ∀ b ∈ t, 0 ≤ b ∧ b < 256) : Ev (fun k => spec_SuffixRows.f k t) (srows t) := by
  obtain ⟨r, k1, k2, k3⟩ := SuffixRows_ok' t hm
  rw [rows_one k2 k3 (srows_sorted t hb) (srows_perm t)] at k1
  exact k1
theorem spec_SuffixRows_no (t : List Int) (hm : ¬ t.length ≤ 300) : Ev (fun k => spec_SuffixRows.f k t) [] := by
  unfold spec_SuffixRows.f
  have h : spec_TextOk.f t = some (decide ((t.length : Int) ≤ 300)) := rfl
  exact ev_some h (ev_neg (by rw [decide_eq_false (by omega)]; decide) (ev_now _))
theorem impl_TextOk_is (t : List Int) : impl_TextOk.f t = some (decide ((t.length : Int) ≤ 300)) := rfl
theorem mn_len (a b : Nat) : mn (a : Int) (b : Int) = ((min a b : Nat) : Int) := by unfold mn; omega
theorem impl_common_l0 (xs ys : List Int) (hm : xs.length ≤ 1048576) : ∀ (d n : Nat), n + d = min xs.length ys.length → Ev (fun k => impl_common.l0 k xs ys (n : Int)) ((n + comL (xs.drop n) (ys.drop n) : Nat) : Int) := by
  intro d
  induction d with
  | zero =>
    intro n hn
    have e : comL (xs.drop n) (ys.drop n) = 0 := by
      by_cases h : xs.length ≤ n
      · rw [List.drop_eq_nil_of_le h, comL_nil_l]
      · rw [List.drop_eq_nil_of_le (show ys.length ≤ n by omega), comL_nil_r]
    rw [e]
    refine Ev.step (fun k => by rw [impl_common.l0]) ?_
    rw [mn_len]
    exact ev_neg (by omega) (ev_now _)
  | succ d ih =>
    intro n hn
    have hlt : n < xs.length := by omega
    have h : n < ys.length := by omega
    refine Ev.step (fun k => by rw [impl_common.l0]) ?_
    rw [mn_len]
    refine ev_pos (by omega) ?_
    rw [List.drop_eq_getElem_cons hlt, List.drop_eq_getElem_cons h, comL]
    refine ev_pos (by omega) (ev_pos (by omega) (ev_pos (by omega) ?_))
    rw [rd_lt hlt, rd_lt h, w64 (by omega) (by omega)]
    refine ev_ite (fun c => ?_) (fun c => ?_)
    · rw [if_pos c]
      refine ev_eq (ih (n + 1) (by omega)) (by omega)
    · rw [if_neg c]; exact ev_now _
theorem impl_common_ev (xs ys : List Int) (hm : xs.length ≤ 1048576) : Ev (fun k => impl_common.f k xs ys) ((comL xs ys : Nat) : Int) := by
  unfold impl_common.f
  have := impl_common_l0 xs ys hm (min xs.length ys.length) 0 (by omega)
  rw [List.drop_zero, List.drop_zero, Nat.zero_add] at this
  exact this
def lcpAt (t rows : List Int) (i : Nat) : Int := if i = 0 then 0 else ((comL (t.drop (rows.getD (i - 1) 0).toNat) (t.drop (rows.getD i 0).toNat) : Nat) : Int)
theorem getD_lt {xs : List Int} {n : Nat} (h : n < xs.length) : xs.getD n 0 = xs[n] := by rw [List.getD_eq_getElem?_getD, List.getElem?_eq_getElem h, Option.getD_some]
theorem impl_lcpRows_l0 (t rows : List Int) (hm : t.length ≤ 300) (hl : rows.length ≤ 301) (hr : rowsIn t.length rows) : ∀ (d i : Nat), i + d = rows.length → 1 ≤ i → Ev (fun k => impl_lcpRows.l0 k t rows (tab rows.length fun j => if j < i then lcpAt t rows j else 0) (i : Int)) (tab rows.length (lcpAt t rows)) := by
  intro d
  induction d with
  | zero =>
    intro i hi h1
    refine Ev.step (fun k => by rw [impl_lcpRows.l0]) ?_
    refine ev_neg (by omega) (ev_now' (tab_congr fun j hj => ?_))
    rw [if_pos (by omega)]
  | succ d ih =>
    intro i hi h1
    have hlt : i < rows.length := by omega
    have hlp : i - 1 < rows.length := by omega
    have hx := hr _ (List.getElem_mem hlt)
    have hy := hr _ (List.getElem_mem hlp)
    refine Ev.step (fun k => by rw [impl_lcpRows.l0]) (ev_pos (by omega) ?_)
    have e1 : wrap64 ((i : Int) - 1) = ((i - 1 : Nat) : Int) := by rw [w64 (by omega) (by omega)]; omega
    rw [e1, rd_lt hlp, rd_lt hlt, w64 (n := (i : Int) + 1) (by omega) (by omega)]
    refine ev_pos (by omega) (ev_pos (by omega) (ev_pos (by omega) (ev_pos (by omega) (ev_pos (by omega) (ev_pos (by omega) (ev_pos (by omega) ?_))))))
    refine ev_bind (impl_common_ev _ _ (by rw [List.length_drop]; omega)) (ev_pos (by rw [tab_length]; omega) ?_)
    have h := ih (i + 1) (by omega) (by omega)
    rw [Int.toNat_natCast, tab_set]
    refine Ev.congr (fun k => ?_) h
    congr 1
    apply tab_congr
    intro j hj
    by_cases e : j = i
    · subst e
      rw [if_pos rfl, if_pos (by omega)]
      unfold lcpAt
      rw [if_neg (by omega), getD_lt hlt, getD_lt hlp]
    · rw [if_neg e]
      by_cases c : j < i
      · rw [if_pos c, if_pos (by omega)]
      · rw [if_neg c, if_neg (by omega)]
def lcpL (t : List Int) : List Int := tab (srows t).length (lcpAt t (srows t))
theorem lcpL_length (t : List Int) : (lcpL t).length = t.length + 1 := by rw [lcpL, tab_length, srows_length]
theorem impl_lcpRows_ev (t : List Int) (hm : t.length ≤ 300) : Ev (fun k => impl_lcpRows.f k t) (lcpL t) := by
  unfold impl_lcpRows.f
  refine ev_some (impl_suffixRows_f t hm) ?_
  have hl := srows_length t
  refine ev_pos (by omega) (ev_pos (by omega) ?_)
  have h := impl_lcpRows_l0 t (srows t) hm (by omega) (srows_in t) (t.length) 1 (by omega) (by omega)
  rw [Int.toNat_natCast, tab_zero _ (fun j => if j < 1 then lcpAt t (srows t) j else 0) (fun i hi => by
    by_cases c : i < 1
    · rw [if_pos c]; unfold lcpAt; rw [if_pos (by omega)]
    · rw [if_neg c])]
  exact h
theorem spec_LcpRows_l0 (t rows : List Int) (hm : t.length ≤ 300) (hl : rows.length ≤ 301) (hr : rowsIn t.length rows) : ∀ (d i : Nat), i + d = rows.length → Ev (fun k => spec_LcpRows.l0 k t rows (tab i (lcpAt t rows)) (i : Int)) (tab rows.length (lcpAt t rows)) := by
  intro d
  induction d with
  | zero =>
    intro i hi
    have e : i = rows.length := by omega
    subst e
    refine Ev.step (fun k => by rw [spec_LcpRows.l0]) ?_
    exact ev_neg (by omega) (ev_now _)
  | succ d ih =>
    intro i hi
    have hlt : i < rows.length := by omega
    have h := ih (i + 1) (by omega)
    rw [tab_succ] at h
    refine Ev.step (fun k => by rw [spec_LcpRows.l0]) (ev_pos (by omega) ?_)
    rw [w64 (n := (i : Int) + 1) (by omega) (by omega)]
    by_cases c : i = 0
    · subst c
      refine ev_pos rfl (ev_pos (by rw [tab_length]; omega) ?_)
      exact h
    · have hlp : i - 1 < rows.length := by omega
      have hx := hr _ (List.getElem_mem hlt)
      have hy := hr _ (List.getElem_mem hlp)
      have e1 : wrap64 ((i : Int) - 1) = ((i - 1 : Nat) : Int) := by rw [w64 (by omega) (by omega)]; omega
      rw [e1, rd_lt hlp, rd_lt hlt]
      refine ev_neg (by omega) (ev_pos (by omega) (ev_pos (by omega) (ev_pos (by omega) (ev_pos (by omega) (ev_pos (by omega) (ev_pos (by omega) (ev_pos (by omega) ?_)))))))
      refine ev_bind (spec_l05Common_ev _ _ (by rw [List.length_drop]; omega)) (ev_pos (by rw [tab_length]; omega) ?_)
      unfold lcpAt at h
      rw [if_neg c, getD_lt hlt, getD_lt hlp] at h
      exact h
theorem spec_LcpRows_ev (t : List Int) (hm : t.length ≤ 300) (hb : ∀ b ∈ t, 0 ≤ b ∧ b < 256) : Ev (fun k => spec_LcpRows.f k t) (lcpL t) := by
  unfold spec_LcpRows.f
  refine ev_bind (spec_SuffixRows_ev t hm hb) ?_
  have hl := srows_length t
  exact spec_LcpRows_l0 t (srows t) hm (by omega) (srows_in t) (srows t).length 0 (by omega)
theorem spec_LcpRows_no (t : List Int) (hm : ¬ t.length ≤ 300) : Ev (fun k => spec_LcpRows.f k t) [] := by
  unfold spec_LcpRows.f
  refine ev_bind (spec_SuffixRows_no t hm) ?_
  exact Ev.step (fun k => by rw [spec_LcpRows.l0]) (ev_neg (by simp) (ev_now _))

theorem FnExactLcpRows : laws_FnExactLcpRows.Pure := by
  intro l hl _ hw
  refine Ev.rounds ?_
  unfold laws_FnExactLcpRows.f
  refine ev_ite (fun _ => ev_now _) (fun h => ?_)
  have hm : l.length ≤ 140737488355328 := by omega
  have hb : ∀ b ∈ l, 0 ≤ b ∧ b < 256 := fun x hx => wf_u8 (hw x hx)
  obtain ⟨out, hs, hi, ho⟩ : ∃ out, Ev (fun k => spec_LcpRows.f k l) out ∧ Ev (fun k => impl_LcpRows.f k l) out ∧ out.length ≤ 1099511627775 := by
    by_cases h3 : l.length ≤ 300
    · refine ⟨lcpL l, spec_LcpRows_ev l h3 hb, ?_, by rw [lcpL_length]; omega⟩
      unfold impl_LcpRows.f
      exact ev_some (impl_TextOk_is l) (ev_pos (decide_eq_true (by omega)) (ev_bind (impl_lcpRows_ev l h3) (ev_now _)))
    · refine ⟨[], spec_LcpRows_no l h3, ?_, by simp⟩
      unfold impl_LcpRows.f
      exact ev_some (impl_TextOk_is l) (ev_neg (by rw [decide_eq_false (by omega)]; decide) (ev_now _))
  have hml : (1 : Nat) + l.length ≤ 1099511627776 := by omega
  have hmo : (1 : Nat) + out.length ≤ 1099511627776 := by omega
  have hj : Ev (fun k => laws_FnExactLcpRows.j0 k l out out false) true := by
    refine Ev.step (fun k => by rw [laws_FnExactLcpRows.j0]) (ev_neg (by decide) ?_)
    refine ev_bind (laws_markIntS_ev out 1 hmo) (ev_bind (laws_heldIntS_ev out.length 1 hmo) (ev_neg (by omega) (ev_pos rfl ?_)))
    refine ev_bind (laws_toByteS_ev l hm) (ev_bind hi (ev_bind (laws_eqIntS_ev out out (by omega)) (ev_pos (by simp) ?_)))
    exact ev_bind (laws_heldIntS_ev out.length 1 hmo) (ev_neg (by omega) (ev_pos rfl (ev_now _)))
  refine ev_bind (laws_toByteS_ev l hm) (ev_bind hs (ev_bind (laws_toByteS_ev l hm) (ev_bind hi (ev_bind (laws_eqIntS_ev out out (by omega)) (ev_pos (by simp) ?_)))))
  refine ev_bind (laws_toByteS_ev l hm) (ev_bind (laws_eqByteS_ev l l (by omega)) (ev_pos (by simp) ?_))
  refine ev_bind (laws_markByteS_ev l 1 hml) (ev_neg (by omega) (ev_bind (laws_eqIntS_ev out out (by omega)) ?_))
  rw [show (!decide (out = out)) = false by simp]
  exact hj

end Go.Proofs.Ytekcmfmcdedamaa.Pure
