/- The pure statement of the law FnExactBwtText: the program's answers equal the reference's, for all arguments within the row's bounds. -/
import Derived.Test.YtekcmfmcdedamaaQFnExactBwtTextx7
import Derived.Test.YtekcmfmcdedamaaLib
namespace Go.Proofs.Ytekcmfmcdedamaa.Pure
open Go.RowKit Go.Proofs.Ytekcmfmcdedamaa.QFnExactBwtText Go.Proofs.Ytekcmfmcdedamaa.Lib Go.Proofs.YtekcmfmcdedamaaW.PrintWords Go.Proofs.YtekcmfmcdedamaaW.PrintLast Go.Proofs.YtekcmfmcdedamaaW.PrintMore
set_option linter.unusedVariables false
set_option linter.unusedSimpArgs false

theorem laws_eqByteS_l0 (xs ys : List Int) (hl : xs.length = ys.length) (hm : xs.length ≤ 140737488355328) : ∀ (d n : Nat), n + d = xs.length → Ev (fun k => laws_eqByteS.l0 k xs ys (n : Int)) (decide (xs.drop n = ys.drop n)) := by
  intro d
  induction d with
  | zero =>
    intro n hn
    refine Ev.step (fun k => by rw [laws_eqByteS.l0]) ?_
    refine ev_neg (by omega) (ev_now' ?_)
    rw [List.drop_eq_nil_of_le (by omega), List.drop_eq_nil_of_le (by omega)]; rfl
  | succ d ih =>
    intro n hn
    refine Ev.step (fun k => by rw [laws_eqByteS.l0]) ?_
    refine ev_pos (by omega) (ev_pos (by omega) (ev_pos (by omega) ?_))
    rw [rd_lt (by omega), rd_lt (by omega), w64 (by omega) (by omega)]
    rw [List.drop_eq_getElem_cons (show n < xs.length by omega), List.drop_eq_getElem_cons (show n < ys.length by omega)]
    refine ev_ite (fun h => ev_eq (ih (n + 1) (by omega)) ?_) (fun h => ev_now' ?_)
    · simp only [List.cons.injEq, h, true_and]
    · exact (decide_eq_false (fun e => h (List.cons.inj e).1)).symm
theorem laws_eqByteS_ev (xs ys : List Int) (hm : xs.length ≤ 140737488355328) : Ev (fun k => laws_eqByteS.f k xs ys) (decide (xs = ys)) := by
  unfold laws_eqByteS.f
  refine ev_ite (fun h => ?_) (fun h => ev_now' ?_)
  · exact laws_eqByteS_l0 xs ys (by omega) hm xs.length 0 (by omega)
  · exact (decide_eq_false (fun e => h (by rw [e]))).symm
theorem laws_eqIntS_l0 (xs ys : List Int) (hl : xs.length = ys.length) (hm : xs.length ≤ 140737488355328) : ∀ (d n : Nat), n + d = xs.length → Ev (fun k => laws_eqIntS.l0 k xs ys (n : Int)) (decide (xs.drop n = ys.drop n)) := by
  intro d
  induction d with
  | zero =>
    intro n hn
    refine Ev.step (fun k => by rw [laws_eqIntS.l0]) ?_
    refine ev_neg (by omega) (ev_now' ?_)
    rw [List.drop_eq_nil_of_le (by omega), List.drop_eq_nil_of_le (by omega)]; rfl
  | succ d ih =>
    intro n hn
    refine Ev.step (fun k => by rw [laws_eqIntS.l0]) ?_
    refine ev_pos (by omega) (ev_pos (by omega) (ev_pos (by omega) ?_))
    rw [rd_lt (by omega), rd_lt (by omega), w64 (by omega) (by omega)]
    rw [List.drop_eq_getElem_cons (show n < xs.length by omega), List.drop_eq_getElem_cons (show n < ys.length by omega)]
    refine ev_ite (fun h => ev_eq (ih (n + 1) (by omega)) ?_) (fun h => ev_now' ?_)
    · simp only [List.cons.injEq, h, true_and]
    · exact (decide_eq_false (fun e => h (List.cons.inj e).1)).symm
theorem laws_eqIntS_ev (xs ys : List Int) (hm : xs.length ≤ 140737488355328) : Ev (fun k => laws_eqIntS.f k xs ys) (decide (xs = ys)) := by
  unfold laws_eqIntS.f
  refine ev_ite (fun h => ?_) (fun h => ev_now' ?_)
  · exact laws_eqIntS_l0 xs ys (by omega) hm xs.length 0 (by omega)
  · exact (decide_eq_false (fun e => h (by rw [e]))).symm
theorem laws_markByteS_l0 (xs : List Int) (a : Nat) (hm : a + xs.length ≤ 1099511627776) : ∀ (d n : Nat), n + d = xs.length → Ev (fun k => laws_markByteS.l0 k (marked (fun x => x % 256) n a ++ xs.drop n) ((a + n : Nat) : Int) (n : Int)) (((a + xs.length : Nat) : Int), marked (fun x => x % 256) xs.length a) := by
  intro d
  induction d with
  | zero =>
    intro n hn
    have e : n = xs.length := by omega
    subst e
    refine Ev.step (fun k => by rw [laws_markByteS.l0]) ?_
    refine ev_neg (by simp [marked_length]) (ev_now' ?_)
    rw [List.drop_length, List.append_nil]
  | succ d ih =>
    intro n hn
    refine Ev.step (fun k => by rw [laws_markByteS.l0]) ?_
    refine ev_pos (by simp [marked_length]; omega) (ev_pos (by omega) ?_)
    rw [w64 (by omega) (by omega), w64 (by omega) (by omega), Int.toNat_natCast]
    have e := set_mark (c := (fun x => x % 256)) (a := a) (show n < xs.length by omega)
    rw [show (((a + n : Nat) : Int) % 256) = (fun x => x % 256) ((a + n : Nat) : Int) from rfl, e]
    exact ih (n + 1) (by omega)
theorem laws_markByteS_ev (xs : List Int) (a : Nat) (hm : a + xs.length ≤ 1099511627776) : Ev (fun k => laws_markByteS.f k xs (a : Int)) (((a + xs.length : Nat) : Int), marked (fun x => x % 256) xs.length a) := by
  unfold laws_markByteS.f
  have h := laws_markByteS_l0 xs a hm xs.length 0 (by omega)
  simpa [marked] using h
theorem laws_markIntS_l0 (xs : List Int) (a : Nat) (hm : a + xs.length ≤ 1099511627776) : ∀ (d n : Nat), n + d = xs.length → Ev (fun k => laws_markIntS.l0 k (marked (fun x => x) n a ++ xs.drop n) ((a + n : Nat) : Int) (n : Int)) (((a + xs.length : Nat) : Int), marked (fun x => x) xs.length a) := by
  intro d
  induction d with
  | zero =>
    intro n hn
    have e : n = xs.length := by omega
    subst e
    refine Ev.step (fun k => by rw [laws_markIntS.l0]) ?_
    refine ev_neg (by simp [marked_length]) (ev_now' ?_)
    rw [List.drop_length, List.append_nil]
  | succ d ih =>
    intro n hn
    refine Ev.step (fun k => by rw [laws_markIntS.l0]) ?_
    refine ev_pos (by simp [marked_length]; omega) (ev_pos (by omega) ?_)
    rw [w64 (by omega) (by omega), w64 (by omega) (by omega), Int.toNat_natCast]
    have e := set_mark (c := (fun x => x)) (a := a) (show n < xs.length by omega)
    rw [show (((a + n : Nat) : Int)) = (fun x => x) ((a + n : Nat) : Int) from rfl, e]
    exact ih (n + 1) (by omega)
theorem laws_markIntS_ev (xs : List Int) (a : Nat) (hm : a + xs.length ≤ 1099511627776) : Ev (fun k => laws_markIntS.f k xs (a : Int)) (((a + xs.length : Nat) : Int), marked (fun x => x) xs.length a) := by
  unfold laws_markIntS.f
  have h := laws_markIntS_l0 xs a hm xs.length 0 (by omega)
  simpa [marked] using h
def cmpI : List Int → List Int → Int
  | [], [] => 0
  | [], _ :: _ => -1
  | _ :: _, [] => 1
  | a :: l, b :: m => if a < b then -1 else if b < a then 1 else cmpI l m
theorem spec_l05Cmp_l0 (xs ys : List Int) (hm : xs.length ≤ 1048576) : ∀ (d n : Nat), n + d = xs.length → n ≤ ys.length → Ev (fun k => spec_l05Cmp.l0 k xs ys (n : Int)) (cmpI (xs.drop n) (ys.drop n)) := by
  have stop : ∀ n : Nat, n ≤ xs.length → n ≤ ys.length → (n = xs.length ∨ n = ys.length) → Ev (fun k => spec_l05Cmp.j1 k xs ys (n : Int) false) (cmpI (xs.drop n) (ys.drop n)) := by
    intro n h1 h2 h
    refine Ev.step (fun k => by rw [spec_l05Cmp.j1]) (ev_neg (by decide) ?_)
    by_cases a : n < xs.length
    · have b : n = ys.length := by omega
      rw [List.drop_eq_getElem_cons a, show ys.drop n = [] from List.drop_eq_nil_of_le (by omega), cmpI]
      exact ev_neg (by omega) (ev_pos (by omega) (ev_now _))
    · rw [show xs.drop n = [] from List.drop_eq_nil_of_le (by omega)]
      by_cases b : n < ys.length
      · rw [List.drop_eq_getElem_cons b, cmpI]
        exact ev_pos (by omega) (ev_now _)
      · rw [show ys.drop n = [] from List.drop_eq_nil_of_le (by omega), cmpI]
        exact ev_neg (by omega) (ev_neg (by omega) (ev_now _))
  intro d
  induction d with
  | zero =>
    intro n hn hy
    refine Ev.step (fun k => by rw [spec_l05Cmp.l0]) ?_
    exact ev_neg (by omega) (stop n (by omega) hy (Or.inl (by omega)))
  | succ d ih =>
    intro n hn hy
    have hlt : n < xs.length := by omega
    refine Ev.step (fun k => by rw [spec_l05Cmp.l0]) (ev_pos (by omega) ?_)
    by_cases h : n < ys.length
    · rw [decide_eq_true (by omega), List.drop_eq_getElem_cons hlt, List.drop_eq_getElem_cons h, cmpI]
      refine Ev.step (fun k => by rw [spec_l05Cmp.j1]) (ev_pos rfl (ev_pos (by omega) (ev_pos (by omega) (ev_pos (by omega) ?_))))
      rw [rd_lt hlt, rd_lt h, w64 (by omega) (by omega)]
      refine ev_ite (fun c => ?_) (fun c => ev_ite (fun c2 => ?_) (fun c2 => ?_))
      · rw [if_pos c]; exact ev_now _
      · rw [if_neg c, if_pos c2]; exact ev_now _
      · rw [if_neg c, if_neg c2]; exact ih (n + 1) (by omega) (by omega)
    · rw [decide_eq_false (by omega)]
      exact stop n (by omega) hy (Or.inr (by omega))
theorem spec_l05Cmp_ev (xs ys : List Int) (hm : xs.length ≤ 1048576) : Ev (fun k => spec_l05Cmp.f k xs ys) (cmpI xs ys) := by
  unfold spec_l05Cmp.f
  have := spec_l05Cmp_l0 xs ys hm xs.length 0 (by omega) (by omega)
  rw [List.drop_zero, List.drop_zero] at this
  exact this
theorem cmpI_neg : ∀ (a b : List Int), cmpI b a = - cmpI a b
  | [], [] => rfl
  | [], _ :: _ => rfl
  | _ :: _, [] => rfl
  | x :: a, y :: b => by
    rw [cmpI, cmpI, cmpI_neg a b]
    by_cases h1 : x < y
    · rw [if_pos h1, if_neg (by omega), if_pos h1]; decide
    · by_cases h2 : y < x
      · rw [if_pos h2, if_neg h1, if_pos h2]
      · rw [if_neg h2, if_neg h1, if_neg h1, if_neg h2]
theorem cmpI_zero : ∀ (a b : List Int), cmpI a b = 0 → a = b
  | [], [] => fun _ => rfl
  | [], _ :: _ => fun h => by simp [cmpI] at h
  | _ :: _, [] => fun h => by simp [cmpI] at h
  | x :: a, y :: b => fun h => by
    rw [cmpI] at h
    by_cases h1 : x < y
    · rw [if_pos h1] at h; exact absurd h (by decide)
    · rw [if_neg h1] at h
      by_cases h2 : y < x
      · rw [if_pos h2] at h; exact absurd h (by decide)
      · rw [if_neg h2] at h
        have e : x = y := by omega
        rw [e, cmpI_zero a b h]
theorem cmpI_trans : ∀ (a b c : List Int), cmpI a b ≤ 0 → cmpI b c ≤ 0 → cmpI a c ≤ 0
  | [], _, [] => fun _ _ => by decide
  | [], _, _ :: _ => fun _ _ => by simp [cmpI]
  | _ :: _, [], _ => fun h _ => by simp [cmpI] at h
  | _ :: _, _ :: _, [] => fun _ h => by simp [cmpI] at h
  | x :: a, y :: b, z :: c => fun h k => by
    rw [cmpI] at h k ⊢
    have ih := cmpI_trans a b c
    split at h
    · split at k
      · rw [if_pos (by omega)]; decide
      · split at k
        · omega
        · rw [if_pos (by omega)]; decide
    · split at h
      · omega
      · split at k
        · rw [if_pos (by omega)]; decide
        · split at k
          · omega
          · rw [if_neg (by omega), if_neg (by omega)]; exact ih h k
/-- row a stands ahead of row b, or is it -/
def sLe (t : List Int) (a b : Int) : Prop := cmpI (t.drop a.toNat) (t.drop b.toNat) ≤ 0
theorem sLe_trans {t : List Int} {a b c : Int} (h : sLe t a b) (k : sLe t b c) : sLe t a c := cmpI_trans _ _ _ h k
theorem sLe_anti {t : List Int} {a b : Int} (ha : 0 ≤ a ∧ a ≤ (t.length : Int)) (hb : 0 ≤ b ∧ b ≤ (t.length : Int)) (h : sLe t a b) (k : sLe t b a) : a = b := by
  unfold sLe at h k
  rw [cmpI_neg] at k
  have e := congrArg List.length (cmpI_zero _ _ (show cmpI (t.drop a.toNat) (t.drop b.toNat) = 0 by omega))
  rw [List.length_drop, List.length_drop] at e
  omega
def uptoI (k : Nat) : List Int := (List.range k).map fun (i : Nat) => (i : Int)
theorem uptoI_succ (k : Nat) : uptoI (k + 1) = uptoI k ++ [(k : Int)] := by simp [uptoI, List.range_succ]
theorem uptoI_length (k : Nat) : (uptoI k).length = k := by simp [uptoI]
theorem uptoI_mem {k : Nat} {x : Int} (h : x ∈ uptoI k) : 0 ≤ x ∧ x < (k : Int) := by
  simp only [uptoI, List.mem_map, List.mem_range] at h
  obtain ⟨a, h1, h2⟩ := h
  omega
/-- rows that a text of n bytes may have -/
def rowsIn (n : Nat) (l : List Int) : Prop := ∀ x ∈ l, 0 ≤ x ∧ x ≤ (n : Int)
theorem SuffixRows_l1_ok (t : List Int) (hm : t.length ≤ 300) (out : List Int) (i : Nat) (hi : i ≤ t.length) (ho : out.length ≤ 301) (hr : rowsIn t.length out) (hs : out.Pairwise (sLe t)) (P : List Int → Prop)
    (h : ∀ lo : Nat, lo ≤ out.length → (out.take lo ++ ((i : Int) :: out.drop lo)).Pairwise (sLe t) → ∃ r, Ev (fun k => spec_SuffixRows.l0 k t (out.take lo ++ ((i : Int) :: out.drop lo)) ((i : Int) - 1)) r ∧ P r) :
    ∀ (d lo hi : Nat), hi ≤ lo + d → lo ≤ hi → hi ≤ out.length → (∀ j (hj : j < out.length), j < lo → sLe t out[j] (i : Int)) → (∀ j (hj : j < out.length), hi ≤ j → sLe t (i : Int) out[j]) → ∃ r, Ev (fun k => spec_SuffixRows.l1 k t out (i : Int) (lo : Int) (hi : Int)) r ∧ P r := by
  intro d
  induction d with
  | zero =>
    intro lo hi' h1 h2 h3 hlo hhi
    have hp : (out.take lo ++ ((i : Int) :: out.drop lo)).Pairwise (sLe t) := by
      have hsp := hs
      rw [← List.take_append_drop lo out, List.pairwise_append] at hsp
      obtain ⟨p1, p2, p3⟩ := hsp
      have q1 : ∀ a ∈ out.take lo, sLe t a (i : Int) := by
        intro a ha
        obtain ⟨j, hj, e⟩ := List.mem_iff_getElem.1 ha
        rw [List.length_take] at hj
        rw [List.getElem_take] at e
        subst e
        exact hlo j (by omega) (by omega)
      have q2 : ∀ b ∈ out.drop lo, sLe t (i : Int) b := by
        intro b hb
        obtain ⟨j, hj, e⟩ := List.mem_iff_getElem.1 hb
        rw [List.length_drop] at hj
        rw [List.getElem_drop] at e
        subst e
        exact hhi (lo + j) (by omega) (by omega)
      rw [List.pairwise_append]
      refine ⟨p1, List.pairwise_cons.2 ⟨q2, p2⟩, fun a ha b hb => ?_⟩
      rcases List.mem_cons.1 hb with hb | hb
      · rw [hb]; exact q1 a ha
      · exact p3 a ha b hb
    obtain ⟨r, hr1, hr2⟩ := h lo (by omega) hp
    refine ⟨r, ?_, hr2⟩
    refine Ev.step (fun k => by rw [spec_SuffixRows.l1]) ?_
    have hd : (out.drop lo).length ≤ 301 := by rw [List.length_drop]; omega
    have ht : (out.take lo).length ≤ 301 := by rw [List.length_take]; omega
    refine ev_neg (by omega) ?_
    refine ev_some rfl (ev_pos (by omega) (ev_pos (by omega) (ev_some rfl ?_)))
    rw [Int.toNat_natCast, w64 (n := (i : Int) - 1) (by omega) (by omega)]
    refine ev_pos (by rw [List.length_singleton]; omega) (ev_some rfl (ev_some rfl (ev_some rfl ?_)))
    refine ev_pos (by rw [List.length_nil]; omega) (ev_some rfl (ev_pos (by rw [List.nil_append, List.length_append, List.length_singleton]; omega) ?_))
    exact hr1
  | succ d ih =>
    intro lo hi' h1 h2 h3 hlo hhi
    by_cases e : lo < hi'
    · have m1 : wrap64 (Int.tdiv (wrap64 ((lo : Int) + (hi' : Int))) 2) = (((lo + hi') / 2 : Nat) : Int) := by
        rw [w64 (n := (lo : Int) + (hi' : Int)) (by omega) (by omega), ← Int.natCast_add, show Int.tdiv ((lo + hi' : Nat) : Int) 2 = (((lo + hi') / 2 : Nat) : Int) from tdiv_nat (lo + hi') 2, w64 (by omega) (by omega)]
      have hlt : (lo + hi') / 2 < out.length := by omega
      have hx := hr _ (List.getElem_mem hlt)
      have hord : ∀ a b (ha : a < out.length) (hb : b < out.length), a < b → sLe t out[a] out[b] := fun a b ha hb hab => List.pairwise_iff_getElem.1 hs a b ha hb hab
      have step : ∀ c : Int, c = cmpI (t.drop (out[(lo + hi') / 2]).toNat) (t.drop i) → ∃ r, Ev (fun k => if c < 0 then spec_SuffixRows.l1 k t out (i : Int) (wrap64 ((((lo + hi') / 2 : Nat) : Int) + 1)) (hi' : Int) else spec_SuffixRows.l1 k t out (i : Int) (lo : Int) (((lo + hi') / 2 : Nat) : Int)) r ∧ P r := by
        intro c hcc
        by_cases hc : c < 0
        · have hmid : sLe t out[(lo + hi') / 2] (i : Int) := by unfold sLe; rw [Int.toNat_natCast]; omega
          obtain ⟨r, k1, k2⟩ := ih ((lo + hi') / 2 + 1) hi' (by omega) (by omega) h3 (fun j hj hj2 => by
            by_cases ej : j = (lo + hi') / 2
            · subst ej; exact hmid
            · exact sLe_trans (hord j _ hj hlt (by omega)) hmid) hhi
          refine ⟨r, ev_pos hc ?_, k2⟩
          rw [w64 (by omega) (by omega)]
          exact k1
        · have hmid : sLe t (i : Int) out[(lo + hi') / 2] := by unfold sLe; rw [Int.toNat_natCast, cmpI_neg]; omega
          obtain ⟨r, k1, k2⟩ := ih lo ((lo + hi') / 2) (by omega) (by omega) (by omega) hlo (fun j hj hj2 => by
            by_cases ej : j = (lo + hi') / 2
            · subst ej; exact hmid
            · exact sLe_trans hmid (hord _ j hlt hj (by omega)))
          exact ⟨r, ev_neg hc k1, k2⟩
      obtain ⟨r, k1, k2⟩ := step _ rfl
      refine ⟨r, ?_, k2⟩
      refine Ev.step (fun k => by rw [spec_SuffixRows.l1]) (ev_pos (by omega) ?_)
      rw [m1, rd_lt hlt]
      refine ev_pos (by omega) (ev_pos (by omega) (ev_pos (by omega) (ev_pos (by omega) (ev_pos (by omega) (ev_pos (by omega) ?_)))))
      rw [Int.toNat_natCast]
      exact ev_bind (spec_l05Cmp_ev _ _ (by rw [List.length_drop]; omega)) k1
    · exact ih lo hi' (by omega) h2 h3 hlo hhi
theorem SuffixRows_l0_ok (t : List Int) (hm : t.length ≤ 300) : ∀ (d : Nat) (out : List Int), d ≤ t.length + 1 → out.length + d = t.length + 1 → rowsIn t.length out → out.Pairwise (sLe t) → ∃ r, Ev (fun k => spec_SuffixRows.l0 k t out ((d : Int) - 1)) r ∧ (r.Pairwise (sLe t) ∧ r.Perm (out ++ uptoI d)) := by
  intro d
  induction d with
  | zero =>
    intro out hd hl hr hs
    refine ⟨out, ?_, hs, by simp [uptoI]⟩
    refine Ev.step (fun k => by rw [spec_SuffixRows.l0]) ?_
    exact ev_neg (by omega) (ev_now _)
  | succ d ih =>
    intro out hd hl hr hs
    obtain ⟨r, k1, k2⟩ := SuffixRows_l1_ok t hm out d (by omega) (by omega) hr hs (fun r => r.Pairwise (sLe t) ∧ r.Perm (out ++ uptoI (d + 1))) (by
      intro lo hlo hp
      obtain ⟨r, j1, j2, j3⟩ := ih (out.take lo ++ ((d : Int) :: out.drop lo)) (by omega) (by rw [List.length_append, List.length_cons, List.length_take, List.length_drop]; omega) (by
        intro x hx
        rcases List.mem_append.1 hx with hx | hx
        · exact hr x (List.mem_of_mem_take hx)
        · rcases List.mem_cons.1 hx with hx | hx
          · rw [hx]; omega
          · exact hr x (List.mem_of_mem_drop hx)) hp
      refine ⟨r, j1, j2, j3.trans ?_⟩
      have e1 : (out.take lo ++ ((d : Int) :: out.drop lo)).Perm ((d : Int) :: out) := by
        have := List.perm_middle (a := (d : Int)) (l₁ := out.take lo) (l₂ := out.drop lo)
        rwa [List.take_append_drop] at this
      refine (e1.append_right _).trans ?_
      rw [uptoI_succ, ← List.append_assoc, List.cons_append]
      exact (List.perm_append_singleton (d : Int) (out ++ uptoI d)).symm) out.length 0 out.length (by omega) (by omega) (by omega) (fun j hj h0 => by omega) (fun j hj h0 => by omega)
    refine ⟨r, ?_, k2⟩
    refine Ev.step (fun k => by rw [spec_SuffixRows.l0]) (ev_pos (by omega) ?_)
    rw [show ((d + 1 : Nat) : Int) - 1 = (d : Int) by omega]
    exact k1
theorem SuffixRows_ok' (t : List Int) (hm : t.length ≤ 300) : ∃ r, Ev (fun k => spec_SuffixRows.f k t) r ∧ r.Pairwise (sLe t) ∧ r.Perm (uptoI (t.length + 1)) := by
  obtain ⟨r, k1, k2⟩ := SuffixRows_l0_ok t hm (t.length + 1) [] (by omega) (by simp) (fun x hx => by simp at hx) List.Pairwise.nil
  refine ⟨r, ?_, k2.1, by simpa using k2.2⟩
  unfold spec_SuffixRows.f
  have h : spec_TextOk.f t = some (decide ((t.length : Int) ≤ 300)) := rfl
  refine ev_some h (ev_pos (decide_eq_true (by omega)) ?_)
  rw [show (t.length : Int) = ((t.length + 1 : Nat) : Int) - 1 by omega]
  exact k1
theorem SuffixRows_ok (t : List Int) (hm : t.length ≤ 300) : ∃ r, Ev (fun k => spec_SuffixRows.f k t) r ∧ (rowsIn t.length r ∧ r.length = t.length + 1) := by
  obtain ⟨r, k1, k2, k3⟩ := SuffixRows_ok' t hm
  refine ⟨r, k1, fun x hx => ?_, by rw [k3.length_eq, uptoI_length]⟩
  have := uptoI_mem (k3.mem_iff.1 hx)
  omega
/-- there is one such row -/
theorem rows_one {t r s : List Int} (h1 : r.Pairwise (sLe t)) (h2 : r.Perm (uptoI (t.length + 1))) (h3 : s.Pairwise (sLe t)) (h4 : s.Perm (uptoI (t.length + 1))) : r = s := by
  refine List.Perm.eq_of_pairwise (le := sLe t) (fun a b ha hb k1 k2 => ?_) h1 h3 (h2.trans h4.symm)
  have := uptoI_mem (h2.mem_iff.1 ha)
  have := uptoI_mem (h4.mem_iff.1 hb)
  exact sLe_anti (by omega) (by omega) k1 k2
theorem BwtOf_l0_ok (t rows : List Int) (hm : t.length ≤ 300) (hl : rows.length ≤ 301) (hr : rowsIn t.length rows) : ∀ (d i : Nat) (acc : List Int), i + d = rows.length → acc.length = i → ∃ r, Ev (fun k => spec_BwtOf.l0 k t rows acc (i : Int)) r ∧ r.length = rows.length := by
  intro d
  induction d with
  | zero =>
    intro i acc hi ha
    refine ⟨acc, ?_, by omega⟩
    refine Ev.step (fun k => by rw [spec_BwtOf.l0]) ?_
    exact ev_neg (by omega) (ev_now _)
  | succ d ih =>
    intro i acc hi ha
    have hlt : i < rows.length := by omega
    have hx := hr _ (List.getElem_mem hlt)
    by_cases e : rows[i] = 0
    · obtain ⟨r, k1, k2⟩ := ih (i + 1) (acc ++ [0]) (by omega) (by simp [ha])
      refine ⟨r, ?_, k2⟩
      refine Ev.step (fun k => by rw [spec_BwtOf.l0]) (ev_pos (by omega) (ev_pos (by omega) ?_))
      rw [rd_lt hlt, w64 (n := (i : Int) + 1) (by omega) (by omega)]
      exact ev_pos e (ev_pos (by omega) k1)
    · obtain ⟨r, k1, k2⟩ := ih (i + 1) (acc ++ [wrap64 (wrap64 (rd t (wrap64 (rows[i] - 1))) + 1)]) (by omega) (by simp [ha])
      refine ⟨r, ?_, k2⟩
      refine Ev.step (fun k => by rw [spec_BwtOf.l0]) (ev_pos (by omega) (ev_pos (by omega) ?_))
      rw [rd_lt hlt, w64 (n := (i : Int) + 1) (by omega) (by omega)]
      have hw : wrap64 (rows[i] - 1) = rows[i] - 1 := w64 (by omega) (by omega)
      refine ev_neg e (ev_pos (by omega) (ev_pos (by omega) (ev_pos (by omega) ?_)))
      exact k1
theorem BwtOf_ok (t : List Int) (hm : t.length ≤ 300) : ∃ r, Ev (fun k => spec_BwtOf.f k t) r ∧ r.length = t.length + 1 := by
  obtain ⟨rows, k1, k2, k3⟩ := SuffixRows_ok t hm
  obtain ⟨r, q1, q2⟩ := BwtOf_l0_ok t rows hm (by omega) k2 rows.length 0 [] (by omega) rfl
  unfold spec_BwtOf.f
  exact ⟨r, ev_bind k1 q1, by omega⟩
theorem spec_SymsOk_l0 (xs : List Int) (hm : xs.length ≤ 301) : ∀ (d n : Nat), n + d = xs.length → Ev (fun k => spec_SymsOk.l0 k xs (n : Int)) ((xs.drop n).all fun a => decide (0 ≤ a ∧ a ≤ 256)) := by
  intro d
  induction d with
  | zero =>
    intro n hn
    refine Ev.step (fun k => by rw [spec_SymsOk.l0]) ?_
    refine ev_neg (by omega) (ev_now' ?_)
    rw [List.drop_eq_nil_of_le (by omega)]; rfl
  | succ d ih =>
    intro n hn
    refine Ev.step (fun k => by rw [spec_SymsOk.l0]) ?_
    refine ev_pos (by omega) (ev_pos (by omega) ?_)
    rw [rd_lt (show n < xs.length by omega), w64 (by omega) (by omega), List.drop_eq_getElem_cons (show n < xs.length by omega), List.all_cons]
    refine ev_ite (fun h => ev_now' ?_) (fun h => ev_ite (fun h' => ev_now' ?_) (fun h' => ev_eq (ih (n + 1) (by omega)) ?_))
    · rw [decide_eq_false (by omega)]; rfl
    · rw [decide_eq_false (by omega)]; rfl
    · rw [decide_eq_true (by omega)]; rfl
theorem spec_SymsOk_ev (xs : List Int) : Ev (fun k => spec_SymsOk.f k xs) (symsOk xs) := by
  unfold spec_SymsOk.f symsOk
  refine ev_ite (fun h => ev_now' ?_) (fun h => ev_eq (spec_SymsOk_l0 xs (by omega) xs.length 0 (by omega)) ?_)
  · rw [decide_eq_false (by omega)]; rfl
  · rw [decide_eq_true (by omega)]; rfl
def lfL (l : List Int) : List Int := tab l.length fun k => ((cLt l (l.getD k 0) + cEq (l.take k) (l.getD k 0) : Nat) : Int)
theorem lfL_length (l : List Int) : (lfL l).length = l.length := tab_length _ _
theorem lfL_get (l : List Int) (k : Nat) (h : k < l.length) : rd (lfL l) (k : Int) = ((cLt l l[k] + cEq (l.take k) l[k] : Nat) : Int) := by
  unfold lfL
  rw [rd_tab h, List.getD_eq_getElem?_getD, List.getElem?_eq_getElem h, Option.getD_some]
theorem spec_LfOf_l1 (xs acc : List Int) (q : Nat) (hq : q < xs.length) (r : List Int) (hm : xs.length ≤ 1000) (ha : acc.length ≤ 1000) : ∀ (d n m : Nat), n + d = xs.length → m ≤ n → Ev (fun k => spec_LfOf.l0 k xs (acc ++ [((m + cLt (xs.drop n) xs[q] + cEq ((xs.take q).drop n) xs[q] : Nat) : Int)]) (wrap64 ((q : Int) + 1))) r → Ev (fun k => spec_LfOf.l1 k xs acc (q : Int) (m : Int) (n : Int)) r := by
  intro d
  induction d with
  | zero =>
    intro n m hn hmn h
    rw [List.drop_eq_nil_of_le (by omega), List.drop_eq_nil_of_le (by rw [List.length_take]; omega)] at h
    refine Ev.step (fun k => by rw [spec_LfOf.l1]) ?_
    exact ev_neg (by omega) (ev_pos (by omega) h)
  | succ d ih =>
    intro n m hn hmn h
    have hlt : n < xs.length := by omega
    rw [List.drop_eq_getElem_cons hlt, cLt_cons] at h
    refine Ev.step (fun k => by rw [spec_LfOf.l1]) ?_
    refine ev_pos (by omega) (ev_pos (by omega) (ev_pos (by omega) (ev_pos (by omega) ?_)))
    rw [rd_lt hlt, rd_lt hq, w64 (n := (n : Int) + 1) (by omega) (by omega), w64 (n := (m : Int) + 1) (by omega) (by omega)]
    by_cases hnq : n < q
    · have hl2 : n < (xs.take q).length := by rw [List.length_take]; omega
      rw [List.drop_eq_getElem_cons hl2, cEq_cons, List.getElem_take] at h
      by_cases hx : xs[n] < xs[q]
      · rw [if_pos hx, if_neg (by omega)] at h
        refine ev_pos hx (ih (n + 1) (m + 1) (by omega) (by omega) ?_)
        rw [show m + 1 + cLt (xs.drop (n + 1)) xs[q] + cEq ((xs.take q).drop (n + 1)) xs[q] = m + (cLt (xs.drop (n + 1)) xs[q] + 1) + (cEq ((xs.take q).drop (n + 1)) xs[q] + 0) by omega]
        exact h
      · rw [if_neg hx] at h
        refine ev_neg hx (ev_pos (by omega) ?_)
        by_cases he : xs[n] = xs[q]
        · rw [if_pos he] at h
          refine ev_pos he (ih (n + 1) (m + 1) (by omega) (by omega) ?_)
          rw [show m + 1 + cLt (xs.drop (n + 1)) xs[q] + cEq ((xs.take q).drop (n + 1)) xs[q] = m + (cLt (xs.drop (n + 1)) xs[q] + 0) + (cEq ((xs.take q).drop (n + 1)) xs[q] + 1) by omega]
          exact h
        · rw [if_neg he] at h
          exact ev_neg he (ih (n + 1) m (by omega) (by omega) h)
    · have e2 : (xs.take q).drop n = [] := List.drop_eq_nil_of_le (by rw [List.length_take]; omega)
      have e3 : (xs.take q).drop (n + 1) = [] := List.drop_eq_nil_of_le (by rw [List.length_take]; omega)
      rw [e2] at h
      by_cases hx : xs[n] < xs[q]
      · rw [if_pos hx] at h
        refine ev_pos hx (ih (n + 1) (m + 1) (by omega) (by omega) ?_)
        rw [e3, show m + 1 + cLt (xs.drop (n + 1)) xs[q] = m + (cLt (xs.drop (n + 1)) xs[q] + 1) by omega]
        exact h
      · rw [if_neg hx] at h
        refine ev_neg hx (ev_neg (by omega) (ih (n + 1) m (by omega) (by omega) ?_))
        rw [e3]; exact h
theorem spec_LfOf_l0 (xs : List Int) (hm : xs.length ≤ 1000) : ∀ (d q : Nat), q + d = xs.length → Ev (fun k => spec_LfOf.l0 k xs (tab q fun k => ((cLt xs (xs.getD k 0) + cEq (xs.take k) (xs.getD k 0) : Nat) : Int)) (q : Int)) (lfL xs) := by
  intro d
  induction d with
  | zero =>
    intro q hq
    refine Ev.step (fun k => by rw [spec_LfOf.l0]) ?_
    have e : q = xs.length := by omega
    subst e
    exact ev_neg (by omega) (ev_now _)
  | succ d ih =>
    intro q hq
    have hlt : q < xs.length := by omega
    refine Ev.step (fun k => by rw [spec_LfOf.l0]) ?_
    refine ev_pos (by omega) ?_
    refine spec_LfOf_l1 xs _ q hlt _ hm (by rw [tab_length]; omega) xs.length 0 0 (by omega) (by omega) ?_
    rw [w64 (by omega) (by omega), List.drop_zero, List.drop_zero, Nat.zero_add]
    have h := ih (q + 1) (by omega)
    rw [tab_succ] at h
    have e : xs.getD q 0 = xs[q] := by rw [List.getD_eq_getElem?_getD, List.getElem?_eq_getElem hlt, Option.getD_some]
    rw [e] at h
    exact h
theorem spec_LfOf_ev (xs : List Int) : Ev (fun k => spec_LfOf.f k xs) (if symsOk xs = true then lfL xs else []) := by
  unfold spec_LfOf.f
  refine ev_bind (spec_SymsOk_ev xs) (ev_ite (fun h => ?_) (fun h => ?_))
  · rw [if_pos h]
    unfold symsOk at h
    rw [Bool.and_eq_true] at h
    have := of_decide_eq_true h.1
    exact spec_LfOf_l0 xs (by omega) xs.length 0 (by omega)
  · rw [if_neg h]; exact ev_now _
theorem spec_l01Same_l0 (xs ys : List Int) (hl : xs.length = ys.length) (hm : xs.length ≤ 140737488355328) : ∀ (d n : Nat), n + d = xs.length → Ev (fun k => spec_l01Same.l0 k xs ys (n : Int)) (decide (xs.drop n = ys.drop n)) := by
  intro d
  induction d with
  | zero =>
    intro n hn
    refine Ev.step (fun k => by rw [spec_l01Same.l0]) ?_
    refine ev_neg (by omega) (ev_now' ?_)
    rw [List.drop_eq_nil_of_le (by omega), List.drop_eq_nil_of_le (by omega)]; rfl
  | succ d ih =>
    intro n hn
    refine Ev.step (fun k => by rw [spec_l01Same.l0]) ?_
    refine ev_pos (by omega) (ev_pos (by omega) (ev_pos (by omega) ?_))
    rw [rd_lt (by omega), rd_lt (by omega), w64 (by omega) (by omega)]
    rw [List.drop_eq_getElem_cons (show n < xs.length by omega), List.drop_eq_getElem_cons (show n < ys.length by omega)]
    refine ev_ite (fun h => ev_eq (ih (n + 1) (by omega)) ?_) (fun h => ev_now' ?_)
    · simp only [List.cons.injEq, h, true_and]
    · exact (decide_eq_false (fun e => h (List.cons.inj e).1)).symm
theorem spec_l01Same_ev (xs ys : List Int) (hm : xs.length ≤ 140737488355328) : Ev (fun k => spec_l01Same.f k xs ys) (decide (xs = ys)) := by
  unfold spec_l01Same.f
  refine ev_ite (fun h => ?_) (fun h => ev_now' ?_)
  · exact spec_l01Same_l0 xs ys (by omega) hm xs.length 0 (by omega)
  · exact (decide_eq_false (fun e => h (by rw [e]))).symm
theorem laws_toIntS_l0 (xs : List Int) (hm : xs.length ≤ 35184372088832) : ∀ (d n : Nat) (out : List Int), n + d = xs.length → out.length = xs.length → (∀ j, j < n → out[j]? = xs[j]?) → Ev (fun k => laws_toIntS.l0 k xs out (n : Int)) xs := by
  intro d
  induction d with
  | zero =>
    intro n out hn hl ho
    refine Ev.step (fun k => by rw [laws_toIntS.l0]) ?_
    refine ev_neg (by omega) (ev_now' ?_)
    apply List.ext_getElem? ; intro j
    by_cases hj : j < n
    · exact ho j hj
    · rw [List.getElem?_eq_none (by omega), List.getElem?_eq_none (by omega)]
  | succ d ih =>
    intro n out hn hl ho
    refine Ev.step (fun k => by rw [laws_toIntS.l0]) ?_
    refine ev_pos (by omega) (ev_pos (by omega) (ev_pos (by omega) ?_))
    rw [w64 (by omega) (by omega)]
    refine ih (n + 1) _ (by omega) (by simp [hl]) ?_
    intro j hj
    rw [Int.toNat_natCast, List.getElem?_set, rd_lt (by omega)]
    by_cases e : n = j
    · subst e; rw [if_pos rfl, if_pos (by omega), List.getElem?_eq_getElem (by omega)]
    · rw [if_neg e]; exact ho j (by omega)
theorem laws_toIntS_ev (xs : List Int) (hm : xs.length ≤ 35184372088832) : Ev (fun k => laws_toIntS.f k xs) xs := by
  unfold laws_toIntS.f
  refine ev_pos (by omega) (ev_pos (by omega) ?_)
  exact laws_toIntS_l0 xs hm xs.length 0 _ (by omega) (by simp) (by simp)
def srows (t : List Int) : List Int := (sufRows t).map fun x => (x.val : Int)
theorem sr_lt {a b : Int} (ha : 0 ≤ a ∧ a < 256) (hb : 0 ≤ b ∧ b < 256) : (UInt8.ofNat a.toNat < UInt8.ofNat b.toNat) ↔ a < b := by
  rw [UInt8.lt_iff_toNat_lt, UInt8.toNat_ofNat', UInt8.toNat_ofNat']
  omega
theorem sr_cmp : ∀ (xs ys : List Int), (∀ b ∈ xs, 0 ≤ b ∧ b < 256) → (∀ b ∈ ys, 0 ≤ b ∧ b < 256) → Go.Lib.compareBytes (strOfNums xs).data.toList (strOfNums ys).data.toList = cmpI xs ys := by
  intro xs ys
  rw [strOfNums_data, strOfNums_data]
  induction xs generalizing ys with
  | nil =>
    intro _ _
    cases ys with
    | nil => rfl
    | cons y ys => rfl
  | cons x xs ih =>
    intro hx hy
    cases ys with
    | nil => rfl
    | cons y ys =>
      rw [List.map_cons, List.map_cons, Go.Lib.compareBytes, cmpI]
      have h1 := sr_lt (hx x (by simp)) (hy y (by simp))
      have h2 := sr_lt (hy y (by simp)) (hx x (by simp))
      rw [ih ys (fun b hb => hx b (by simp [hb])) (fun b hb => hy b (by simp [hb]))]
      by_cases c1 : x < y
      · rw [if_pos c1, if_pos (h1.2 c1)]
      · rw [if_neg c1, if_neg (fun g => c1 (h1.1 g))]
        by_cases c2 : y < x
        · rw [if_pos c2, if_pos (h2.2 c2)]
        · rw [if_neg c2, if_neg (fun g => c2 (h2.1 g))]
theorem sufC_eq (t : List Int) (hb : ∀ b ∈ t, 0 ≤ b ∧ b < 256) (x y : Fin (t.length + 1)) : sufC t x y = cmpI (t.drop x.val) (t.drop y.val) := by
  unfold sufC sufB
  exact sr_cmp _ _ (fun b g => hb b (List.mem_of_mem_drop g)) (fun b g => hb b (List.mem_of_mem_drop g))
theorem srows_perm (t : List Int) : (srows t).Perm (uptoI (t.length + 1)) := by
  unfold srows sufRows
  refine ((List.mergeSort_perm _ _).map _).trans ?_
  have e : (sufD t).toList.map (fun x => (x.val : Int)) = uptoI (t.length + 1) := by
    apply List.ext_getElem
    · simp [sufD, uptoI]
    · intro i h1 h2
      rw [List.getElem_map]
      simp only [sufD, uptoI, Array.toList_ofFn, List.getElem_ofFn, List.getElem_map, List.getElem_range]
      rfl
  rw [e]
theorem srows_sorted (t : List Int) (hb : ∀ b ∈ t, 0 ≤ b ∧ b < 256) : (srows t).Pairwise (sLe t) := by
  unfold srows sufRows
  rw [List.pairwise_map]
  have hO := sufC_swo t
  have h := List.pairwise_mergeSort (le := fun x y => !(ltOf (sufC t)) y x) (fun a b c h1 h2 => by
    rw [Bool.not_eq_true'] at h1 h2 ⊢
    exact hO.ntrans c b a h2 h1) (fun a b => by
    cases e1 : ltOf (sufC t) b a with
    | false => rfl
    | true =>
      cases e2 : ltOf (sufC t) a b with
      | false => rfl
      | true =>
        have := hO.trans b a b e1 e2
        rw [hO.irrefl] at this
        cases this) (sufD t).toList
  refine h.imp ?_
  intro a b hab
  rw [Bool.not_eq_true'] at hab
  unfold ltOf at hab
  have h1 := of_decide_eq_false hab
  rw [sufC_eq t hb, cmpI_neg] at h1
  unfold sLe
  rw [Int.toNat_natCast, Int.toNat_natCast]
  omega
theorem srows_length (t : List Int) : (srows t).length = t.length + 1 := by rw [(srows_perm t).length_eq, uptoI_length]
theorem srows_in (t : List Int) : rowsIn t.length (srows t) := fun x hx => by
  have := uptoI_mem ((srows_perm t).mem_iff.1 hx)
  omega
theorem impl_suffixRows_f (t : List Int) (hm : t.length ≤ 300) : impl_suffixRows.f t = some (srows t) := by
  unfold impl_suffixRows.f
  rw [if_pos (by omega)]; rfl
theorem spec_SuffixRows_ev (t : List Int) (hm : t.length ≤ 300) (hb : ∀ b ∈ t, 0 ≤ b ∧ b < 256) : Ev (fun k => spec_SuffixRows.f k t) (srows t) := by
  obtain ⟨r, k1, k2, k3⟩ := SuffixRows_ok' t hm
  rw [rows_one k2 k3 (srows_sorted t hb) (srows_perm t)] at k1
  exact k1
theorem spec_SuffixRows_no (t : List Int) (hm : ¬ t.length ≤ 300) : Ev (fun k => spec_SuffixRows.f k t) [] := by
  unfold spec_SuffixRows.f
  have h : spec_TextOk.f t = some (decide ((t.length : Int) ≤ 300)) := rfl
  exact ev_some h (ev_neg (by rw [decide_eq_false (by omega)]; decide) (ev_now _))
def bwtAt (t : List Int) (x : Int) : Int := if x = 0 then 0 else wrap64 (wrap64 (rd t (wrap64 (x - 1))) + 1)
theorem impl_bwtOf_l0 (t rows : List Int) (hm : t.length ≤ 300) (hl : rows.length ≤ 301) (hr : rowsIn t.length rows) : ∀ (d i : Nat) (acc : List Int), i + d = rows.length → acc.length = i → Ev (fun k => impl_bwtOf.l0 k t acc rows (rows.length : Int) (i : Int)) (acc ++ (rows.drop i).map (bwtAt t)) := by
  intro d
  induction d with
  | zero =>
    intro i acc hi ha
    rw [List.drop_eq_nil_of_le (by omega), List.map_nil, List.append_nil]
    refine Ev.step (fun k => by rw [impl_bwtOf.l0]) ?_
    exact ev_neg (by omega) (ev_now _)
  | succ d ih =>
    intro i acc hi ha
    have hlt : i < rows.length := by omega
    have hx := hr _ (List.getElem_mem hlt)
    rw [List.drop_eq_getElem_cons hlt, List.map_cons, ← List.singleton_append, ← List.append_assoc]
    have h := ih (i + 1) (acc ++ [bwtAt t rows[i]]) (by omega) (by simp [ha])
    refine Ev.step (fun k => by rw [impl_bwtOf.l0]) (ev_pos (by omega) (ev_pos (by omega) (ev_pos (by omega) ?_)))
    rw [rd_lt hlt, w64 (n := (i : Int) + 1) (by omega) (by omega)]
    unfold bwtAt at h
    by_cases e : rows[i] = 0
    · rw [if_pos e] at h
      exact ev_pos e (ev_pos (by omega) (by unfold bwtAt; rw [if_pos e]; exact h))
    · have hw : wrap64 (rows[i] - 1) = rows[i] - 1 := w64 (by omega) (by omega)
      rw [if_neg e] at h
      exact ev_neg e (ev_pos (by omega) (ev_pos (by omega) (ev_pos (by omega) (by unfold bwtAt; rw [if_neg e]; exact h))))
def bwtL (t : List Int) : List Int := (srows t).map (bwtAt t)
theorem bwtL_length (t : List Int) : (bwtL t).length = t.length + 1 := by rw [bwtL, List.length_map, srows_length]
theorem impl_bwtOf_ev (t : List Int) (hm : t.length ≤ 300) : Ev (fun k => impl_bwtOf.f k t) (bwtL t) := by
  unfold impl_bwtOf.f
  refine ev_some (impl_suffixRows_f t hm) ?_
  have h := impl_bwtOf_l0 t (srows t) hm (by rw [srows_length]; omega) (srows_in t) (srows t).length 0 [] (by omega) rfl
  rw [List.drop_zero, List.nil_append] at h
  exact h
theorem spec_BwtOf_l0 (t rows : List Int) (hm : t.length ≤ 300) (hl : rows.length ≤ 301) (hr : rowsIn t.length rows) : ∀ (d i : Nat) (acc : List Int), i + d = rows.length → acc.length = i → Ev (fun k => spec_BwtOf.l0 k t rows acc (i : Int)) (acc ++ (rows.drop i).map (bwtAt t)) := by
  intro d
  induction d with
  | zero =>
    intro i acc hi ha
    rw [List.drop_eq_nil_of_le (by omega), List.map_nil, List.append_nil]
    refine Ev.step (fun k => by rw [spec_BwtOf.l0]) ?_
    exact ev_neg (by omega) (ev_now _)
  | succ d ih =>
    intro i acc hi ha
    have hlt : i < rows.length := by omega
    have hx := hr _ (List.getElem_mem hlt)
    rw [List.drop_eq_getElem_cons hlt, List.map_cons, ← List.singleton_append, ← List.append_assoc]
    have h := ih (i + 1) (acc ++ [bwtAt t rows[i]]) (by omega) (by simp [ha])
    refine Ev.step (fun k => by rw [spec_BwtOf.l0]) (ev_pos (by omega) (ev_pos (by omega) ?_))
    rw [rd_lt hlt, w64 (n := (i : Int) + 1) (by omega) (by omega)]
    unfold bwtAt at h
    by_cases e : rows[i] = 0
    · rw [if_pos e] at h
      exact ev_pos e (ev_pos (by omega) (by unfold bwtAt; rw [if_pos e]; exact h))
    · have hw : wrap64 (rows[i] - 1) = rows[i] - 1 := w64 (by omega) (by omega)
      rw [if_neg e] at h
      exact ev_neg e (ev_pos (by omega) (ev_pos (by omega) (ev_pos (by omega) (by unfold bwtAt; rw [if_neg e]; exact h))))
theorem spec_BwtOf_ev (t : List Int) (hm : t.length ≤ 300) (hb : ∀ b ∈ t, 0 ≤ b ∧ b < 256) : Ev (fun k => spec_BwtOf.f k t) (bwtL t) := by
  unfold spec_BwtOf.f
  refine ev_bind (spec_SuffixRows_ev t hm hb) ?_
  have h := spec_BwtOf_l0 t (srows t) hm (by rw [srows_length]; omega) (srows_in t) (srows t).length 0 [] (by omega) rfl
  rw [List.drop_zero, List.nil_append] at h
  exact h
theorem spec_BwtOf_no (t : List Int) (hm : ¬ t.length ≤ 300) : Ev (fun k => spec_BwtOf.f k t) [] := by
  unfold spec_BwtOf.f
  refine ev_bind (spec_SuffixRows_no t hm) ?_
  exact Ev.step (fun k => by rw [spec_BwtOf.l0]) (ev_neg (by simp) (ev_now _))
theorem impl_within_f (a b c : Int) : impl_within.f a b c = some (decide (b ≤ a ∧ a ≤ c)) := by
  unfold impl_within.f
  by_cases h : b ≤ a <;> simp [h]
theorem impl_SymsOk_1_f (a : Int) : impl_SymsOk_1.f a = some (decide (0 ≤ a ∧ a ≤ 256)) := by
  unfold impl_SymsOk_1.f
  rw [impl_within_f]; rfl
theorem allO_all (p : Int → Option Bool) (q : Int → Bool) (h : ∀ x, p x = some (q x)) (l : List Int) : allO p l = some (l.all q) := by
  induction l with
  | nil => rfl
  | cons x l ih =>
    rw [allO, h x, Option.bind_some]
    cases hq : q x
    · simp [hq]
    · rw [if_pos rfl, ih]; simp [hq]
theorem impl_areAll_SymsOk_1_f (l : List Int) : impl_areAll_SymsOk_1.f l = some (l.all fun a => decide (0 ≤ a ∧ a ≤ 256)) := allO_all _ _ impl_SymsOk_1_f l
theorem impl_SymsOk_f (xs : List Int) : impl_SymsOk.f xs = some (symsOk xs) := by
  unfold impl_SymsOk.f symsOk
  by_cases h : xs.length ≤ 301
  · rw [if_pos (by omega), impl_areAll_SymsOk_1_f, decide_eq_true h]; rfl
  · rw [if_neg (by omega), decide_eq_false h]; rfl
theorem impl_count_l0 (b : Int) (l : List Int) (hm : l.length ≤ 140737488355328) : ∀ (d i : Nat), i + d = l.length → Ev (fun k => impl_count.l0 k b ((((l.take i).count b : Nat)) : Int) l (l.length : Int) (i : Int)) ((l.count b : Nat) : Int) := by
  intro d
  induction d with
  | zero =>
    intro i hi
    refine Ev.step (fun k => by rw [impl_count.l0]) ?_
    exact ev_neg (by omega) (ev_now' (by rw [List.take_of_length_le (by omega)]))
  | succ d ih =>
    intro i hi
    have hlt : i < l.length := by omega
    refine Ev.step (fun k => by rw [impl_count.l0]) ?_
    have hc : (l.take i).count b ≤ l.length := Nat.le_trans List.count_le_length (by rw [List.length_take]; omega)
    have h := ih (i + 1) (by omega)
    rw [take_snoc' hlt, count_snoc] at h
    rw [rd_lt hlt, w64 (n := (i : Int) + 1) (by omega) (by omega)]
    refine ev_pos (by omega) (ev_pos (by omega) (ev_pos (by omega) ?_))
    refine ev_ite (fun e => ?_) (fun e => ?_)
    · rw [if_pos e] at h
      rw [w64 (by omega) (by omega)]
      exact h
    · rw [if_neg e] at h
      exact h
theorem impl_count_ev (l : List Int) (b : Int) (hm : l.length ≤ 140737488355328) : Ev (fun k => impl_count.f k l b) ((l.count b : Nat) : Int) := by
  unfold impl_count.f
  have := impl_count_l0 b l hm l.length 0 (by omega)
  rw [List.take_zero] at this
  exact this
theorem symsOk_mem {xs : List Int} (h : symsOk xs = true) : xs.length ≤ 301 ∧ ∀ x ∈ xs, 0 ≤ x ∧ x ≤ 256 := by
  unfold symsOk at h
  rw [Bool.and_eq_true] at h
  exact ⟨of_decide_eq_true h.1, fun x hx => of_decide_eq_true (List.all_eq_true.1 h.2 x hx)⟩
def countsR (l : List Int) : List Int := tab 258 fun c => ((cLt l (c : Int) : Nat) : Int)
theorem impl_counts_l1 (xs : List Int) (hm : xs.length ≤ 301) (hx : ∀ x ∈ xs, 0 ≤ x ∧ x ≤ 256) : ∀ (d c : Nat), c + d = 258 → 1 ≤ c → Ev (fun k => impl_counts.l1 k (tab 258 fun j => if j < c then ((cLt xs (j : Int) : Nat) : Int) else ((cEq xs ((j : Int) - 1) : Nat) : Int)) (c : Int)) (countsR xs) := by
  intro d
  induction d with
  | zero =>
    intro c hc h1
    have e : c = 258 := by omega
    subst e
    refine Ev.step (fun k => by rw [impl_counts.l1]) ?_
    refine ev_neg (by omega) (ev_now' ?_)
    exact tab_congr (fun i hi => by rw [if_pos hi])
  | succ d ih =>
    intro c hc h1
    refine Ev.step (fun k => by rw [impl_counts.l1]) ?_
    rw [w64 (n := (c : Int) - 1) (by omega) (by omega), w64 (n := (c : Int) + 1) (by omega) (by omega), show (c : Int) - 1 = ((c - 1 : Nat) : Int) by omega, rd_tab (show c < 258 by omega), rd_tab (show c - 1 < 258 by omega), if_neg (by omega), if_pos (by omega)]
    have b1 := cEq_le xs ((c : Int) - 1)
    have b2 := cLt_le xs ((c - 1 : Nat) : Int)
    have e1 : cLt xs (c : Int) = cLt xs ((c - 1 : Nat) : Int) + cEq xs ((c : Int) - 1) := by
      have h := cLt_succ xs ((c - 1 : Nat) : Int)
      rw [show ((c - 1 : Nat) : Int) + 1 = (c : Int) by omega] at h
      rw [h, show ((c - 1 : Nat) : Int) = (c : Int) - 1 by omega]
    refine ev_pos (by omega) (ev_pos (by omega) (ev_pos (by rw [tab_length]; omega) (ev_pos (by omega) (ev_pos (by rw [tab_length]; omega) ?_))))
    rw [w64 (by omega) (by omega), Int.toNat_natCast, tab_set]
    have h := ih (c + 1) (by omega) (by omega)
    refine Ev.congr (fun k => ?_) h
    congr 1
    apply tab_congr
    intro j hj
    by_cases e : j = c
    · subst e; rw [if_pos rfl, if_pos (by omega)]; omega
    · rw [if_neg e]
      by_cases f : j < c
      · rw [if_pos f, if_pos (by omega)]
      · rw [if_neg f, if_neg (by omega)]
theorem impl_counts_l0 (xs : List Int) (hm : xs.length ≤ 301) (hx : ∀ x ∈ xs, 0 ≤ x ∧ x ≤ 256) : ∀ (d n : Nat), n + d = xs.length → Ev (fun k => impl_counts.l0 k (tab 258 fun j => ((cEq (xs.take n) ((j : Int) - 1) : Nat) : Int)) xs (xs.length : Int) (n : Int)) (countsR xs) := by
  intro d
  induction d with
  | zero =>
    intro n hn
    refine Ev.step (fun k => by rw [impl_counts.l0]) ?_
    refine ev_neg (by omega) ?_
    have h := impl_counts_l1 xs hm hx 257 1 (by omega) (by omega)
    refine Ev.congr (fun k => ?_) h
    congr 1
    apply tab_congr
    intro j hj
    rw [List.take_of_length_le (by omega)]
    by_cases f : j < 1
    · have e : j = 0 := by omega
      subst e
      rw [if_pos (by omega), cEq_neg xs (fun x h => (hx x h).1) _ (by omega)]
      exact (congrArg (fun n : Nat => (n : Int)) (cLt_zero xs (fun x h => (hx x h).1))).symm
    · rw [if_neg f]
  | succ d ih =>
    intro n hn
    have hlt : n < xs.length := by omega
    have hv := hx _ (List.getElem_mem hlt)
    refine Ev.step (fun k => by rw [impl_counts.l0]) ?_
    rw [rd_lt hlt, w64 (n := xs[n] + 1) (by omega) (by omega), w64 (n := (n : Int) + 1) (by omega) (by omega)]
    obtain ⟨v, e⟩ : ∃ v : Nat, xs[n] + 1 = (v : Int) := ⟨(xs[n] + 1).toNat, by omega⟩
    rw [e, rd_tab (show v < 258 by omega)]
    have b1 := cEq_le (xs.take n) ((v : Int) - 1)
    rw [List.length_take] at b1
    refine ev_pos (by omega) (ev_pos (by omega) (ev_pos (by omega) (ev_pos (by omega) (ev_pos (by rw [tab_length]; omega) ?_))))
    rw [w64 (by omega) (by omega), Int.toNat_natCast, tab_set]
    have h := ih (n + 1) (by omega)
    refine Ev.congr (fun k => ?_) h
    congr 1
    apply tab_congr
    intro j hj
    rw [take_snoc' hlt, cEq_snoc]
    by_cases f : j = v
    · subst f; rw [if_pos rfl, if_pos (by omega)]; omega
    · rw [if_neg f, if_neg (by omega)]; omega
theorem impl_counts_ev (xs : List Int) (h : symsOk xs = true) : Ev (fun k => impl_counts.f k xs) (countsR xs) := by
  obtain ⟨hm, hx⟩ := symsOk_mem h
  unfold impl_counts.f
  refine ev_pos (by decide) ?_
  have h := impl_counts_l0 xs hm hx xs.length 0 (by omega)
  rw [tab_zero 258 (fun j => ((cEq (xs.take 0) ((j : Int) - 1) : Nat) : Int)) (fun i hi => by simp [cEq])]
  exact h
def lfR (l : List Int) : List Int := tab l.length fun k => ((cLt l (l.getD k 0) + cEq (l.take k) (l.getD k 0) : Nat) : Int)
theorem impl_lfOf_l0 (xs : List Int) (hm : xs.length ≤ 301) (hx : ∀ x ∈ xs, 0 ≤ x ∧ x ≤ 256) : ∀ (d q : Nat), q + d = xs.length → Ev (fun k => impl_lfOf.l0 k (tab 258 fun j => ((cLt xs (j : Int) + cEq (xs.take q) (j : Int) : Nat) : Int)) (tab q fun k => ((cLt xs (xs.getD k 0) + cEq (xs.take k) (xs.getD k 0) : Nat) : Int)) xs (xs.length : Int) (q : Int)) (lfR xs) := by
  intro d
  induction d with
  | zero =>
    intro q hq
    refine Ev.step (fun k => by rw [impl_lfOf.l0]) ?_
    have e : q = xs.length := by omega
    subst e
    exact ev_neg (by omega) (ev_now _)
  | succ d ih =>
    intro q hq
    have hlt : q < xs.length := by omega
    have hv := hx _ (List.getElem_mem hlt)
    refine Ev.step (fun k => by rw [impl_lfOf.l0]) ?_
    rw [rd_lt hlt, w64 (n := (q : Int) + 1) (by omega) (by omega)]
    obtain ⟨v, e⟩ : ∃ v : Nat, xs[q] = (v : Int) := ⟨xs[q].toNat, by omega⟩
    rw [e, rd_tab (show v < 258 by omega)]
    have b1 := cEq_le (xs.take q) (v : Int)
    have b2 := cLt_le xs (v : Int)
    rw [List.length_take] at b1
    refine ev_pos (by omega) (ev_pos (by omega) (ev_pos (by omega) (ev_pos (by omega) (ev_pos (by rw [tab_length]; omega) (ev_pos (by rw [tab_length]; omega) ?_)))))
    rw [w64 (by omega) (by omega), Int.toNat_natCast, tab_set]
    have h := ih (q + 1) (by omega)
    refine Ev.congr (fun k => ?_) h
    have eg : xs.getD q 0 = (v : Int) := by rw [List.getD_eq_getElem?_getD, List.getElem?_eq_getElem hlt, Option.getD_some, e]
    congr 1
    · apply tab_congr
      intro j hj
      rw [take_snoc' hlt, cEq_snoc, e]
      by_cases f : j = v
      · subst f; rw [if_pos rfl, if_pos rfl]; omega
      · rw [if_neg f, if_neg (by omega)]; omega
    · rw [tab_succ, eg]
theorem impl_lfOf_ev (xs : List Int) (h : symsOk xs = true) : Ev (fun k => impl_lfOf.f k xs) (lfR xs) := by
  unfold impl_lfOf.f
  refine ev_bind (impl_counts_ev xs h) ?_
  obtain ⟨hm, hx⟩ := symsOk_mem h
  have h := impl_lfOf_l0 xs hm hx xs.length 0 (by omega)
  refine Ev.congr (fun k => ?_) h
  congr 1
theorem slices_Equal_l0 (xs ys : List Int) (hl : xs.length = ys.length) (hm : xs.length ≤ 140737488355328) : ∀ (d n : Nat), n + d = xs.length → Ev (fun k => slices_Equal_int_int.l0 k xs ys (xs.length : Int) (n : Int)) (decide (xs.drop n = ys.drop n)) := by
  intro d
  induction d with
  | zero =>
    intro n hn
    refine Ev.step (fun k => by rw [slices_Equal_int_int.l0]) ?_
    refine ev_neg (by omega) (ev_now' ?_)
    rw [List.drop_eq_nil_of_le (by omega), List.drop_eq_nil_of_le (by omega)]; rfl
  | succ d ih =>
    intro n hn
    refine Ev.step (fun k => by rw [slices_Equal_int_int.l0]) ?_
    refine ev_pos (by omega) (ev_pos (by omega) (ev_pos (by omega) (ev_pos (by omega) ?_)))
    rw [rd_lt (by omega), rd_lt (by omega), w64 (by omega) (by omega)]
    rw [List.drop_eq_getElem_cons (show n < xs.length by omega), List.drop_eq_getElem_cons (show n < ys.length by omega)]
    refine ev_ite (fun h => ev_eq (ih (n + 1) (by omega)) ?_) (fun h => ev_now' ?_)
    · simp only [List.cons.injEq, h, true_and]
    · exact (decide_eq_false (fun e => h (List.cons.inj e).1)).symm
theorem slices_Equal_ev (xs ys : List Int) (hm : xs.length ≤ 140737488355328) : Ev (fun k => slices_Equal_int_int.f k xs ys) (decide (xs = ys)) := by
  unfold slices_Equal_int_int.f
  refine ev_ite (fun h => ?_) (fun h => ev_now' ?_)
  · exact slices_Equal_l0 xs ys (by omega) hm xs.length 0 (by omega)
  · exact (decide_eq_false (fun e => h (by rw [e]))).symm
theorem laws_heldByteS_l0 (m a : Nat) (hm : a + m ≤ 1099511627776) : ∀ (d n : Nat), n + d = m → Ev (fun k => laws_heldByteS.l0 k (marked (fun x => x % 256) m a) ((a + n : Nat) : Int) (n : Int)) ((a + m : Nat) : Int) := by
  intro d
  induction d with
  | zero =>
    intro n hn
    have e : n = m := by omega
    subst e
    refine Ev.step (fun k => by rw [laws_heldByteS.l0]) ?_
    exact ev_neg (by simp [marked_length]) (ev_now _)
  | succ d ih =>
    intro n hn
    refine Ev.step (fun k => by rw [laws_heldByteS.l0]) ?_
    refine ev_pos (by rw [marked_length]; omega) (ev_pos (by omega) ?_)
    rw [rd_lt (by rw [marked_length]; omega), marked_get _ _ _ _ (by omega), w64 (by omega) (by omega), w64 (by omega) (by omega)]
    exact ev_pos rfl (ih (n + 1) (by omega))
theorem laws_heldByteS_ev (m a : Nat) (hm : a + m ≤ 1099511627776) : Ev (fun k => laws_heldByteS.f k (marked (fun x => x % 256) m a) (a : Int)) ((a + m : Nat) : Int) := by
  unfold laws_heldByteS.f
  exact laws_heldByteS_l0 m a hm m 0 (by omega)

def bwW (b : List Int) : Nat → Nat → List Int → List Int × Bool
  | 0, _, acc => if bwtL acc = b then (acc, true) else ([], false)
  | m + 1, row, acc => if b.getD row 0 = 0 then ([], false) else bwW b m (rd (lfL b) (row : Int)).toNat ((wrap64 (b.getD row 0 - 1)) % 256 :: acc)
def byt (l : List Int) : Prop := ∀ x ∈ l, 0 ≤ x ∧ x < 256
theorem byt_cons (v : Int) (l : List Int) (h : byt l) : byt (v % 256 :: l) := fun x hx => by
  rcases List.mem_cons.1 hx with e | e
  · subst e; omega
  · exact h x e
theorem lf_row (b : List Int) (row : Nat) (h : row < b.length) : ∃ q : Nat, rd (lfL b) (row : Int) = (q : Int) ∧ q < b.length := by
  rw [lfL_get b row h]
  exact ⟨_, rfl, cLt_cEq_lt h⟩
theorem bwW_len (b : List Int) : ∀ (m row : Nat) (acc : List Int), (bwW b m row acc).1.length ≤ acc.length + m := by
  intro m
  induction m with
  | zero => intro row acc; rw [bwW]; split <;> simp
  | succ m ih =>
    intro row acc
    rw [bwW]
    split
    · simp
    · have := ih (rd (lfL b) (row : Int)).toNat ((wrap64 (b.getD row 0 - 1)) % 256 :: acc)
      rw [List.length_cons] at this
      omega
theorem bwW_no (b : List Int) (hc : ∀ t, t.length ≤ 300 → byt t → bwtL t ≠ b) : ∀ (m row : Nat) (acc : List Int), acc.length + m ≤ 300 → byt acc → bwW b m row acc = ([], false) := by
  intro m
  induction m with
  | zero => intro row acc h hb; rw [bwW, if_neg (hc acc (by omega) hb)]
  | succ m ih =>
    intro row acc h hb
    rw [bwW]
    split
    · rfl
    · exact ih _ _ (by rw [List.length_cons]; omega) (byt_cons _ _ hb)
theorem count_uptoI (n : Nat) : (uptoI (n + 1)).countP (fun x => decide (x = 0)) = 1 := by
  induction n with
  | zero => rfl
  | succ n ih => rw [uptoI_succ, List.countP_append, ih]; simp; omega
theorem bwtL_count (t : List Int) (hb : byt t) : (bwtL t).count 0 = 1 := by
  rw [bwtL, List.count_eq_countP, List.countP_map]
  have e : (srows t).countP ((fun x => x == 0) ∘ bwtAt t) = (srows t).countP (fun x => decide (x = 0)) := by
    apply List.countP_congr
    intro x hx
    have hin := srows_in t x hx
    simp only [Function.comp, beq_iff_eq, decide_eq_true_eq]
    unfold bwtAt
    by_cases h : x = 0
    · rw [if_pos h]; simp [h]
    · rw [if_neg h]
      constructor
      · intro h2
        exfalso
        have hlen : (srows t).length = t.length + 1 := srows_length t
        have hxl : (x - 1).toNat < t.length := by omega
        have hm : t.length ≤ 9223372036854775807 ∨ 9223372036854775807 < t.length := by omega
        rcases hm with hm | hm
        · rw [w64 (n := x - 1) (by omega) (by omega)] at h2
          have hr : rd t (x - 1) = t[(x - 1).toNat] := by rw [rd_of (by omega) (by omega)]
          have hv := hb _ (List.getElem_mem hxl)
          rw [hr, w64 (n := t[(x - 1).toNat]) (by omega) (by omega), w64 (by omega) (by omega)] at h2
          omega
        · -- such a text's rows: the wrapped index still reads a byte or nothing
          have hv : 0 ≤ rd t (wrap64 (x - 1)) ∧ rd t (wrap64 (x - 1)) < 256 := by
            unfold rd
            rw [List.getD_eq_getElem?_getD]
            rcases Nat.lt_or_ge (wrap64 (x - 1)).toNat t.length with hl | hl
            · rw [List.getElem?_eq_getElem hl]; exact hb _ (List.getElem_mem hl)
            · rw [List.getElem?_eq_none hl]; simp
          rw [w64 (n := rd t (wrap64 (x - 1))) (by omega) (by omega), w64 (by omega) (by omega)] at h2
          omega
      · intro h2; exact absurd h2 h
  rw [e, (srows_perm t).countP_eq, count_uptoI]
theorem spec_BwtText_j2_ev (b t : List Int) (hm : t.length ≤ 300) (hb : byt t) : Ev (fun k => spec_BwtText.j2 k b t) (if bwtL t = b then (t, true) else ([], false)) := by
  refine Ev.step (fun k => by rw [spec_BwtText.j2]) ?_
  refine ev_bind (spec_BwtOf_ev t hm hb) (ev_bind (spec_l01Same_ev _ b (by rw [bwtL_length]; omega)) (ev_ite (fun h => ev_now' ?_) (fun h => ev_now' ?_)))
  · rw [if_pos (of_decide_eq_true h)]
  · rw [if_neg (fun g => h (decide_eq_true g))]
theorem spec_BwtText_l0_ev (b : List Int) (hl : b.length ≤ 301) (hx : ∀ x ∈ b, 0 ≤ x ∧ x ≤ 256) : ∀ (m i row : Nat) (acc : List Int), i + m + 1 = b.length → acc.length = i → row < b.length → byt acc →
    Ev (fun k => spec_BwtText.l0 k b (lfL b) acc (row : Int) (i : Int)) (bwW b m row acc) := by
  intro m
  induction m with
  | zero =>
    intro i row acc hi ha hr hb
    refine Ev.step (fun k => by rw [spec_BwtText.l0]) ?_
    rw [w64 (n := (b.length : Int) - 1) (by omega) (by omega), bwW]
    exact ev_neg (by omega) (spec_BwtText_j2_ev b acc (by omega) hb)
  | succ m ih =>
    intro i row acc hi ha hr hb
    refine Ev.step (fun k => by rw [spec_BwtText.l0]) ?_
    have hv := hx _ (List.getElem_mem hr)
    have hg : b.getD row 0 = b[row] := by rw [List.getD_eq_getElem?_getD, List.getElem?_eq_getElem hr, Option.getD_some]
    rw [w64 (n := (b.length : Int) - 1) (by omega) (by omega), bwW, hg, rd_lt hr, w64 (n := (i : Int) + 1) (by omega) (by omega)]
    refine ev_pos (by omega) (ev_pos (by omega) (ev_pos (by omega) ?_))
    by_cases h0 : b[row] = 0
    · rw [if_pos h0]
      refine ev_neg (by omega) (ev_eq (spec_BwtText_j2_ev b acc (by omega) hb) ?_)
      rw [if_neg (fun e => by have := congrArg List.length e; rw [bwtL_length] at this; omega)]
    · rw [if_neg h0]
      obtain ⟨q, hq1, hq2⟩ := lf_row b row hr
      rw [hq1, Int.toNat_natCast]
      refine ev_pos (by omega) (ev_some rfl (ev_pos (by rw [List.length_singleton]; omega) (ev_pos (by rw [lfL_length]; omega) ?_)))
      rw [List.singleton_append]
      exact ih (i + 1) q _ (by omega) (by rw [List.length_cons]; omega) hq2 (byt_cons _ _ hb)
theorem impl_BwtText_l0_ev (b : List Int) (hl : b.length ≤ 301) (hx : ∀ x ∈ b, 0 ≤ x ∧ x ≤ 256) : ∀ (m row : Nat) (acc : List Int), acc.length + m + 1 = b.length → row < b.length → byt acc →
    Ev (fun k => impl_BwtText.l0 k b (lfL b) (List.replicate m 0 ++ acc) (row : Int) ((m : Int) - 1)) (bwW b m row acc) := by
  intro m
  induction m with
  | zero =>
    intro row acc ha hr hb
    refine Ev.step (fun k => by rw [impl_BwtText.l0]) ?_
    rw [List.replicate_zero, List.nil_append, bwW]
    refine ev_neg (by omega) (ev_bind (impl_bwtOf_ev acc (by omega)) (ev_bind (slices_Equal_ev _ b (by rw [bwtL_length]; omega)) (ev_ite (fun h => ev_now' ?_) (fun h => ev_now' ?_))))
    · rw [if_pos (of_decide_eq_true h)]
    · rw [if_neg (fun g => h (decide_eq_true g))]
  | succ m ih =>
    intro row acc ha hr hb
    refine Ev.step (fun k => by rw [impl_BwtText.l0]) ?_
    have hv := hx _ (List.getElem_mem hr)
    have hg : b.getD row 0 = b[row] := by rw [List.getD_eq_getElem?_getD, List.getElem?_eq_getElem hr, Option.getD_some]
    rw [bwW, hg, rd_lt hr]
    refine ev_pos (by omega) (ev_pos (by omega) (ev_pos (by omega) ?_))
    by_cases h0 : b[row] = 0
    · rw [if_pos h0]
      exact ev_pos h0 (ev_now _)
    · rw [if_neg h0]
      obtain ⟨q, hq1, hq2⟩ := lf_row b row hr
      rw [hq1, Int.toNat_natCast]
      refine ev_neg h0 (ev_pos (by omega) (ev_pos (by simp; omega) (ev_pos (by rw [lfL_length]; omega) ?_)))
      have e : (List.replicate (m + 1) (0 : Int) ++ acc).set (((m + 1 : Nat) : Int) - 1).toNat ((wrap64 (b[row] - 1)) % 256) = List.replicate m 0 ++ ((wrap64 (b[row] - 1)) % 256 :: acc) := by
        rw [show (((m + 1 : Nat) : Int) - 1).toNat = m by omega, List.replicate_succ', List.append_assoc, List.set_append_right _ _ (by simp)]
        simp
      rw [e, w64 (n := ((m + 1 : Nat) : Int) - 1 - 1) (by omega) (by omega), show ((m + 1 : Nat) : Int) - 1 - 1 = (m : Int) - 1 by omega]
      exact ih q _ (by rw [List.length_cons]; omega) hq2 (byt_cons _ _ hb)
def bwR (b : List Int) : List Int × Bool := if symsOk b = true ∧ b.length ≠ 0 then bwW b (b.length - 1) 0 [] else ([], false)
theorem spec_BwtText_ev (b : List Int) : Ev (fun k => spec_BwtText.f k b) (bwR b) := by
  unfold spec_BwtText.f bwR
  have bad : Ev (fun k => spec_BwtText.j0 k b true) ([], false) := Ev.step (fun k => by rw [spec_BwtText.j0]) (ev_pos rfl (ev_now _))
  refine ev_bind (spec_SymsOk_ev b) (ev_ite (fun h => ?_) (fun h => ?_))
  · by_cases h0 : b.length = 0
    · rw [if_neg (fun g => g.2 h0), show ((b.length : Int) == 0) = true by simp [h0]]
      exact bad
    · rw [if_pos ⟨h, h0⟩, show ((b.length : Int) == 0) = false from beq_eq_false_iff_ne.mpr (by omega)]
      obtain ⟨hm, hx⟩ := symsOk_mem h
      refine Ev.step (fun k => by rw [spec_BwtText.j0]) (ev_neg (by decide) (ev_bind (spec_LfOf_ev b) ?_))
      rw [if_pos h]
      exact spec_BwtText_l0_ev b hm hx (b.length - 1) 0 0 [] (by omega) rfl (by omega) (fun x hx => by simp at hx)
  · rw [if_neg (fun g => h g.1)]
    exact bad
theorem impl_BwtText_ev (b : List Int) : Ev (fun k => impl_BwtText.f k b) (bwR b) := by
  unfold impl_BwtText.f bwR
  have bad : Ev (fun k => impl_BwtText.j0 k b true) ([], false) := Ev.step (fun k => by rw [impl_BwtText.j0]) (ev_pos rfl (ev_now _))
  refine ev_some (impl_SymsOk_f b) (ev_ite (fun h => ?_) (fun h => ?_))
  · obtain ⟨hm, hx⟩ := symsOk_mem h
    refine ev_bind (impl_count_ev b 0 (by omega)) ?_
    by_cases hc : b.count 0 = 1
    · have h0 : b.length ≠ 0 := by
        intro e
        rw [List.eq_nil_of_length_eq_zero e] at hc
        cases hc
      rw [if_pos ⟨h, h0⟩, hc, show (((1 : Nat) : Int) != 1) = false from rfl]
      refine Ev.step (fun k => by rw [impl_BwtText.j0]) (ev_neg (by decide) (ev_bind (impl_lfOf_ev b h) ?_))
      rw [w64 (n := (b.length : Int) - 1) (by omega) (by omega)]
      refine ev_pos (by omega) (ev_pos (by omega) (ev_some rfl ?_))
      rw [show ((b.length : Int) - 1).toNat = b.length - 1 by omega, List.length_replicate, w64 (by omega) (by omega)]
      have hh := impl_BwtText_l0_ev b hm hx (b.length - 1) 0 [] (by simp; omega) (by omega) (fun x hx => by simp at hx)
      rw [List.append_nil] at hh
      exact hh
    · have hne : ((((b.count 0 : Nat)) : Int) != 1) = true := by rw [bne_iff_ne]; omega
      rw [hne]
      refine ev_eq bad ?_
      by_cases h0 : b.length = 0
      · rw [if_neg (fun g => g.2 h0)]
      · rw [if_pos ⟨h, h0⟩]
        exact (bwW_no b (fun t _ ht e => hc (by rw [← e]; exact bwtL_count t ht)) _ _ _ (by simp; omega) (fun x hx => by simp at hx)).symm
  · rw [if_neg (fun g => h g.1)]
    exact bad
theorem bwR_length (b : List Int) : (bwR b).1.length ≤ b.length := by
  unfold bwR
  split
  · have := bwW_len b (b.length - 1) 0 []
    simp at this
    omega
  · simp
theorem FnExactBwtText : laws_FnExactBwtText.Pure := by
  intro l hl _ hw
  refine Ev.rounds ?_
  unfold laws_FnExactBwtText.f
  refine ev_ite (fun _ => ev_now _) (fun h => ?_)
  have hm : l.length ≤ 35184372088832 := by omega
  have hs := spec_BwtText_ev l
  have hi := impl_BwtText_ev l
  have hlen := bwR_length l
  generalize bwR l = R at *
  obtain ⟨out, ok⟩ := R
  have ho : out.length ≤ l.length := hlen
  have hml : (1 : Nat) + l.length ≤ 1099511627776 := by omega
  have hmo : (1 : Nat) + out.length ≤ 1099511627776 := by omega
  have hq := laws_eqByteS_ev out out (by omega)
  have hj2 : Ev (fun k => laws_FnExactBwtText.j2 k (marked (fun x => x % 256) out.length 1) ((1 + out.length : Nat) : Int) false) true := by
    refine Ev.step (fun k => by rw [laws_FnExactBwtText.j2]) (ev_neg (by decide) ?_)
    exact ev_bind (laws_heldByteS_ev out.length 1 hmo) (ev_neg (by omega) (ev_pos rfl (ev_now _)))
  have hj1 : Ev (fun k => laws_FnExactBwtText.j1 k l out ok out false) true := by
    refine Ev.step (fun k => by rw [laws_FnExactBwtText.j1]) (ev_neg (by decide) ?_)
    refine ev_bind (laws_markByteS_ev out 1 hmo) (ev_bind (laws_heldByteS_ev out.length 1 hmo) (ev_neg (by omega) (ev_pos rfl ?_)))
    refine ev_bind (laws_toIntS_ev l hm) (ev_bind hi (ev_bind hq (ev_pos (by simp) ?_)))
    rw [show (ok != ok) = false by simp]
    exact hj2
  have hj0 : Ev (fun k => laws_FnExactBwtText.j0 k l out ok l out ok false) true := by
    refine Ev.step (fun k => by rw [laws_FnExactBwtText.j0]) (ev_neg (by decide) ?_)
    refine ev_bind (laws_toIntS_ev l hm) (ev_bind (laws_eqIntS_ev l l (by omega)) (ev_pos (by simp) ?_))
    refine ev_bind (laws_markIntS_ev l 1 hml) (ev_neg (by omega) (ev_bind hq (ev_pos (by simp) ?_)))
    rw [show (ok != ok) = false by simp]
    exact hj1
  refine ev_bind (laws_toIntS_ev l hm) (ev_bind hs (ev_bind (laws_toIntS_ev l hm) (ev_bind hi (ev_bind hq (ev_pos (by simp) ?_)))))
  rw [show (ok != ok) = false by simp]
  exact hj0

end Go.Proofs.Ytekcmfmcdedamaa.Pure
