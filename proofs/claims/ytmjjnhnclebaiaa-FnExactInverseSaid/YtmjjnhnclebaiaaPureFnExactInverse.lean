/- The pure statement of the law FnExactInverse: the program's answers equal the reference's, for all arguments within the row's bounds. -/
import Derived.Test.YtmjjnhnclebaiaaQFnExactInversex2
import Derived.Test.YtmjjnhnclebaiaaLib
namespace Go.Proofs.Ytmjjnhnclebaiaa.Pure
open Go.RowKit Go.Proofs.Ytmjjnhnclebaiaa.QFnExactInverse Go.Proofs.Ytmjjnhnclebaiaa.Lib Go.Proofs.YtmjjnhnclebaiaaW.PrintWords Go.Proofs.YtmjjnhnclebaiaaW.PrintLast Go.Proofs.YtmjjnhnclebaiaaW.PrintMore
set_option linter.unusedVariables false
set_option linter.unusedSimpArgs false

theorem laws_toIntS_l0 (xs : List Int) (hm : xs.length ≤ 35184372088832) : ∀ (d n : Nat) (out : List Int), n + d = xs.length → out.length = xs.length → (∀ j, j < n → out[j]? = xs[j]?) → Ev (fun k => laws_toIntS.l0 k xs out (n : Int)) xs := by
  intro d
  induction d with
  | zero =>
    intro n out hn hl ho
    refine Ev.step (fun k => by rw [laws_toIntS.l0]) ?_
    refine ev_neg (by omega) (ev_now' ?_)
    apply List.ext_getElem? ; intro j
    by_cases hj : j < n
    · exact ho j hj
    · rw [List.getElem?_eq_none (by omega), List.getElem?_eq_none (by omega)]
  | succ d ih =>
    intro n out hn hl ho
    refine Ev.step (fun k => by rw [laws_toIntS.l0]) ?_
    refine ev_pos (by omega) (ev_pos (by omega) (ev_pos (by omega) ?_))
    rw [w64 (by omega) (by omega)]
    refine ih (n + 1) _ (by omega) (by simp [hl]) ?_
    intro j hj
    rw [Int.toNat_natCast, List.getElem?_set, rd_lt (by omega)]
    by_cases e : n = j
    · subst e; rw [if_pos rfl, if_pos (by omega), List.getElem?_eq_getElem (by omega)]
    · rw [if_neg e]; exact ho j (by omega)
theorem laws_toIntS_ev (xs : List Int) (hm : xs.length ≤ 35184372088832) : Ev (fun k => laws_toIntS.f k xs) xs := by
  unfold laws_toIntS.f
  refine ev_pos (by omega) (ev_pos (by omega) ?_)
  exact laws_toIntS_l0 xs hm xs.length 0 _ (by omega) (by simp) (by simp)
theorem laws_eqIntS_l0 (xs ys : List Int) (hl : xs.length = ys.length) (hm : xs.length ≤ 140737488355328) : ∀ (d n : Nat), n + d = xs.length → Ev (fun k => laws_eqIntS.l0 k xs ys (n : Int)) (decide (xs.drop n = ys.drop n)) := by
  intro d
  induction d with
  | zero =>
    intro n hn
    refine Ev.step (fun k => by rw [laws_eqIntS.l0]) ?_
    refine ev_neg (by omega) (ev_now' ?_)
    rw [List.drop_eq_nil_of_le (by omega), List.drop_eq_nil_of_le (by omega)]; rfl
  | succ d ih =>
    intro n hn
    refine Ev.step (fun k => by rw [laws_eqIntS.l0]) ?_
    refine ev_pos (by omega) (ev_pos (by omega) (ev_pos (by omega) ?_))
    rw [rd_lt (by omega), rd_lt (by omega), w64 (by omega) (by omega)]
    rw [List.drop_eq_getElem_cons (show n < xs.length by omega), List.drop_eq_getElem_cons (show n < ys.length by omega)]
    refine ev_ite (fun h => ev_eq (ih (n + 1) (by omega)) ?_) (fun h => ev_now' ?_)
    · simp only [List.cons.injEq, h, true_and]
    · exact (decide_eq_false (fun e => h (List.cons.inj e).1)).symm
theorem laws_eqIntS_ev (xs ys : List Int) (hm : xs.length ≤ 140737488355328) : Ev (fun k => laws_eqIntS.f k xs ys) (decide (xs = ys)) := by
  unfold laws_eqIntS.f
  refine ev_ite (fun h => ?_) (fun h => ev_now' ?_)
  · exact laws_eqIntS_l0 xs ys (by omega) hm xs.length 0 (by omega)
  · exact (decide_eq_false (fun e => h (by rw [e]))).symm
theorem impl_within_f (a b c : Int) : impl_within.f a b c = some (decide (b ≤ a ∧ a ≤ c)) := by
  unfold impl_within.f
  by_cases h : b ≤ a <;> simp [h]
theorem laws_markIntS_l0 (xs : List Int) (a : Nat) (hm : a + xs.length ≤ 1099511627776) : ∀ (d n : Nat), n + d = xs.length → Ev (fun k => laws_markIntS.l0 k (marked (fun x => x) n a ++ xs.drop n) ((a + n : Nat) : Int) (n : Int)) (((a + xs.length : Nat) : Int), marked (fun x => x) xs.length a) := by
  intro d
  induction d with
  | zero =>
    intro n hn
    have e : n = xs.length := by omega
    subst e
    refine Ev.step (fun k => by rw [laws_markIntS.l0]) ?_
    refine ev_neg (by simp [marked_length]) (ev_now' ?_)
    rw [List.drop_length, List.append_nil]
  | succ d ih =>
    intro n hn
    refine Ev.step (fun k => by rw [laws_markIntS.l0]) ?_
    refine ev_pos (by simp [marked_length]; omega) (ev_pos (by omega) ?_)
    rw [w64 (by omega) (by omega), w64 (by omega) (by omega), Int.toNat_natCast]
    have e := set_mark (c := (fun x => x)) (a := a) (show n < xs.length by omega)
    rw [show (((a + n : Nat) : Int)) = (fun x => x) ((a + n : Nat) : Int) from rfl, e]
    exact ih (n + 1) (by omega)
theorem laws_markIntS_ev (xs : List Int) (a : Nat) (hm : a + xs.length ≤ 1099511627776) : Ev (fun k => laws_markIntS.f k xs (a : Int)) (((a + xs.length : Nat) : Int), marked (fun x => x) xs.length a) := by
  unfold laws_markIntS.f
  have h := laws_markIntS_l0 xs a hm xs.length 0 (by omega)
  simpa [marked] using h
theorem laws_heldIntS_l0 (m a : Nat) (hm : a + m ≤ 1099511627776) : ∀ (d n : Nat), n + d = m → Ev (fun k => laws_heldIntS.l0 k (marked (fun x => x) m a) ((a + n : Nat) : Int) (n : Int)) ((a + m : Nat) : Int) := by
  intro d
  induction d with
  | zero =>
    intro n hn
    have e : n = m := by omega
    subst e
    refine Ev.step (fun k => by rw [laws_heldIntS.l0]) ?_
    exact ev_neg (by simp [marked_length]) (ev_now _)
  | succ d ih =>
    intro n hn
    refine Ev.step (fun k => by rw [laws_heldIntS.l0]) ?_
    refine ev_pos (by rw [marked_length]; omega) (ev_pos (by omega) ?_)
    rw [rd_lt (by rw [marked_length]; omega), marked_get _ _ _ _ (by omega), w64 (by omega) (by omega), w64 (by omega) (by omega)]
    exact ev_pos rfl (ih (n + 1) (by omega))
theorem laws_heldIntS_ev (m a : Nat) (hm : a + m ≤ 1099511627776) : Ev (fun k => laws_heldIntS.f k (marked (fun x => x) m a) (a : Int)) ((a + m : Nat) : Int) := by
  unfold laws_heldIntS.f
  exact laws_heldIntS_l0 m a hm m 0 (by omega)

theorem pig : ∀ (s l : List Int), s.Nodup → (∀ x ∈ s, x ∈ l) → s.length ≤ l.length := by
  intro s
  induction s with
  | nil => intro l _ _; simp
  | cons x s ih =>
    intro l hn hs
    obtain ⟨h1, h2⟩ := List.nodup_cons.1 hn
    have hx := hs x (by simp)
    have := ih (l.erase x) h2 (fun y hy => (List.mem_erase_of_ne (fun e => h1 (by rw [← e]; exact hy))).2 (hs y (by simp [hy])))
    rw [List.length_erase_of_mem hx] at this
    have hp := List.length_pos_of_mem hx
    rw [List.length_cons]
    omega
def upI (k : Nat) : List Int := (List.range k).map fun (i : Nat) => (i : Int)
theorem upI_length (k : Nat) : (upI k).length = k := by simp [upI]
theorem upI_mem {k : Nat} {x : Int} : x ∈ upI k ↔ 0 ≤ x ∧ x < (k : Int) := by
  simp only [upI, List.mem_map, List.mem_range]
  constructor
  · rintro ⟨a, h1, h2⟩; omega
  · intro h; exact ⟨x.toNat, by omega, by omega⟩
theorem upI_nodup (k : Nat) : (upI k).Nodup := by
  induction k with
  | zero => exact List.Pairwise.nil
  | succ k ih =>
    have e : upI (k + 1) = upI k ++ [(k : Int)] := by simp [upI, List.range_succ]
    rw [e, List.nodup_append]
    refine ⟨ih, by simp, fun a ha b hb => ?_⟩
    rw [List.mem_singleton] at hb
    have := upI_mem.1 ha
    omega
theorem invGood_get {l : List Int} {j : Nat} (hj : j < l.length) : invGood l j = true ↔ (0 ≤ l[j] ∧ l[j] < (l.length : Int)) ∧ ¬ l[j] ∈ l.take j := by
  unfold invGood
  rw [List.getD_eq_getElem?_getD, List.getElem?_eq_getElem hj, Option.getD_some, Bool.and_eq_true, Bool.not_eq_true', decide_eq_true_iff, decide_eq_false_iff_not]
  constructor
  · rintro ⟨a, b⟩; exact ⟨by omega, b⟩
  · rintro ⟨a, b⟩; exact ⟨by omega, b⟩
theorem inv_all {l : List Int} (h : invOk l = true) : ∀ x : Int, 0 ≤ x → x < (l.length : Int) → x ∈ l := by
  have hg : ∀ j (hj : j < l.length), (0 ≤ l[j] ∧ l[j] < (l.length : Int)) ∧ ¬ l[j] ∈ l.take j := fun j hj => (invGood_get hj).1 (List.all_eq_true.1 h j (List.mem_range.2 hj))
  have hnd : l.Nodup := by
    refine List.pairwise_iff_getElem.2 fun i j hi hj hij e => ?_
    refine (hg j hj).2 ?_
    rw [← e]
    exact List.mem_iff_getElem.2 ⟨i, by rw [List.length_take]; omega, by rw [List.getElem_take]⟩
  intro x h0 h1
  rcases Classical.em (x ∈ l) with hx | hx
  · exact hx
  · exfalso
    have := pig (x :: l) (upI l.length) (List.nodup_cons.2 ⟨hx, hnd⟩) (fun y hy => by
      rcases List.mem_cons.1 hy with e | e
      · subst e; exact upI_mem.2 ⟨h0, h1⟩
      · obtain ⟨j, hj, e2⟩ := List.mem_iff_getElem.1 e
        subst e2
        exact upI_mem.2 (hg j hj).1)
    rw [upI_length, List.length_cons] at this
    omega
theorem inv_of_all {l : List Int} (h : ∀ x : Int, 0 ≤ x → x < (l.length : Int) → x ∈ l) : invOk l = true := by
  refine invOk_all fun j hj => ?_
  rcases Bool.eq_false_or_eq_true (invGood l j) with g | g
  · exact g
  · exfalso
    have g2 : ¬ ((0 ≤ l[j] ∧ l[j] < (l.length : Int)) ∧ ¬ l[j] ∈ l.take j) := fun q => by rw [(invGood_get hj).2 q] at g; cases g
    have hl : l = l.take j ++ l[j] :: l.drop (j + 1) := by rw [← List.drop_eq_getElem_cons hj, List.take_append_drop]
    have := pig (upI l.length) (l.take j ++ l.drop (j + 1)) (upI_nodup _) (fun x hx => by
      have hx' := upI_mem.1 hx
      have hm := h x hx'.1 hx'.2
      rw [hl] at hm
      rcases List.mem_append.1 hm with e | e
      · exact List.mem_append.2 (Or.inl e)
      · rcases List.mem_cons.1 e with e | e
        · refine List.mem_append.2 (Or.inl ?_)
          rcases Classical.em (l[j] ∈ l.take j) with q | q
          · rw [e]; exact q
          · exact absurd ⟨⟨by omega, by omega⟩, q⟩ g2
        · exact List.mem_append.2 (Or.inr e))
    rw [upI_length, List.length_append, List.length_take, List.length_drop] at this
    omega
/-- the last of the first q places that holds x, or -1 -/
def lastI (l : List Int) : Nat → Int → Int
  | 0, _ => -1
  | q + 1, x => if l.getD q 0 = x then (q : Int) else lastI l q x
theorem lastI_range (l : List Int) (x : Int) : ∀ q : Nat, -1 ≤ lastI l q x ∧ lastI l q x < (q : Int) := by
  intro q
  induction q with
  | zero => rw [lastI]; omega
  | succ q ih => rw [lastI]; split <;> omega
theorem lastI_mem (l : List Int) (x : Int) : ∀ q : Nat, q ≤ l.length → (0 ≤ lastI l q x ↔ x ∈ l.take q) := by
  intro q
  induction q with
  | zero => intro _; rw [lastI]; simp
  | succ q ih =>
    intro h
    have hlt : q < l.length := by omega
    rw [lastI, take_snoc' hlt, List.mem_append, List.mem_singleton, List.getD_eq_getElem?_getD, List.getElem?_eq_getElem hlt, Option.getD_some]
    by_cases e : l[q] = x
    · rw [if_pos e]; constructor
      · intro _; exact Or.inr e.symm
      · intro _; omega
    · rw [if_neg e, ih (by omega)]; constructor
      · exact Or.inl
      · rintro (g | g)
        · exact g
        · exact absurd g.symm e
def invT (l : List Int) : List Int := tab l.length fun x => lastI l l.length (x : Int)
theorem spec_Inverse_l1_ev (l acc : List Int) (hm : l.length ≤ 301) (x : Nat) (hx : x < l.length) (ha : acc.length ≤ 301) (R : List Int × Bool)
    (h : (lastI l l.length (x : Int) < 0 → R = ([], false)) ∧ (¬ lastI l l.length (x : Int) < 0 → Ev (fun k => spec_Inverse.l0 k l (acc ++ [lastI l l.length (x : Int)]) ((x + 1 : Nat) : Int)) R)) : ∀ (d i : Nat), i + d = l.length → Ev (fun k => spec_Inverse.l1 k l acc (x : Int) (lastI l i (x : Int)) (i : Int)) R := by
  intro d
  induction d with
  | zero =>
    intro i hi
    have e : i = l.length := by omega
    subst e
    refine Ev.step (fun k => by rw [spec_Inverse.l1]) (ev_neg (by omega) (ev_ite (fun g => ?_) (fun g => ev_pos (by omega) ?_)))
    · rw [h.1 g]; exact ev_now _
    · rw [w64 (by omega) (by omega)]
      exact h.2 g
  | succ d ih =>
    intro i hi
    have hlt : i < l.length := by omega
    have hq := ih (i + 1) (by omega)
    rw [lastI, List.getD_eq_getElem?_getD, List.getElem?_eq_getElem hlt, Option.getD_some] at hq
    refine Ev.step (fun k => by rw [spec_Inverse.l1]) (ev_pos (by omega) (ev_pos (by omega) ?_))
    rw [rd_lt hlt, w64 (by omega) (by omega)]
    refine ev_ite (fun e => ?_) (fun e => ?_)
    · rw [if_pos e] at hq; exact hq
    · rw [if_neg e] at hq; exact hq
theorem spec_Inverse_l0_ev (l : List Int) (hm : l.length ≤ 301) (R : List Int × Bool) : ∀ (d x : Nat), x + d = l.length → ((∀ y : Nat, x ≤ y → y < l.length → 0 ≤ lastI l l.length (y : Int)) → R = (invT l, true)) → ((∃ y : Nat, x ≤ y ∧ y < l.length ∧ lastI l l.length (y : Int) < 0) → R = ([], false)) →
    Ev (fun k => spec_Inverse.l0 k l (tab x fun x => lastI l l.length (x : Int)) (x : Int)) R := by
  intro d
  induction d with
  | zero =>
    intro x hx h1 h2
    have e : x = l.length := by omega
    subst e
    rw [h1 (fun y h1 h2 => by omega)]
    refine Ev.step (fun k => by rw [spec_Inverse.l0]) ?_
    exact ev_neg (by omega) (ev_now _)
  | succ d ih =>
    intro x hx h1 h2
    have hlt : x < l.length := by omega
    refine Ev.step (fun k => by rw [spec_Inverse.l0]) (ev_pos (by omega) ?_)
    refine spec_Inverse_l1_ev l _ hm x hlt (by rw [tab_length]; omega) _ ⟨fun g => h2 ⟨x, Nat.le_refl _, hlt, g⟩, fun g => ?_⟩ l.length 0 (by omega)
    have h := ih (x + 1) (by omega) (fun q => h1 (fun y k1 k2 => by
      by_cases e : y = x
      · subst e; omega
      · exact q y (by omega) k2)) (fun q => by
      obtain ⟨y, k1, k2, k3⟩ := q
      exact h2 ⟨y, by omega, k2, k3⟩)
    rw [tab_succ] at h
    exact h
def invR (l : List Int) : List Int × Bool := if invOk l = true then (if l.length > 301 then ([], false) else (invT l, true)) else ([], false)
theorem inv_iff (l : List Int) : (∀ y : Nat, 0 ≤ y → y < l.length → 0 ≤ lastI l l.length (y : Int)) ↔ invOk l = true := by
  constructor
  · intro h
    refine inv_of_all fun x h0 h1 => ?_
    have := (lastI_mem l x l.length (Nat.le_refl _)).1 (by
      have := h x.toNat (by omega) (by omega)
      rwa [Int.toNat_of_nonneg h0] at this)
    rwa [List.take_length] at this
  · intro h y _ hy
    refine (lastI_mem l (y : Int) l.length (Nat.le_refl _)).2 ?_
    rw [List.take_length]
    exact inv_all h _ (by omega) (by omega)
theorem spec_Inverse_ev (l : List Int) : Ev (fun k => spec_Inverse.f k l) (invR l) := by
  unfold spec_Inverse.f invR
  refine ev_ite (fun h => ev_now' ?_) (fun h => ?_)
  · split
    · rw [if_pos (by omega)]
    · rfl
  · refine spec_Inverse_l0_ev l (by omega) _ l.length 0 (by omega) (fun q => ?_) (fun q => ?_)
    · rw [if_pos ((inv_iff l).1 q), if_neg (by omega)]
    · obtain ⟨y, k1, k2, k3⟩ := q
      rw [if_neg (fun g => by have := (inv_iff l).2 g y k1 k2; omega)]
theorem impl_inverse_l0_ev (l : List Int) (hm : l.length ≤ 301) (hin : ∀ y ∈ l, 0 ≤ y ∧ y < (l.length : Int)) : ∀ (d q : Nat), q + d = l.length → Ev (fun k => impl_inverse.l0 k (tab l.length fun x => if lastI l q (x : Int) < 0 then 0 else lastI l q (x : Int)) l (l.length : Int) (q : Int)) (tab l.length fun x => if lastI l l.length (x : Int) < 0 then 0 else lastI l l.length (x : Int)) := by
  intro d
  induction d with
  | zero =>
    intro q hq
    have e : q = l.length := by omega
    subst e
    exact Ev.step (fun k => by rw [impl_inverse.l0]) (ev_neg (by omega) (ev_now _))
  | succ d ih =>
    intro q hq
    have hlt : q < l.length := by omega
    have hv := hin _ (List.getElem_mem hlt)
    refine Ev.step (fun k => by rw [impl_inverse.l0]) (ev_pos (by omega) (ev_pos (by omega) (ev_pos (by omega) ?_)))
    rw [rd_lt hlt, w64 (by omega) (by omega)]
    refine ev_pos (by omega) (ev_pos (by rw [tab_length]; omega) ?_)
    rw [tab_set]
    refine Ev.congr (fun k => ?_) (ih (q + 1) (by omega))
    congr 1
    apply tab_congr
    intro j hj
    rw [lastI, List.getD_eq_getElem?_getD, List.getElem?_eq_getElem hlt, Option.getD_some]
    by_cases e : j = l[q].toNat
    · have e2 : l[q] = (j : Int) := by omega
      rw [if_pos e]
      simp only [if_pos e2]
      rw [if_neg (by omega)]
    · have e2 : ¬ l[q] = (j : Int) := by omega
      rw [if_neg e]
      simp only [if_neg e2]
theorem impl_Inverse_ev (l : List Int) : Ev (fun k => impl_Inverse.f k l) (invR l) := by
  unfold impl_Inverse.f invR
  refine ev_ite (fun h => ?_) (fun h => ev_now' (by rw [if_neg h]))
  rw [if_pos h]
  refine ev_ite (fun h3 => ev_now' (by rw [if_pos (by omega)])) (fun h3 => ?_)
  rw [if_neg (by omega)]
  have hin : ∀ y ∈ l, 0 ≤ y ∧ y < (l.length : Int) := fun y hy => by
    obtain ⟨j, hj, e⟩ := List.mem_iff_getElem.1 hy
    subst e
    exact ((invGood_get hj).1 (List.all_eq_true.1 h j (List.mem_range.2 hj))).1
  have hv : Ev (fun k => impl_inverse.f k l) (invT l) := by
    unfold impl_inverse.f
    refine ev_pos (by omega) (ev_pos (by omega) ?_)
    have hq := impl_inverse_l0_ev l (by omega) hin l.length 0 (by omega)
    rw [Int.toNat_natCast, tab_zero _ (fun x => if lastI l 0 (x : Int) < 0 then 0 else lastI l 0 (x : Int)) (fun i hi => by rw [lastI, if_pos (by omega)])]
    refine ev_eq hq (tab_congr fun j hj => ?_)
    have := (inv_iff l).2 h j (by omega) hj
    rw [if_neg (by omega)]
  exact ev_bind hv (ev_now _)
theorem invR_length (l : List Int) : (invR l).1.length ≤ l.length := by
  unfold invR
  split
  · split
    · simp
    · unfold invT; rw [tab_length]; exact Nat.le_refl _
  · simp
theorem FnExactInverse : laws_FnExactInverse.Pure := by
  intro l hl _ hw
  refine Ev.rounds ?_
  unfold laws_FnExactInverse.f
  refine ev_ite (fun _ => ev_now _) (fun h => ?_)
  have hm : l.length ≤ 35184372088832 := by omega
  have hs := spec_Inverse_ev l
  have hi := impl_Inverse_ev l
  have hlen := invR_length l
  generalize invR l = R at *
  obtain ⟨out, ok⟩ := R
  have ho : out.length ≤ l.length := hlen
  have hml : (1 : Nat) + l.length ≤ 1099511627776 := by omega
  have hmo : (1 : Nat) + out.length ≤ 1099511627776 := by omega
  have hq := laws_eqIntS_ev out out (by omega)
  have hj2 : Ev (fun k => laws_FnExactInverse.j2 k (marked (fun x => x) out.length 1) ((1 + out.length : Nat) : Int) false) true := by
    refine Ev.step (fun k => by rw [laws_FnExactInverse.j2]) (ev_neg (by decide) ?_)
    exact ev_bind (laws_heldIntS_ev out.length 1 hmo) (ev_neg (by omega) (ev_pos rfl (ev_now _)))
  have hj1 : Ev (fun k => laws_FnExactInverse.j1 k l out ok out false) true := by
    refine Ev.step (fun k => by rw [laws_FnExactInverse.j1]) (ev_neg (by decide) ?_)
    refine ev_bind (laws_markIntS_ev out 1 hmo) (ev_bind (laws_heldIntS_ev out.length 1 hmo) (ev_neg (by omega) (ev_pos rfl ?_)))
    refine ev_bind (laws_toIntS_ev l hm) (ev_bind hi (ev_bind hq (ev_pos (by simp) ?_)))
    rw [show (ok != ok) = false by simp]
    exact hj2
  have hj0 : Ev (fun k => laws_FnExactInverse.j0 k l out ok l out ok false) true := by
    refine Ev.step (fun k => by rw [laws_FnExactInverse.j0]) (ev_neg (by decide) ?_)
    refine ev_bind (laws_toIntS_ev l hm) (ev_bind (laws_eqIntS_ev l l (by omega)) (ev_pos (by simp) ?_))
    refine ev_bind (laws_markIntS_ev l 1 hml) (ev_neg (by omega) (ev_bind hq (ev_pos (by simp) ?_)))
    rw [show (ok != ok) = false by simp]
    exact hj1
  refine ev_bind (laws_toIntS_ev l hm) (ev_bind hs (ev_bind (laws_toIntS_ev l hm) (ev_bind hi (ev_bind hq (ev_pos (by simp) ?_)))))
  rw [show (ok != ok) = false by simp]
  exact hj0

end Go.Proofs.Ytmjjnhnclebaiaa.Pure
