/- The pure statement of the law FnExactHuffLens: the program's code lengths are the reference's, for all arguments within the row's bounds. -/
import Derived.Test.YtindkfapbgmjgaaQFnExactHuffLensx7
import Derived.Test.YtindkfapbgmjgaaLib
namespace Go.Proofs.Ytindkfapbgmjgaa.Pure
open Go.RowKit Go.Proofs.Ytindkfapbgmjgaa.QFnExactHuffLens Go.Proofs.Ytindkfapbgmjgaa.Lib Go.Proofs.YtindkfapbgmjgaaW.PrintWords Go.Proofs.YtindkfapbgmjgaaW.PrintLast Go.Proofs.YtindkfapbgmjgaaW.PrintMore
set_option linter.unusedVariables false
set_option linter.unusedSimpArgs false

theorem laws_toIntS_l0 (xs : List Int) (hm : xs.length ≤ 35184372088832) : ∀ (d n : Nat) (out : List Int), n + d = xs.length → out.length = xs.length → (∀ j, j < n → out[j]? = xs[j]?) → Ev (fun k => laws_toIntS.l0 k xs out (n : Int)) xs := by
  intro d
  induction d with
  | zero =>
    intro n out hn hl ho
    refine Ev.step (fun k => by rw [laws_toIntS.l0]) ?_
    refine ev_neg (by omega) (ev_now' ?_)
    apply List.ext_getElem? ; intro j
    by_cases hj : j < n
    · exact ho j hj
    · rw [List.getElem?_eq_none (by omega), List.getElem?_eq_none (by omega)]
  | succ d ih =>
    intro n out hn hl ho
    refine Ev.step (fun k => by rw [laws_toIntS.l0]) ?_
    refine ev_pos (by omega) (ev_pos (by omega) (ev_pos (by omega) ?_))
    rw [w64 (by omega) (by omega)]
    refine ih (n + 1) _ (by omega) (by simp [hl]) ?_
    intro j hj
    rw [Int.toNat_natCast, List.getElem?_set, rd_lt (by omega)]
    by_cases e : n = j
    · subst e; rw [if_pos rfl, if_pos (by omega), List.getElem?_eq_getElem (by omega)]
    · rw [if_neg e]; exact ho j (by omega)
theorem laws_toIntS_ev (xs : List Int) (hm : xs.length ≤ 35184372088832) : Ev (fun k => laws_toIntS.f k xs) xs := by
  unfold laws_toIntS.f
  refine ev_pos (by omega) (ev_pos (by omega) ?_)
  exact laws_toIntS_l0 xs hm xs.length 0 _ (by omega) (by simp) (by simp)
theorem laws_eqIntS_l0 (xs ys : List Int) (hl : xs.length = ys.length) (hm : xs.length ≤ 140737488355328) : ∀ (d n : Nat), n + d = xs.length → Ev (fun k => laws_eqIntS.l0 k xs ys (n : Int)) (decide (xs.drop n = ys.drop n)) := by
  intro d
  induction d with
  | zero =>
    intro n hn
    refine Ev.step (fun k => by rw [laws_eqIntS.l0]) ?_
    refine ev_neg (by omega) (ev_now' ?_)
    rw [List.drop_eq_nil_of_le (by omega), List.drop_eq_nil_of_le (by omega)]; rfl
  | succ d ih =>
    intro n hn
    refine Ev.step (fun k => by rw [laws_eqIntS.l0]) ?_
    refine ev_pos (by omega) (ev_pos (by omega) (ev_pos (by omega) ?_))
    rw [rd_lt (by omega), rd_lt (by omega), w64 (by omega) (by omega)]
    rw [List.drop_eq_getElem_cons (show n < xs.length by omega), List.drop_eq_getElem_cons (show n < ys.length by omega)]
    refine ev_ite (fun h => ev_eq (ih (n + 1) (by omega)) ?_) (fun h => ev_now' ?_)
    · simp only [List.cons.injEq, h, true_and]
    · exact (decide_eq_false (fun e => h (List.cons.inj e).1)).symm
theorem laws_eqIntS_ev (xs ys : List Int) (hm : xs.length ≤ 140737488355328) : Ev (fun k => laws_eqIntS.f k xs ys) (decide (xs = ys)) := by
  unfold laws_eqIntS.f
  refine ev_ite (fun h => ?_) (fun h => ev_now' ?_)
  · exact laws_eqIntS_l0 xs ys (by omega) hm xs.length 0 (by omega)
  · exact (decide_eq_false (fun e => h (by rw [e]))).symm
theorem laws_markIntS_l0 (xs : List Int) (a : Nat) (hm : a + xs.length ≤ 1099511627776) : ∀ (d n : Nat), n + d = xs.length → Ev (fun k => laws_markIntS.l0 k (marked (fun x => x) n a ++ xs.drop n) ((a + n : Nat) : Int) (n : Int)) (((a + xs.length : Nat) : Int), marked (fun x => x) xs.length a) := by
  intro d
  induction d with
  | zero =>
    intro n hn
    have e : n = xs.length := by omega
    subst e
    refine Ev.step (fun k => by rw [laws_markIntS.l0]) ?_
    refine ev_neg (by simp [marked_length]) (ev_now' ?_)
    rw [List.drop_length, List.append_nil]
  | succ d ih =>
    intro n hn
    refine Ev.step (fun k => by rw [laws_markIntS.l0]) ?_
    refine ev_pos (by simp [marked_length]; omega) (ev_pos (by omega) ?_)
    rw [w64 (by omega) (by omega), w64 (by omega) (by omega), Int.toNat_natCast]
    have e := set_mark (c := (fun x => x)) (a := a) (show n < xs.length by omega)
    rw [show (((a + n : Nat) : Int)) = (fun x => x) ((a + n : Nat) : Int) from rfl, e]
    exact ih (n + 1) (by omega)
theorem laws_markIntS_ev (xs : List Int) (a : Nat) (hm : a + xs.length ≤ 1099511627776) : Ev (fun k => laws_markIntS.f k xs (a : Int)) (((a + xs.length : Nat) : Int), marked (fun x => x) xs.length a) := by
  unfold laws_markIntS.f
  have h := laws_markIntS_l0 xs a hm xs.length 0 (by omega)
  simpa [marked] using h
theorem laws_heldIntS_l0 (m a : Nat) (hm : a + m ≤ 1099511627776) : ∀ (d n : Nat), n + d = m → Ev (fun k => laws_heldIntS.l0 k (marked (fun x => x) m a) ((a + n : Nat) : Int) (n : Int)) ((a + m : Nat) : Int) := by
  intro d
  induction d with
  | zero =>
    intro n hn
    have e : n = m := by omega
    subst e
    refine Ev.step (fun k => by rw [laws_heldIntS.l0]) ?_
    exact ev_neg (by simp [marked_length]) (ev_now _)
  | succ d ih =>
    intro n hn
    refine Ev.step (fun k => by rw [laws_heldIntS.l0]) ?_
    refine ev_pos (by rw [marked_length]; omega) (ev_pos (by omega) ?_)
    rw [rd_lt (by rw [marked_length]; omega), marked_get _ _ _ _ (by omega), w64 (by omega) (by omega), w64 (by omega) (by omega)]
    exact ev_pos rfl (ih (n + 1) (by omega))
theorem laws_heldIntS_ev (m a : Nat) (hm : a + m ≤ 1099511627776) : Ev (fun k => laws_heldIntS.f k (marked (fun x => x) m a) (a : Int)) ((a + m : Nat) : Int) := by
  unfold laws_heldIntS.f
  exact laws_heldIntS_l0 m a hm m 0 (by omega)
def allCounts (l : List Int) : Bool := l.all fun a => decide (0 ≤ a ∧ a ≤ 1000000)
theorem spec_l08Counts_l0 (xs : List Int) (hm : xs.length ≤ 300) : ∀ (d n : Nat), n + d = xs.length → Ev (fun k => spec_l08Counts.l0 k xs (n : Int)) (allCounts (xs.drop n)) := by
  intro d
  induction d with
  | zero =>
    intro n hn
    refine Ev.step (fun k => by rw [spec_l08Counts.l0]) ?_
    refine ev_neg (by omega) (ev_now' ?_)
    rw [List.drop_eq_nil_of_le (by omega)]; rfl
  | succ d ih =>
    intro n hn
    have hlt : n < xs.length := by omega
    refine Ev.step (fun k => by rw [spec_l08Counts.l0]) ?_
    rw [rd_lt hlt, List.drop_eq_getElem_cons hlt, w64 (by omega) (by omega)]
    have e : allCounts (xs[n] :: xs.drop (n + 1)) = (decide (0 ≤ xs[n] ∧ xs[n] ≤ 1000000) && allCounts (xs.drop (n + 1))) := by unfold allCounts; rw [List.all_cons]
    rw [e]
    refine ev_pos (by omega) (ev_pos (by omega) ?_)
    refine ev_ite (fun h => ev_now' (by rw [decide_eq_false (by omega)]; rfl)) (fun h => ev_ite (fun h1 => ev_now' (by rw [decide_eq_false (by omega)]; rfl)) (fun h1 => ?_))
    rw [decide_eq_true (by omega), Bool.true_and]
    exact ih (n + 1) (by omega)
theorem spec_l08Counts_ev (xs : List Int) : Ev (fun k => spec_l08Counts.f k xs) (decide (xs.length ≤ 300) && allCounts xs) := by
  unfold spec_l08Counts.f
  refine ev_ite (fun h => ev_now' (by rw [decide_eq_false (by omega)]; rfl)) (fun h => ?_)
  rw [decide_eq_true (by omega), Bool.true_and]
  exact spec_l08Counts_l0 xs (by omega) xs.length 0 (by omega)
theorem impl_within_f (a b c : Int) : impl_within.f a b c = some (decide (b ≤ a ∧ a ≤ c)) := by
  unfold impl_within.f
  by_cases h : b ≤ a <;> simp [h]
theorem impl_isCount_f (a : Int) : impl_isCount.f a = some (decide (0 ≤ a ∧ a ≤ 1000000)) := by
  unfold impl_isCount.f
  rw [impl_within_f]; rfl
theorem slices_Grow_f (a : Int) (h0 : 0 ≤ a) (h : a ≤ 1000000000) : slices_Grow_int_int.f a = some [] := by
  unfold slices_Grow_int_int.f
  have e : wrap64 (a - wrap64 (-(([] : List Int).length : Int))) = a := by
    rw [List.length_nil, w64 (n := -((0 : Nat) : Int)) (by omega) (by omega), w64 (by omega) (by omega)]
    omega
  rw [e, if_neg (by omega)]
  by_cases h1 : a > 0
  · rw [if_pos h1, if_pos h0, if_pos (by rw [List.length_nil]; omega), Option.bind_some, if_pos (by rw [List.length_nil]; omega), if_pos (by rw [List.length_nil]; omega)]
    rfl
  · rw [if_neg h1]
theorem slices_Concat_ev (a b : List Int) (ha : a.length ≤ 1000000) (hb : b.length ≤ 1000000) : Ev (fun k => slices_Concat_int_int.f k [a, b]) (a ++ b) := by
  unfold slices_Concat_int_int.f
  have l2 : (([a, b] : List (List Int)).length : Int) = 2 := rfl
  have r0 : rd_L1 [a, b] 0 = a := rfl
  have r1 : rd_L1 [a, b] 1 = b := rfl
  refine Ev.step (fun k => by rw [slices_Concat_int_int.l0]) ?_
  rw [l2, r0]
  rw [w64 (n := 0 + (a.length : Int)) (by omega) (by omega), w64 (n := (0 : Int) + 1) (by omega) (by omega)]
  refine ev_pos (by omega) (ev_pos (by omega) (ev_pos (by omega) (ev_neg (by omega) ?_)))
  refine Ev.step (fun k => by rw [slices_Concat_int_int.l0]) ?_
  rw [l2, show (0 : Int) + 1 = 1 from rfl, r1]
  rw [w64 (n := 0 + (a.length : Int) + (b.length : Int)) (by omega) (by omega), w64 (n := (1 : Int) + 1) (by omega) (by omega)]
  refine ev_pos (by omega) (ev_pos (by omega) (ev_pos (by omega) (ev_neg (by omega) ?_)))
  refine Ev.step (fun k => by rw [slices_Concat_int_int.l0]) ?_
  refine ev_neg (by omega) (ev_some (slices_Grow_f _ (by omega) (by omega)) ?_)
  refine Ev.step (fun k => by rw [slices_Concat_int_int.l1]) ?_
  rw [l2, r0, w64 (n := (0 : Int) + 1) (by omega) (by omega)]
  refine ev_pos (by omega) (ev_pos (by omega) (ev_pos (by omega) (ev_pos (by rw [List.length_nil]; omega) ?_)))
  refine Ev.step (fun k => by rw [slices_Concat_int_int.l1]) ?_
  rw [l2, show (0 : Int) + 1 = 1 from rfl, r1, w64 (n := (1 : Int) + 1) (by omega) (by omega)]
  refine ev_pos (by omega) (ev_pos (by omega) (ev_pos (by omega) (ev_pos (by rw [List.nil_append]; omega) ?_)))
  refine Ev.step (fun k => by rw [slices_Concat_int_int.l1]) ?_
  exact ev_neg (by omega) (ev_now' (by rw [List.nil_append]))
theorem allO_all (p : Int → Option Bool) (q : Int → Bool) (h : ∀ x, p x = some (q x)) (l : List Int) : allO p l = some (l.all q) := by
  induction l with
  | nil => rfl
  | cons x l ih =>
    rw [allO, h x, Option.bind_some]
    cases hq : q x
    · simp [hq]
    · rw [if_pos rfl, ih]; simp [hq]
theorem impl_areAll_isCount_f (l : List Int) : impl_areAll_isCount.f l = some (l.all fun a => decide (0 ≤ a ∧ a ≤ 1000000)) := allO_all _ _ impl_isCount_f l

/-- weights, and what the program keeps of a tree -/
def wsG (G : List S42) : List Int := G.map (·.f0)
def projG (G : List S42) : List S47 := G.map fun x => ⟨x.f0, x.f2⟩
def bestGo (ws : List Int) : Nat → Nat → Nat → Nat
  | 0, _, b => b
  | d + 1, i, b => bestGo ws d (i + 1) (if ws.getD i 0 < ws.getD b 0 then i else b)
def bestOf (ws : List Int) : Nat := bestGo ws ws.length 0 0
theorem bestGo_lt (ws : List Int) : ∀ d i b, i + d ≤ ws.length → b < ws.length → bestGo ws d i b < ws.length := by
  intro d
  induction d with
  | zero => intro i b _ hb; exact hb
  | succ d ih =>
    intro i b hi hb
    rw [bestGo]
    refine ih _ _ (by omega) ?_
    split <;> omega
theorem bestOf_lt {ws : List Int} (h : 0 < ws.length) : bestOf ws < ws.length := bestGo_lt ws _ 0 0 (by omega) h
theorem rdT47_lt {xs : List S47} {n : Nat} (h : n < xs.length) : rd_T47 xs (n : Int) = xs[n] := by simp [rd_T47, h]
theorem rdT42_lt {xs : List S42} {n : Nat} (h : n < xs.length) : rd_T42 xs (n : Int) = xs[n] := by simp [rd_T42, h]
theorem projG_length (G : List S42) : (projG G).length = G.length := by unfold projG; rw [List.length_map]
theorem projG_get (G : List S42) (i : Nat) (h : i < G.length) : rd_T47 (projG G) (i : Int) = ⟨(rd_T42 G (i : Int)).f0, (rd_T42 G (i : Int)).f2⟩ := by
  rw [rdT47_lt (by rw [projG_length]; exact h), rdT42_lt h]
  simp [projG]
theorem wsG_get (G : List S42) (i : Nat) (h : i < G.length) : (wsG G).getD i 0 = (rd_T42 G (i : Int)).f0 := by
  rw [rdT42_lt h]
  simp [wsG, h]
theorem wsG_length (G : List S42) : (wsG G).length = G.length := by unfold wsG; rw [List.length_map]
theorem projG_erase (G : List S42) (b : Nat) : (projG G).eraseIdx b = projG (G.eraseIdx b) := by
  unfold projG
  rw [List.eraseIdx_eq_take_drop_succ, List.eraseIdx_eq_take_drop_succ, List.map_append, List.map_take, List.map_drop]
theorem impl_lightest_l0 (G : List S42) (hm : G.length ≤ 1000000) : ∀ d i b, i + d = G.length → b < G.length → Ev (fun k => impl_lightest.l0 k (projG G) (b : Int) (projG G) (G.length : Int) (i : Int)) ((rd_T42 G (bestGo (wsG G) d i b : Nat)).f0, (rd_T42 G (bestGo (wsG G) d i b : Nat)).f2, projG (G.eraseIdx (bestGo (wsG G) d i b))) := by
  have hl := projG_length G
  intro d
  induction d with
  | zero =>
    intro i b hi hb
    refine Ev.step (fun k => by rw [impl_lightest.l0]) (ev_neg (by omega) (ev_pos (by omega) (ev_pos (by omega) ?_)))
    refine ev_some rfl (ev_now' ?_)
    rw [projG_get G b hb, Int.toNat_natCast, projG_erase]
    rfl
  | succ d ih =>
    intro i b hi hb
    have hil : i < G.length := by omega
    refine Ev.step (fun k => by rw [impl_lightest.l0]) (ev_pos (by omega) (ev_pos (by omega) (ev_pos (by omega) (ev_pos (by omega) (ev_pos (by omega) ?_)))))
    rw [w64 (n := (i : Int) + 1) (by omega) (by omega), show (i : Int) + 1 = ((i + 1 : Nat) : Int) by omega]
    rw [bestGo, wsG_get G i hil, wsG_get G b hb, projG_get G i hil, projG_get G b hb]
    refine ev_ite (fun h => ?_) (fun h => ?_)
    · rw [if_pos h]; exact ih (i + 1) i (by omega) hil
    · rw [if_neg h]; exact ih (i + 1) b (by omega) hb
theorem impl_lightest_ev (G : List S42) (hm : G.length ≤ 1000000) (h : 0 < G.length) : Ev (fun k => impl_lightest.f k (projG G)) ((rd_T42 G (bestOf (wsG G) : Nat)).f0, (rd_T42 G (bestOf (wsG G) : Nat)).f2, projG (G.eraseIdx (bestOf (wsG G)))) := by
  have := impl_lightest_l0 G hm G.length 0 0 (by omega) h
  unfold impl_lightest.f bestOf
  rw [wsG_length, projG_length]
  exact this
theorem spec_l08Least_l0 (G : List S42) (hm : G.length ≤ 1000000) (hp : G.Pairwise (fun a b => a.f1 < b.f1)) : ∀ d i b, i + d = G.length → b < G.length → b ≤ i → Ev (fun k => spec_l08Least.l0 k G (b : Int) (i : Int)) ((bestGo (wsG G) d i b : Nat) : Int) := by
  intro d
  induction d with
  | zero =>
    intro i b hi hb _
    refine Ev.step (fun k => by rw [spec_l08Least.l0]) ?_
    exact ev_neg (by omega) (ev_now' rfl)
  | succ d ih =>
    intro i b hi hb hbi
    have hil : i < G.length := by omega
    refine Ev.step (fun k => by rw [spec_l08Least.l0]) (ev_pos (by omega) (ev_pos (by omega) (ev_pos (by omega) (ev_pos (by omega) ?_))))
    rw [w64 (n := (i : Int) + 1) (by omega) (by omega), show (i : Int) + 1 = ((i + 1 : Nat) : Int) by omega]
    rw [bestGo, wsG_get G i hil, wsG_get G b hb]
    refine ev_ite (fun h => ?_) (fun h => ?_)
    · rw [if_pos h]; exact ih (i + 1) i (by omega) hil (by omega)
    · rw [if_neg h]
      have hn : ¬ (rd_T42 G (i : Int)).f1 < (rd_T42 G (b : Int)).f1 := by
        rw [rdT42_lt hil, rdT42_lt hb]
        rcases Nat.lt_or_ge b i with hlt | hge
        · have := List.pairwise_iff_getElem.1 hp b i hb hil hlt
          omega
        · have e : b = i := by omega
          subst e; omega
      refine ev_ite (fun _ => ev_neg hn ?_) (fun _ => ?_)
      · exact ih (i + 1) b (by omega) hb (by omega)
      · exact ih (i + 1) b (by omega) hb (by omega)
theorem spec_l08Least_ev (G : List S42) (hm : G.length ≤ 1000000) (hp : G.Pairwise (fun a b => a.f1 < b.f1)) (h : 0 < G.length) : Ev (fun k => spec_l08Least.f k G) ((bestOf (wsG G) : Nat) : Int) := by
  have := spec_l08Least_l0 G hm hp G.length 0 0 (by omega) h (Nat.le_refl _)
  unfold spec_l08Least.f bestOf
  rw [wsG_length]
  exact this
theorem spec_l08Without_f (G : List S42) (a : Nat) (ha : a < G.length) (hm : G.length ≤ 1000000) : spec_l08Without.f G (a : Int) = some (G.eraseIdx a) := by
  unfold spec_l08Without.f
  rw [Option.bind_some, if_pos (by omega), if_pos (by omega), Option.bind_some, if_pos (by rw [List.length_nil, List.length_take]; omega), Option.bind_some, w64 (n := (a : Int) + 1) (by omega) (by omega), if_pos (by omega), if_pos (by omega), Option.bind_some, if_pos (by rw [List.nil_append, List.length_take, List.length_drop]; omega), List.nil_append, List.eraseIdx_eq_take_drop_succ, Int.toNat_natCast, show ((a : Int) + 1).toNat = a + 1 by omega]
def incAll : List Int → List Int → List Int
  | [], o => o
  | s :: l, o => incAll l (o.set s.toNat (wrap64 (rd o s + 1)))
theorem incAll_length : ∀ (l o : List Int), (incAll l o).length = o.length
  | [], _ => rfl
  | s :: l, o => by rw [incAll, incAll_length l, List.length_set]
theorem spec_HuffLens_l2 (G : List S42) (nx : Int) (ss : List Int) (p0 p1 q0 q1 : Int) (p2 q2 : List Int) (n : Nat) (r : List Int → List Int) (hG : G.length ≤ 1000000) (hn : n ≤ 1000000) (hs : ss.length ≤ 1000000) (hss : ∀ s ∈ ss, 0 ≤ s ∧ s < (n : Int))
    (hnext : ∀ o : List Int, o.length = n → Ev (fun k => spec_HuffLens.l1 k o (G ++ [⟨wrap64 (p0 + q0), nx, ss⟩]) (wrap64 (nx + 1))) (r o)) : ∀ (d i : Nat) (out : List Int), i + d = ss.length → out.length = n → Ev (fun k => spec_HuffLens.l2 k out G nx ss (i : Int) p0 p1 p2 q0 q1 q2) (r (incAll (ss.drop i) out)) := by
  intro d
  induction d with
  | zero =>
    intro i out hi ho
    refine Ev.step (fun k => by rw [spec_HuffLens.l2]) (ev_neg (by omega) (ev_pos (by omega) ?_))
    rw [List.drop_eq_nil_of_le (by omega)]
    exact hnext out ho
  | succ d ih =>
    intro i out hi ho
    have hil : i < ss.length := by omega
    have h1 := hss ss[i] (List.getElem_mem hil)
    refine Ev.step (fun k => by rw [spec_HuffLens.l2]) ?_
    rw [rd_lt hil, w64 (n := (i : Int) + 1) (by omega) (by omega), show (i : Int) + 1 = ((i + 1 : Nat) : Int) by omega, List.drop_eq_getElem_cons hil, incAll]
    refine ev_pos (by omega) (ev_pos (by omega) (ev_pos (by omega) (ev_pos (by omega) ?_)))
    exact ih (i + 1) _ (by omega) (by rw [List.length_set]; exact ho)
theorem impl_HuffLens_l2 (F : List S47) (ss : List Int) (p0 : Int) (n : Nat) (r : List Int → List Int) (hG : F.length ≤ 1000000) (hn : n ≤ 1000000) (hs : ss.length ≤ 1000000) (hss : ∀ s ∈ ss, 0 ≤ s ∧ s < (n : Int))
    (hnext : ∀ o : List Int, o.length = n → Ev (fun k => impl_HuffLens.l1 k o (F ++ [⟨p0, ss⟩])) (r o)) : ∀ (d i : Nat) (out : List Int), i + d = ss.length → out.length = n → Ev (fun k => impl_HuffLens.l2 k out F ss (ss.length : Int) (i : Int) p0 ss) (r (incAll (ss.drop i) out)) := by
  intro d
  induction d with
  | zero =>
    intro i out hi ho
    refine Ev.step (fun k => by rw [impl_HuffLens.l2]) (ev_neg (by omega) (ev_pos (by omega) ?_))
    rw [List.drop_eq_nil_of_le (by omega)]
    exact hnext out ho
  | succ d ih =>
    intro i out hi ho
    have hil : i < ss.length := by omega
    have h1 := hss ss[i] (List.getElem_mem hil)
    refine Ev.step (fun k => by rw [impl_HuffLens.l2]) ?_
    rw [rd_lt hil, w64 (n := (i : Int) + 1) (by omega) (by omega), show (i : Int) + 1 = ((i + 1 : Nat) : Int) by omega, List.drop_eq_getElem_cons hil, incAll]
    refine ev_pos (by omega) (ev_pos (by omega) (ev_pos (by omega) (ev_pos (by omega) (ev_pos (by omega) ?_))))
    exact ih (i + 1) _ (by omega) (by rw [List.length_set]; exact ho)
def sizeH : List S42 → Nat
  | [] => 0
  | x :: xs => x.f2.length + sizeH xs
theorem sizeH_append : ∀ a b : List S42, sizeH (a ++ b) = sizeH a + sizeH b
  | [], b => by rw [List.nil_append, sizeH, Nat.zero_add]
  | x :: xs, b => by rw [List.cons_append, sizeH, sizeH, sizeH_append xs b]; omega
theorem sizeH_erase : ∀ (G : List S42) (a : Nat) (h : a < G.length), sizeH (G.eraseIdx a) + G[a].f2.length = sizeH G
  | x :: xs, 0, _ => by
    rw [List.eraseIdx_cons_zero, List.getElem_cons_zero, sizeH]; omega
  | x :: xs, a + 1, h => by
    have := sizeH_erase xs a (by simpa using h)
    rw [List.eraseIdx_cons_succ, List.getElem_cons_succ, sizeH, sizeH]; omega
structure HInv (n : Nat) (G : List S42) (nx : Nat) : Prop where
  len : G.length + nx ≤ 1000
  sz : sizeH G ≤ 300
  pw : G.Pairwise (fun a b => a.f1 < b.f1)
  lt : ∀ x ∈ G, x.f1 < (nx : Int)
  sy : ∀ x ∈ G, ∀ s ∈ x.f2, 0 ≤ s ∧ s < (n : Int)
def huffGo : Nat → List S42 → Nat → List Int → List Int
  | 0, _, _, out => out
  | d + 1, G, nx, out =>
    if G.length ≤ 1 then out else
      huffGo d ((G.eraseIdx (bestOf (wsG G))).eraseIdx (bestOf (wsG (G.eraseIdx (bestOf (wsG G))))) ++ [⟨wrap64 ((rd_T42 G (bestOf (wsG G) : Nat)).f0 + (rd_T42 (G.eraseIdx (bestOf (wsG G))) (bestOf (wsG (G.eraseIdx (bestOf (wsG G)))) : Nat)).f0), (nx : Int), (rd_T42 G (bestOf (wsG G) : Nat)).f2 ++ (rd_T42 (G.eraseIdx (bestOf (wsG G))) (bestOf (wsG (G.eraseIdx (bestOf (wsG G)))) : Nat)).f2⟩]) (nx + 1)
        (incAll ((rd_T42 G (bestOf (wsG G) : Nat)).f2 ++ (rd_T42 (G.eraseIdx (bestOf (wsG G))) (bestOf (wsG (G.eraseIdx (bestOf (wsG G)))) : Nat)).f2) out)
theorem huffGo_length : ∀ d G nx out, (huffGo d G nx out).length = out.length := by
  intro d
  induction d with
  | zero => intro G nx out; rfl
  | succ d ih =>
    intro G nx out
    rw [huffGo]
    split
    · rfl
    · rw [ih, incAll_length]
theorem huff_both (n : Nat) (hn : n ≤ 1000000) : ∀ (d : Nat) (G : List S42) (nx : Nat) (out : List Int), G.length ≤ d → HInv n G nx → out.length = n →
    Ev (fun k => spec_HuffLens.l1 k out G (nx : Int)) (huffGo d G nx out) ∧ Ev (fun k => impl_HuffLens.l1 k out (projG G)) (huffGo d G nx out) := by
  intro d
  induction d with
  | zero =>
    intro G nx out hd hI ho
    have hl := projG_length G
    constructor
    · refine Ev.step (fun k => by rw [spec_HuffLens.l1]) ?_
      exact ev_neg (by omega) (ev_now' rfl)
    · refine Ev.step (fun k => by rw [impl_HuffLens.l1]) ?_
      exact ev_neg (by omega) (ev_now' rfl)
  | succ d ih =>
    intro G nx out hd hI ho
    have hl := projG_length G
    rw [huffGo]
    by_cases h1 : G.length ≤ 1
    · rw [if_pos h1]
      constructor
      · refine Ev.step (fun k => by rw [spec_HuffLens.l1]) ?_
        exact ev_neg (by omega) (ev_now _)
      · refine Ev.step (fun k => by rw [impl_HuffLens.l1]) ?_
        exact ev_neg (by omega) (ev_now _)
    rw [if_neg h1]
    have hlen := hI.len
    have ha : bestOf (wsG G) < G.length := by
      have := bestOf_lt (ws := wsG G) (by rw [wsG_length]; omega)
      rwa [wsG_length] at this
    have hleast1 := spec_l08Least_ev G (by omega) hI.pw (by omega)
    have hlight1 := impl_lightest_ev G (by omega) (by omega)
    generalize bestOf (wsG G) = a at *
    have hG1 : (G.eraseIdx a).length = G.length - 1 := List.length_eraseIdx_of_lt ha
    have hpw1 : (G.eraseIdx a).Pairwise (fun a b => a.f1 < b.f1) := hI.pw.sublist (List.eraseIdx_sublist G a)
    have hsub1 : ∀ x ∈ G.eraseIdx a, x ∈ G := fun x hx => (List.eraseIdx_sublist G a).subset hx
    have hsz1 := sizeH_erase G a ha
    have hx := rdT42_lt ha
    have hwo1 := spec_l08Without_f G a ha (by omega)
    have hb : bestOf (wsG (G.eraseIdx a)) < (G.eraseIdx a).length := by
      have := bestOf_lt (ws := wsG (G.eraseIdx a)) (by rw [wsG_length]; omega)
      rwa [wsG_length] at this
    have hleast2 := spec_l08Least_ev (G.eraseIdx a) (by omega) hpw1 (by omega)
    have hlight2 := impl_lightest_ev (G.eraseIdx a) (by omega) (by omega)
    generalize G.eraseIdx a = G1 at *
    generalize bestOf (wsG G1) = b at *
    have hG2 : (G1.eraseIdx b).length = G1.length - 1 := List.length_eraseIdx_of_lt hb
    have hpw2 : (G1.eraseIdx b).Pairwise (fun a b => a.f1 < b.f1) := hpw1.sublist (List.eraseIdx_sublist G1 b)
    have hsub2 : ∀ x ∈ G1.eraseIdx b, x ∈ G := fun x hx => hsub1 x ((List.eraseIdx_sublist G1 b).subset hx)
    have hsz2 := sizeH_erase G1 b hb
    have hy := rdT42_lt hb
    have hwo2 := spec_l08Without_f G1 b hb (by omega)
    have hxm : rd_T42 G (a : Int) ∈ G := by rw [hx]; exact List.getElem_mem ha
    have hym : rd_T42 G1 (b : Int) ∈ G := by rw [hy]; exact hsub1 _ (List.getElem_mem hb)
    rw [← hx] at hsz1
    rw [← hy] at hsz2
    clear hx hy
    generalize G1.eraseIdx b = G2 at *
    generalize hxe : rd_T42 G (a : Int) = x at *
    generalize hye : rd_T42 G1 (b : Int) = y at *
    have hszI := hI.sz
    have hss : ∀ s ∈ x.f2 ++ y.f2, 0 ≤ s ∧ s < (n : Int) := fun s hs => (List.mem_append.1 hs).elim (hI.sy x hxm s) (hI.sy y hym s)
    have hI2 : HInv n (G2 ++ [⟨wrap64 (x.f0 + y.f0), (nx : Int), x.f2 ++ y.f2⟩]) (nx + 1) := by
      refine ⟨by rw [List.length_append, List.length_singleton]; omega, ?_, ?_, ?_, ?_⟩
      · rw [sizeH_append, sizeH, sizeH, List.length_append]; omega
      · rw [List.pairwise_append]
        refine ⟨hpw2, List.pairwise_singleton _ _, fun u hu v hv => ?_⟩
        rw [List.mem_singleton] at hv
        subst hv
        exact hI.lt u (hsub2 u hu)
      · intro u hu
        rcases List.mem_append.1 hu with h | h
        · have := hI.lt u (hsub2 u h); omega
        · rw [List.mem_singleton] at h; subst h; show (nx : Int) < _; omega
      · intro u hu
        rcases List.mem_append.1 hu with h | h
        · exact hI.sy u (hsub2 u h)
        · rw [List.mem_singleton] at h; subst h; exact hss
    have hlx : (x.f2 ++ y.f2).length ≤ 300 := by rw [List.length_append]; omega
    have hnext := fun (o : List Int) (ho : o.length = n) => ih (G2 ++ [⟨wrap64 (x.f0 + y.f0), (nx : Int), x.f2 ++ y.f2⟩]) (nx + 1) o (by rw [List.length_append, List.length_singleton]; omega) hI2 ho
    have hlxy : (x.f2 ++ y.f2).length = x.f2.length + y.f2.length := List.length_append
    constructor
    · refine Ev.step (fun k => by rw [spec_HuffLens.l1]) ?_
      refine ev_pos (by omega) ?_
      refine ev_bind hleast1 ?_
      refine ev_pos (by omega) ?_
      refine ev_pos (by omega) ?_
      refine ev_some hwo1 ?_
      refine ev_bind hleast2 ?_
      refine ev_pos (by omega) ?_
      refine ev_pos (by omega) ?_
      refine ev_some hwo2 ?_
      rw [hxe, hye]
      refine ev_some rfl ?_
      refine ev_pos (by rw [List.length_nil]; omega) ?_
      refine ev_some rfl ?_
      refine ev_pos (by rw [List.nil_append]; omega) ?_
      rw [List.nil_append]
      have := spec_HuffLens_l2 G2 (nx : Int) (x.f2 ++ y.f2) x.f0 x.f1 y.f0 y.f1 x.f2 y.f2 n (fun o => huffGo d (G2 ++ [⟨wrap64 (x.f0 + y.f0), (nx : Int), x.f2 ++ y.f2⟩]) (nx + 1) o) (by omega) hn (by omega) hss (fun o ho => by
        rw [w64 (n := (nx : Int) + 1) (by omega) (by omega), show (nx : Int) + 1 = ((nx + 1 : Nat) : Int) by omega]
        exact (hnext o ho).1) (x.f2 ++ y.f2).length 0 out (by omega) ho
      rw [List.drop_zero] at this
      exact this
    · refine Ev.step (fun k => by rw [impl_HuffLens.l1]) ?_
      refine ev_pos (by omega) ?_
      refine ev_bind hlight1 ?_
      refine ev_bind hlight2 ?_
      refine ev_bind (slices_Concat_ev x.f2 y.f2 (by omega) (by omega)) ?_
      have hl2 := projG_length G2
      have := impl_HuffLens_l2 (projG G2) (x.f2 ++ y.f2) (wrap64 (x.f0 + y.f0)) n (fun o => huffGo d (G2 ++ [⟨wrap64 (x.f0 + y.f0), (nx : Int), x.f2 ++ y.f2⟩]) (nx + 1) o) (by omega) hn (by omega) hss (fun o ho => by
        have e : projG G2 ++ [(⟨wrap64 (x.f0 + y.f0), x.f2 ++ y.f2⟩ : S47)] = projG (G2 ++ [⟨wrap64 (x.f0 + y.f0), (nx : Int), x.f2 ++ y.f2⟩]) := by unfold projG; rw [List.map_append]; rfl
        rw [e]
        exact (hnext o ho).2) (x.f2 ++ y.f2).length 0 out (by omega) ho
      rw [List.drop_zero] at this
      exact this
def buildGo (xs : List Int) : Nat → Nat → List S42 → List S42
  | 0, _, G => G
  | d + 1, i, G => buildGo xs d (i + 1) (if rd xs (i : Int) > 0 then G ++ [⟨rd xs (i : Int), (G.length : Int), [(i : Int)]⟩] else G)
structure BInv (n : Nat) (G : List S42) (i : Nat) : Prop where
  len : G.length ≤ i
  sz : sizeH G = G.length
  pw : G.Pairwise (fun a b => a.f1 < b.f1)
  lt : ∀ x ∈ G, x.f1 < (G.length : Int)
  sy : ∀ x ∈ G, ∃ s, x.f2 = [s] ∧ 0 ≤ s ∧ s < (n : Int)
theorem BInv.snoc {n : Nat} {G : List S42} {i : Nat} (h : BInv n G i) (hi : i < n) (w : Int) : BInv n (G ++ [⟨w, (G.length : Int), [(i : Int)]⟩]) (i + 1) := by
  have := h.len
  refine ⟨by rw [List.length_append, List.length_singleton]; omega, by rw [sizeH_append, h.sz, List.length_append]; rfl, ?_, ?_, ?_⟩
  · rw [List.pairwise_append]
    refine ⟨h.pw, List.pairwise_singleton _ _, fun u hu v hv => ?_⟩
    rw [List.mem_singleton] at hv
    subst hv
    exact h.lt u hu
  · intro u hu
    rw [List.length_append, List.length_singleton]
    rcases List.mem_append.1 hu with g | g
    · have := h.lt u g; omega
    · rw [List.mem_singleton] at g; subst g; show (G.length : Int) < _; omega
  · intro u hu
    rcases List.mem_append.1 hu with g | g
    · exact h.sy u g
    · rw [List.mem_singleton] at g; subst g; exact ⟨_, rfl, by omega, by omega⟩
theorem BInv.next {n : Nat} {G : List S42} {i : Nat} (h : BInv n G i) : BInv n G (i + 1) := ⟨Nat.le_succ_of_le h.len, h.sz, h.pw, h.lt, h.sy⟩
def huffEnd (G : List S42) (out : List Int) : List Int := if G.length = 1 then out.set (rd (rd_T42 G 0).f2 0).toNat 1 else huffGo G.length G G.length out
theorem huffEnd_length (G : List S42) (out : List Int) : (huffEnd G out).length = out.length := by
  unfold huffEnd
  split
  · rw [List.length_set]
  · rw [huffGo_length]
theorem huff_build (xs : List Int) (hm : xs.length ≤ 300) (out : List Int) (ho : out.length = xs.length) : ∀ (d i : Nat) (G : List S42), i + d = xs.length → BInv xs.length G i →
    Ev (fun k => spec_HuffLens.l0 k xs out G (i : Int)) (huffEnd (buildGo xs d i G) out) ∧ Ev (fun k => impl_HuffLens.l0 k out (projG G) xs (xs.length : Int) (i : Int)) (huffEnd (buildGo xs d i G) out) := by
  intro d
  induction d with
  | zero =>
    intro i G hi hB
    have hl := projG_length G
    have hlen := hB.len
    rw [buildGo, huffEnd]
    by_cases h1 : G.length = 1
    · rw [if_pos h1]
      have h0 : 0 < G.length := by omega
      obtain ⟨s, hs, hs0, hs1⟩ := hB.sy (rd_T42 G ((0 : Nat) : Int)) (by rw [rdT42_lt h0]; exact List.getElem_mem h0)
      have hs' : (rd_T42 G 0).f2 = [s] := hs
      have hp : (rd_T47 (projG G) 0).f1 = [s] := by
        have := projG_get G 0 h0
        have e : rd_T47 (projG G) 0 = ⟨(rd_T42 G 0).f0, (rd_T42 G 0).f2⟩ := this
        rw [e]; exact hs'
      have hr : rd [s] 0 = s := rfl
      constructor
      · refine Ev.step (fun k => by rw [spec_HuffLens.l0]) (ev_neg (by omega) (ev_pos (by omega) ?_))
        rw [hs', hr]
        exact ev_pos (by omega) (ev_pos (by simp) (ev_pos hs0 (ev_pos (by omega) (ev_now _))))
      · refine Ev.step (fun k => by rw [impl_HuffLens.l0]) (ev_neg (by omega) (ev_pos (by omega) ?_))
        rw [hp, hs', hr]
        refine ev_pos (by omega) (ev_pos (by simp) (ev_pos hs0 (ev_pos (by omega) ?_)))
        refine Ev.step (fun k => by rw [impl_HuffLens.j2]) ?_
        refine Ev.step (fun k => by rw [impl_HuffLens.l1]) ?_
        exact ev_neg (by omega) (ev_now _)
    · rw [if_neg h1]
      have hI : HInv xs.length G G.length := ⟨by omega, by rw [hB.sz]; omega, hB.pw, hB.lt, fun x hx s hs => by
        obtain ⟨t, ht, h0, h2⟩ := hB.sy x hx
        rw [ht, List.mem_singleton] at hs
        subst hs
        exact ⟨h0, h2⟩⟩
      have hb := huff_both xs.length (by omega) G.length G G.length out (Nat.le_refl _) hI ho
      constructor
      · refine Ev.step (fun k => by rw [spec_HuffLens.l0]) ?_
        exact ev_neg (by omega) (ev_neg (by omega) hb.1)
      · refine Ev.step (fun k => by rw [impl_HuffLens.l0]) ?_
        refine ev_neg (by omega) (ev_neg (by omega) ?_)
        refine Ev.step (fun k => by rw [impl_HuffLens.j2]) ?_
        exact hb.2
  | succ d ih =>
    intro i G hi hB
    have hl := projG_length G
    have hlen := hB.len
    rw [buildGo]
    have e1 : wrap64 ((i : Int) + 1) = ((i + 1 : Nat) : Int) := by rw [w64 (by omega) (by omega)]; omega
    by_cases h : rd xs (i : Int) > 0
    · rw [if_pos h]
      have ih := ih (i + 1) _ (by omega) (hB.snoc (by omega) (rd xs (i : Int)))
      have e : projG (G ++ [⟨rd xs (i : Int), (G.length : Int), [(i : Int)]⟩]) = projG G ++ [⟨rd xs (i : Int), [(i : Int)]⟩] := by unfold projG; rw [List.map_append]; rfl
      rw [e] at ih
      constructor
      · refine Ev.step (fun k => by rw [spec_HuffLens.l0]) ?_
        rw [e1]
        exact ev_pos (by omega) (ev_pos (by omega) (ev_pos h (ev_pos (by omega) ih.1)))
      · refine Ev.step (fun k => by rw [impl_HuffLens.l0]) ?_
        rw [e1]
        exact ev_pos (by omega) (ev_pos (by omega) (ev_pos (by omega) (ev_pos h (ev_pos (by omega) ih.2))))
    · rw [if_neg h]
      have ih := ih (i + 1) _ (by omega) hB.next
      constructor
      · refine Ev.step (fun k => by rw [spec_HuffLens.l0]) ?_
        rw [e1]
        exact ev_pos (by omega) (ev_pos (by omega) (ev_neg h ih.1))
      · refine Ev.step (fun k => by rw [impl_HuffLens.l0]) ?_
        rw [e1]
        exact ev_pos (by omega) (ev_pos (by omega) (ev_pos (by omega) (ev_neg h ih.2)))
theorem huff_lens (xs : List Int) : ∃ out, Ev (fun k => spec_HuffLens.f k xs) out ∧ Ev (fun k => impl_HuffLens.f k xs) out ∧ out.length ≤ 300 := by
  have hc := spec_l08Counts_ev xs
  by_cases hl : xs.length ≤ 300
  · rw [decide_eq_true hl, Bool.true_and] at hc
    have ha := impl_areAll_isCount_f xs
    by_cases hb : allCounts xs = true
    · have hb' : (xs.all fun a => decide (0 ≤ a ∧ a ≤ 1000000)) = true := hb
      have hw := huff_build xs hl (List.replicate ((xs.length : Int) : Int).toNat 0) (by rw [List.length_replicate, Int.toNat_natCast]) xs.length 0 [] (by omega) ⟨by simp, rfl, List.Pairwise.nil, fun x hx => by simp at hx, fun x hx => by simp at hx⟩
      refine ⟨huffEnd (buildGo xs xs.length 0 []) (List.replicate ((xs.length : Int) : Int).toNat 0), ?_, ?_, ?_⟩
      · unfold spec_HuffLens.f
        rw [hb] at hc
        exact ev_bind hc (ev_pos rfl (ev_pos (by omega) (ev_pos (by omega) hw.1)))
      · unfold impl_HuffLens.f
        refine ev_neg (by omega) (ev_some ha ?_)
        rw [hb']
        refine Ev.step (fun k => by rw [impl_HuffLens.j0]) (ev_neg (by decide) (ev_pos (by omega) (ev_pos (by omega) ?_)))
        exact hw.2
      · rw [huffEnd_length, List.length_replicate]; omega
    · have hb2 : allCounts xs = false := Bool.eq_false_iff.mpr hb
      have hb' : (xs.all fun a => decide (0 ≤ a ∧ a ≤ 1000000)) = false := hb2
      refine ⟨[], ?_, ?_, by simp⟩
      · unfold spec_HuffLens.f
        rw [hb2] at hc
        exact ev_bind hc (ev_neg (by decide) (ev_now _))
      · unfold impl_HuffLens.f
        refine ev_neg (by omega) (ev_some ha ?_)
        rw [hb']
        refine Ev.step (fun k => by rw [impl_HuffLens.j0]) ?_
        exact ev_pos rfl (ev_now _)
  · rw [decide_eq_false hl, Bool.false_and] at hc
    refine ⟨[], ?_, ?_, by simp⟩
    · unfold spec_HuffLens.f
      exact ev_bind hc (ev_neg (by decide) (ev_now _))
    · unfold impl_HuffLens.f
      refine ev_pos (by omega) ?_
      refine Ev.step (fun k => by rw [impl_HuffLens.j0]) ?_
      exact ev_pos rfl (ev_now _)
theorem FnExactHuffLens : laws_FnExactHuffLens.Pure := by
  intro l hl _ hw
  refine Ev.rounds ?_
  unfold laws_FnExactHuffLens.f
  refine ev_ite (fun _ => ev_now _) (fun h => ?_)
  have hm : l.length ≤ 35184372088832 := by omega
  obtain ⟨out, hs, hi, ho⟩ := huff_lens l
  have hml : (1 : Nat) + l.length ≤ 1099511627776 := by omega
  have hmo : (1 : Nat) + out.length ≤ 1099511627776 := by omega
  have hj : Ev (fun k => laws_FnExactHuffLens.j0 k l out out false) true := by
    refine Ev.step (fun k => by rw [laws_FnExactHuffLens.j0]) (ev_neg (by decide) ?_)
    refine ev_bind (laws_markIntS_ev out 1 hmo) (ev_bind (laws_heldIntS_ev out.length 1 hmo) (ev_neg (by omega) (ev_pos rfl ?_)))
    refine ev_bind (laws_toIntS_ev l hm) (ev_bind hi (ev_bind (laws_eqIntS_ev out out (by omega)) (ev_pos (by simp) ?_)))
    exact ev_bind (laws_heldIntS_ev out.length 1 hmo) (ev_neg (by omega) (ev_pos rfl (ev_now _)))
  refine ev_bind (laws_toIntS_ev l hm) (ev_bind hs (ev_bind (laws_toIntS_ev l hm) (ev_bind hi (ev_bind (laws_eqIntS_ev out out (by omega)) (ev_pos (by simp) ?_)))))
  refine ev_bind (laws_toIntS_ev l hm) (ev_bind (laws_eqIntS_ev l l (by omega)) (ev_pos (by simp) ?_))
  refine ev_bind (laws_markIntS_ev l 1 hml) (ev_neg (by omega) (ev_bind (laws_eqIntS_ev out out (by omega)) ?_))
  rw [show (!decide (out = out)) = false by simp]
  exact hj

end Go.Proofs.Ytindkfapbgmjgaa.Pure
