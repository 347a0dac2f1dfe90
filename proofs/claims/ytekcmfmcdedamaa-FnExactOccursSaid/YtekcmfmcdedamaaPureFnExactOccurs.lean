/- The pure statement of the law FnExactOccurs: the program's answers equal the reference's, for all arguments within the row's bounds. -/
import Derived.Test.YtekcmfmcdedamaaQFnExactOccursx3
import Derived.Test.YtekcmfmcdedamaaLib
namespace Go.Proofs.Ytekcmfmcdedamaa.Pure
open Go.RowKit Go.Proofs.Ytekcmfmcdedamaa.QFnExactOccurs Go.Proofs.Ytekcmfmcdedamaa.Lib Go.Proofs.YtekcmfmcdedamaaW.PrintWords Go.Proofs.YtekcmfmcdedamaaW.PrintLast Go.Proofs.YtekcmfmcdedamaaW.PrintMore
set_option linter.unusedVariables false
set_option linter.unusedSimpArgs false

theorem laws_toByteS_l0 (xs : List Int) (hm : xs.length ≤ 140737488355328) : ∀ (d n : Nat) (out : List Int), n + d = xs.length → out.length = xs.length → (∀ j, j < n → out[j]? = xs[j]?) → Ev (fun k => laws_toByteS.l0 k xs out (n : Int)) xs := by
  intro d
  induction d with
  | zero =>
    intro n out hn hl ho
    refine Ev.step (fun k => by rw [laws_toByteS.l0]) ?_
    refine ev_neg (by omega) (ev_now' ?_)
    apply List.ext_getElem? ; intro j
    by_cases hj : j < n
    · exact ho j hj
    · rw [List.getElem?_eq_none (by omega), List.getElem?_eq_none (by omega)]
  | succ d ih =>
    intro n out hn hl ho
    refine Ev.step (fun k => by rw [laws_toByteS.l0]) ?_
    refine ev_pos (by omega) (ev_pos (by omega) (ev_pos (by omega) ?_))
    rw [w64 (by omega) (by omega)]
    refine ih (n + 1) _ (by omega) (by simp [hl]) ?_
    intro j hj
    rw [Int.toNat_natCast, List.getElem?_set, rd_lt (by omega)]
    by_cases e : n = j
    · subst e; rw [if_pos rfl, if_pos (by omega), List.getElem?_eq_getElem (by omega)]
    · rw [if_neg e]; exact ho j (by omega)
theorem laws_toByteS_ev (xs : List Int) (hm : xs.length ≤ 140737488355328) : Ev (fun k => laws_toByteS.f k xs) xs := by
  unfold laws_toByteS.f
  refine ev_pos (by omega) (ev_pos (by omega) ?_)
  exact laws_toByteS_l0 xs hm xs.length 0 _ (by omega) (by simp) (by simp)
theorem laws_eqByteS_l0 (xs ys : List Int) (hl : xs.length = ys.length) (hm : xs.length ≤ 140737488355328) : ∀ (d n : Nat), n + d = xs.length → Ev (fun k => laws_eqByteS.l0 k xs ys (n : Int)) (decide (xs.drop n = ys.drop n)) := by
  intro d
  induction d with
  | zero =>
    intro n hn
    refine Ev.step (fun k => by rw [laws_eqByteS.l0]) ?_
    refine ev_neg (by omega) (ev_now' ?_)
    rw [List.drop_eq_nil_of_le (by omega), List.drop_eq_nil_of_le (by omega)]; rfl
  | succ d ih =>
    intro n hn
    refine Ev.step (fun k => by rw [laws_eqByteS.l0]) ?_
    refine ev_pos (by omega) (ev_pos (by omega) (ev_pos (by omega) ?_))
    rw [rd_lt (by omega), rd_lt (by omega), w64 (by omega) (by omega)]
    rw [List.drop_eq_getElem_cons (show n < xs.length by omega), List.drop_eq_getElem_cons (show n < ys.length by omega)]
    refine ev_ite (fun h => ev_eq (ih (n + 1) (by omega)) ?_) (fun h => ev_now' ?_)
    · simp only [List.cons.injEq, h, true_and]
    · exact (decide_eq_false (fun e => h (List.cons.inj e).1)).symm
theorem laws_eqByteS_ev (xs ys : List Int) (hm : xs.length ≤ 140737488355328) : Ev (fun k => laws_eqByteS.f k xs ys) (decide (xs = ys)) := by
  unfold laws_eqByteS.f
  refine ev_ite (fun h => ?_) (fun h => ev_now' ?_)
  · exact laws_eqByteS_l0 xs ys (by omega) hm xs.length 0 (by omega)
  · exact (decide_eq_false (fun e => h (by rw [e]))).symm
def begs (l m : List Int) : Bool := decide (m.length ≤ l.length) && ((strOfNums (l.take m.length)).toList == (strOfNums m).toList)
theorem spec_l05Begins_f (l m : List Int) : spec_l05Begins.f l m = some (begs l m) := by
  unfold spec_l05Begins.f begs
  by_cases h : m.length ≤ l.length
  · rw [if_pos (by omega), if_pos (by omega), decide_eq_true h, Bool.true_and, Int.toNat_natCast]
  · rw [if_neg (by omega), decide_eq_false h, Bool.false_and]
def occL (xs ys : List Int) : Nat → Nat → List Int → List Int
  | 0, _, acc => acc
  | d + 1, i, acc => occL xs ys d (i + 1) (if begs (xs.drop i) ys = true then acc ++ [(i : Int)] else acc)
theorem occL_length (xs ys : List Int) : ∀ (d i : Nat) (acc : List Int), (occL xs ys d i acc).length ≤ d + acc.length := by
  intro d
  induction d with
  | zero => intro i acc; rw [occL]; omega
  | succ d ih =>
    intro i acc
    rw [occL]
    refine Nat.le_trans (ih _ _) ?_
    split
    · rw [List.length_append, List.length_singleton]; omega
    · omega
def occR (xs ys : List Int) : List Int := if xs.length ≤ 300 then occL xs ys (xs.length + 1) 0 [] else []
theorem occR_length (xs ys : List Int) : (occR xs ys).length ≤ 301 := by
  unfold occR
  split
  · have := occL_length xs ys (xs.length + 1) 0 []
    rw [List.length_nil] at this
    omega
  · simp
theorem spec_TextOk_f (xs : List Int) : spec_TextOk.f xs = some (decide (xs.length ≤ 300)) := by
  unfold spec_TextOk.f
  congr 1
  rw [decide_eq_decide]; omega
theorem spec_Occurs_l0 (xs ys : List Int) (hm : xs.length ≤ 300) : ∀ (d i : Nat) (acc : List Int), i + d = xs.length + 1 → acc.length ≤ i → Ev (fun k => spec_Occurs.l0 k xs ys acc (i : Int)) (occL xs ys d i acc) := by
  intro d
  induction d with
  | zero =>
    intro i acc hi ha
    refine Ev.step (fun k => by rw [spec_Occurs.l0]) ?_
    refine ev_some (spec_TextOk_f xs) (ev_pos (decide_eq_true hm) ?_)
    rw [decide_eq_false (by omega)]
    refine Ev.step (fun k => by rw [spec_Occurs.j1]) ?_
    exact ev_neg (by decide) (ev_now _)
  | succ d ih =>
    intro i acc hi ha
    refine Ev.step (fun k => by rw [spec_Occurs.l0]) ?_
    refine ev_some (spec_TextOk_f xs) (ev_pos (decide_eq_true hm) ?_)
    rw [decide_eq_true (by omega), occL]
    refine Ev.step (fun k => by rw [spec_Occurs.j1]) (ev_pos rfl (ev_pos (by omega) (ev_pos (by omega) ?_)))
    rw [Int.toNat_natCast, w64 (by omega) (by omega)]
    refine ev_some (spec_l05Begins_f _ _) (ev_ite (fun h => ?_) (fun h => ?_))
    · rw [if_pos h]
      exact ev_pos (by omega) (ih (i + 1) _ (by omega) (by rw [List.length_append, List.length_singleton]; omega))
    · rw [if_neg h]
      exact ih (i + 1) _ (by omega) (by omega)
theorem spec_Occurs_ev (xs ys : List Int) : Ev (fun k => spec_Occurs.f k xs ys) (occR xs ys) := by
  unfold spec_Occurs.f occR
  by_cases h : xs.length ≤ 300
  · rw [if_pos h]; exact spec_Occurs_l0 xs ys h _ 0 [] (by omega) (by simp)
  · rw [if_neg h]
    refine Ev.step (fun k => by rw [spec_Occurs.l0]) ?_
    refine ev_some (spec_TextOk_f xs) (ev_neg (by rw [decide_eq_false h]; decide) ?_)
    refine Ev.step (fun k => by rw [spec_Occurs.j1]) ?_
    exact ev_neg (by decide) (ev_now _)
theorem impl_TextOk_f (xs : List Int) : impl_TextOk.f xs = some (decide (xs.length ≤ 300)) := by
  unfold impl_TextOk.f
  congr 1
  rw [decide_eq_decide]; omega
theorem bytes_HasPrefix_f (l m : List Int) : bytes_HasPrefix.f l m = some (begs l m) := by
  unfold bytes_HasPrefix.f begs
  by_cases h : m.length ≤ l.length
  · rw [if_pos (by omega), if_pos (by omega), if_pos (by omega), decide_eq_true h, Bool.true_and, Int.toNat_natCast]; rfl
  · rw [if_neg (by omega), decide_eq_false h, Bool.false_and]
theorem impl_Occurs_l0 (xs ys : List Int) (hm : xs.length ≤ 300) : ∀ (d i : Nat) (acc : List Int), i + d = xs.length + 1 → acc.length ≤ i → Ev (fun k => impl_Occurs.l0 k xs ys acc ((xs.length + 1 : Nat) : Int) (i : Int)) (occL xs ys d i acc) := by
  intro d
  induction d with
  | zero =>
    intro i acc hi ha
    refine Ev.step (fun k => by rw [impl_Occurs.l0]) ?_
    exact ev_neg (by omega) (ev_now _)
  | succ d ih =>
    intro i acc hi ha
    refine Ev.step (fun k => by rw [impl_Occurs.l0]) ?_
    rw [occL, Int.toNat_natCast, w64 (by omega) (by omega)]
    refine ev_pos (by omega) (ev_pos (by omega) (ev_pos (by omega) (ev_some (bytes_HasPrefix_f _ _) (ev_ite (fun h => ?_) (fun h => ?_)))))
    · rw [if_pos h]
      exact ev_pos (by omega) (ih (i + 1) _ (by omega) (by rw [List.length_append, List.length_singleton]; omega))
    · rw [if_neg h]
      exact ih (i + 1) _ (by omega) (by omega)
theorem impl_Occurs_ev (xs ys : List Int) : Ev (fun k => impl_Occurs.f k xs ys) (occR xs ys) := by
  unfold impl_Occurs.f occR
  refine ev_some (impl_TextOk_f xs) ?_
  by_cases h : xs.length ≤ 300
  · rw [if_pos h, w64 (by omega) (by omega), show (xs.length : Int) + 1 = ((xs.length + 1 : Nat) : Int) by omega]
    exact ev_pos (decide_eq_true h) (impl_Occurs_l0 xs ys h _ 0 [] (by omega) (by simp))
  · rw [if_neg h]
    exact ev_neg (by rw [decide_eq_false h]; decide) (ev_now _)
theorem laws_eqIntS_l0 (xs ys : List Int) (hl : xs.length = ys.length) (hm : xs.length ≤ 140737488355328) : ∀ (d n : Nat), n + d = xs.length → Ev (fun k => laws_eqIntS.l0 k xs ys (n : Int)) (decide (xs.drop n = ys.drop n)) := by
  intro d
  induction d with
  | zero =>
    intro n hn
    refine Ev.step (fun k => by rw [laws_eqIntS.l0]) ?_
    refine ev_neg (by omega) (ev_now' ?_)
    rw [List.drop_eq_nil_of_le (by omega), List.drop_eq_nil_of_le (by omega)]; rfl
  | succ d ih =>
    intro n hn
    refine Ev.step (fun k => by rw [laws_eqIntS.l0]) ?_
    refine ev_pos (by omega) (ev_pos (by omega) (ev_pos (by omega) ?_))
    rw [rd_lt (by omega), rd_lt (by omega), w64 (by omega) (by omega)]
    rw [List.drop_eq_getElem_cons (show n < xs.length by omega), List.drop_eq_getElem_cons (show n < ys.length by omega)]
    refine ev_ite (fun h => ev_eq (ih (n + 1) (by omega)) ?_) (fun h => ev_now' ?_)
    · simp only [List.cons.injEq, h, true_and]
    · exact (decide_eq_false (fun e => h (List.cons.inj e).1)).symm
theorem laws_eqIntS_ev (xs ys : List Int) (hm : xs.length ≤ 140737488355328) : Ev (fun k => laws_eqIntS.f k xs ys) (decide (xs = ys)) := by
  unfold laws_eqIntS.f
  refine ev_ite (fun h => ?_) (fun h => ev_now' ?_)
  · exact laws_eqIntS_l0 xs ys (by omega) hm xs.length 0 (by omega)
  · exact (decide_eq_false (fun e => h (by rw [e]))).symm
theorem laws_markByteS_l0 (xs : List Int) (a : Nat) (hm : a + xs.length ≤ 1099511627776) : ∀ (d n : Nat), n + d = xs.length → Ev (fun k => laws_markByteS.l0 k (marked (fun x => x % 256) n a ++ xs.drop n) ((a + n : Nat) : Int) (n : Int)) (((a + xs.length : Nat) : Int), marked (fun x => x % 256) xs.length a) := by
  intro d
  induction d with
  | zero =>
    intro n hn
    have e : n = xs.length := by omega
    subst e
    refine Ev.step (fun k => by rw [laws_markByteS.l0]) ?_
    refine ev_neg (by simp [marked_length]) (ev_now' ?_)
    rw [List.drop_length, List.append_nil]
  | succ d ih =>
    intro n hn
    refine Ev.step (fun k => by rw [laws_markByteS.l0]) ?_
    refine ev_pos (by simp [marked_length]; omega) (ev_pos (by omega) ?_)
    rw [w64 (by omega) (by omega), w64 (by omega) (by omega), Int.toNat_natCast]
    have e := set_mark (c := (fun x => x % 256)) (a := a) (show n < xs.length by omega)
    rw [show (((a + n : Nat) : Int) % 256) = (fun x => x % 256) ((a + n : Nat) : Int) from rfl, e]
    exact ih (n + 1) (by omega)
theorem laws_markByteS_ev (xs : List Int) (a : Nat) (hm : a + xs.length ≤ 1099511627776) : Ev (fun k => laws_markByteS.f k xs (a : Int)) (((a + xs.length : Nat) : Int), marked (fun x => x % 256) xs.length a) := by
  unfold laws_markByteS.f
  have h := laws_markByteS_l0 xs a hm xs.length 0 (by omega)
  simpa [marked] using h
theorem laws_markIntS_l0 (xs : List Int) (a : Nat) (hm : a + xs.length ≤ 1099511627776) : ∀ (d n : Nat), n + d = xs.length → Ev (fun k => laws_markIntS.l0 k (marked (fun x => x) n a ++ xs.drop n) ((a + n : Nat) : Int) (n : Int)) (((a + xs.length : Nat) : Int), marked (fun x => x) xs.length a) := by
  intro d
  induction d with
  | zero =>
    intro n hn
    have e : n = xs.length := by omega
    subst e
    refine Ev.step (fun k => by rw [laws_markIntS.l0]) ?_
    refine ev_neg (by simp [marked_length]) (ev_now' ?_)
    rw [List.drop_length, List.append_nil]
  | succ d ih =>
    intro n hn
    refine Ev.step (fun k => by rw [laws_markIntS.l0]) ?_
    refine ev_pos (by simp [marked_length]; omega) (ev_pos (by omega) ?_)
    rw [w64 (by omega) (by omega), w64 (by omega) (by omega), Int.toNat_natCast]
    have e := set_mark (c := (fun x => x)) (a := a) (show n < xs.length by omega)
    rw [show (((a + n : Nat) : Int)) = (fun x => x) ((a + n : Nat) : Int) from rfl, e]
    exact ih (n + 1) (by omega)
theorem laws_markIntS_ev (xs : List Int) (a : Nat) (hm : a + xs.length ≤ 1099511627776) : Ev (fun k => laws_markIntS.f k xs (a : Int)) (((a + xs.length : Nat) : Int), marked (fun x => x) xs.length a) := by
  unfold laws_markIntS.f
  have h := laws_markIntS_l0 xs a hm xs.length 0 (by omega)
  simpa [marked] using h
theorem laws_heldIntS_l0 (m a : Nat) (hm : a + m ≤ 1099511627776) : ∀ (d n : Nat), n + d = m → Ev (fun k => laws_heldIntS.l0 k (marked (fun x => x) m a) ((a + n : Nat) : Int) (n : Int)) ((a + m : Nat) : Int) := by
  intro d
  induction d with
  | zero =>
    intro n hn
    have e : n = m := by omega
    subst e
    refine Ev.step (fun k => by rw [laws_heldIntS.l0]) ?_
    exact ev_neg (by simp [marked_length]) (ev_now _)
  | succ d ih =>
    intro n hn
    refine Ev.step (fun k => by rw [laws_heldIntS.l0]) ?_
    refine ev_pos (by rw [marked_length]; omega) (ev_pos (by omega) ?_)
    rw [rd_lt (by rw [marked_length]; omega), marked_get _ _ _ _ (by omega), w64 (by omega) (by omega), w64 (by omega) (by omega)]
    exact ev_pos rfl (ih (n + 1) (by omega))
theorem laws_heldIntS_ev (m a : Nat) (hm : a + m ≤ 1099511627776) : Ev (fun k => laws_heldIntS.f k (marked (fun x => x) m a) (a : Int)) ((a + m : Nat) : Int) := by
  unfold laws_heldIntS.f
  exact laws_heldIntS_l0 m a hm m 0 (by omega)

theorem FnExactOccurs : laws_FnExactOccurs.Pure := by
  intro l m hl _ hw hl' _ hw'
  refine Ev.rounds ?_
  unfold laws_FnExactOccurs.f
  refine ev_ite (fun _ => ev_now _) (fun h => ev_ite (fun _ => ev_now _) (fun h' => ?_))
  have h1 : l.length ≤ 140737488355328 := by omega
  have h2 : m.length ≤ 140737488355328 := by omega
  have hs := spec_Occurs_ev l m
  have hi := impl_Occurs_ev l m
  have ho := occR_length l m
  generalize occR l m = out at *
  have hml : (1 : Nat) + l.length ≤ 1099511627776 := by omega
  have hml' : (1 + l.length) + m.length ≤ 1099511627776 := by omega
  have hmo : (1 : Nat) + out.length ≤ 1099511627776 := by omega
  have hj : Ev (fun k => laws_FnExactOccurs.j0 k l m out out false) true := by
    refine Ev.step (fun k => by rw [laws_FnExactOccurs.j0]) (ev_neg (by decide) ?_)
    refine ev_bind (laws_markIntS_ev out 1 hmo) (ev_bind (laws_heldIntS_ev out.length 1 hmo) (ev_neg (by omega) (ev_pos rfl ?_)))
    refine ev_bind (laws_toByteS_ev l h1) (ev_bind (laws_toByteS_ev m h2) (ev_bind hi (ev_bind (laws_eqIntS_ev out out (by omega)) (ev_pos (by simp) ?_))))
    exact ev_bind (laws_heldIntS_ev out.length 1 hmo) (ev_neg (by omega) (ev_pos rfl (ev_now _)))
  refine ev_bind (laws_toByteS_ev l h1) (ev_bind (laws_toByteS_ev m h2) (ev_bind hs (ev_bind (laws_toByteS_ev l h1) (ev_bind (laws_toByteS_ev m h2) (ev_bind hi (ev_bind (laws_eqIntS_ev out out (by omega)) (ev_pos (by simp) ?_)))))))
  refine ev_bind (laws_toByteS_ev l h1) (ev_bind (laws_eqByteS_ev l l (by omega)) (ev_pos (by simp) ?_))
  refine ev_bind (laws_toByteS_ev m h2) (ev_bind (laws_eqByteS_ev m m (by omega)) (ev_pos (by simp) ?_))
  refine ev_bind (laws_markByteS_ev l 1 hml) (ev_bind (laws_markByteS_ev m (1 + l.length) hml') (ev_neg (by omega) (ev_bind (laws_eqIntS_ev out out (by omega)) ?_)))
  rw [show (!decide (out = out)) = false by simp]
  exact hj

end Go.Proofs.Ytekcmfmcdedamaa.Pure
