/- The pure statement of the law FnExactHuffCodes: the program's answers equal the reference's, for all arguments within the row's bounds. -/
import Derived.Test.YtindkfapbgmjgaaQFnExactHuffCodesx4
import Derived.Test.YtindkfapbgmjgaaLib
namespace Go.Proofs.Ytindkfapbgmjgaa.Pure
open Go.RowKit Go.Proofs.Ytindkfapbgmjgaa.QFnExactHuffCodes Go.Proofs.Ytindkfapbgmjgaa.Lib Go.Proofs.YtindkfapbgmjgaaW.PrintWords Go.Proofs.YtindkfapbgmjgaaW.PrintLast Go.Proofs.YtindkfapbgmjgaaW.PrintMore
set_option linter.unusedVariables false
set_option linter.unusedSimpArgs false

theorem laws_toIntS_l0 (xs : List Int) (hm : xs.length ≤ 35184372088832) : ∀ (d n : Nat) (out : List Int), n + d = xs.length → out.length = xs.length → (∀ j, j < n → out[j]? = xs[j]?) → Ev (fun k => laws_toIntS.l0 k xs out (n : Int)) xs := by
  intro d
  induction d with
  | zero =>
    intro n out hn hl ho
    refine Ev.step (fun k => by rw [laws_toIntS.l0]) ?_
    refine ev_neg (by omega) (ev_now' ?_)
    apply List.ext_getElem? ; intro j
    by_cases hj : j < n
    · exact ho j hj
    · rw [List.getElem?_eq_none (by omega), List.getElem?_eq_none (by omega)]
  | succ d ih =>
    intro n out hn hl ho
    refine Ev.step (fun k => by rw [laws_toIntS.l0]) ?_
    refine ev_pos (by omega) (ev_pos (by omega) (ev_pos (by omega) ?_))
    rw [w64 (by omega) (by omega)]
    refine ih (n + 1) _ (by omega) (by simp [hl]) ?_
    intro j hj
    rw [Int.toNat_natCast, List.getElem?_set, rd_lt (by omega)]
    by_cases e : n = j
    · subst e; rw [if_pos rfl, if_pos (by omega), List.getElem?_eq_getElem (by omega)]
    · rw [if_neg e]; exact ho j (by omega)
theorem laws_toIntS_ev (xs : List Int) (hm : xs.length ≤ 35184372088832) : Ev (fun k => laws_toIntS.f k xs) xs := by
  unfold laws_toIntS.f
  refine ev_pos (by omega) (ev_pos (by omega) ?_)
  exact laws_toIntS_l0 xs hm xs.length 0 _ (by omega) (by simp) (by simp)
theorem laws_eqIntS_l0 (xs ys : List Int) (hl : xs.length = ys.length) (hm : xs.length ≤ 140737488355328) : ∀ (d n : Nat), n + d = xs.length → Ev (fun k => laws_eqIntS.l0 k xs ys (n : Int)) (decide (xs.drop n = ys.drop n)) := by
  intro d
  induction d with
  | zero =>
    intro n hn
    refine Ev.step (fun k => by rw [laws_eqIntS.l0]) ?_
    refine ev_neg (by omega) (ev_now' ?_)
    rw [List.drop_eq_nil_of_le (by omega), List.drop_eq_nil_of_le (by omega)]; rfl
  | succ d ih =>
    intro n hn
    refine Ev.step (fun k => by rw [laws_eqIntS.l0]) ?_
    refine ev_pos (by omega) (ev_pos (by omega) (ev_pos (by omega) ?_))
    rw [rd_lt (by omega), rd_lt (by omega), w64 (by omega) (by omega)]
    rw [List.drop_eq_getElem_cons (show n < xs.length by omega), List.drop_eq_getElem_cons (show n < ys.length by omega)]
    refine ev_ite (fun h => ev_eq (ih (n + 1) (by omega)) ?_) (fun h => ev_now' ?_)
    · simp only [List.cons.injEq, h, true_and]
    · exact (decide_eq_false (fun e => h (List.cons.inj e).1)).symm
theorem laws_eqIntS_ev (xs ys : List Int) (hm : xs.length ≤ 140737488355328) : Ev (fun k => laws_eqIntS.f k xs ys) (decide (xs = ys)) := by
  unfold laws_eqIntS.f
  refine ev_ite (fun h => ?_) (fun h => ev_now' ?_)
  · exact laws_eqIntS_l0 xs ys (by omega) hm xs.length 0 (by omega)
  · exact (decide_eq_false (fun e => h (by rw [e]))).symm
theorem laws_markIntS_l0 (xs : List Int) (a : Nat) (hm : a + xs.length ≤ 1099511627776) : ∀ (d n : Nat), n + d = xs.length → Ev (fun k => laws_markIntS.l0 k (marked (fun x => x) n a ++ xs.drop n) ((a + n : Nat) : Int) (n : Int)) (((a + xs.length : Nat) : Int), marked (fun x => x) xs.length a) := by
  intro d
  induction d with
  | zero =>
    intro n hn
    have e : n = xs.length := by omega
    subst e
    refine Ev.step (fun k => by rw [laws_markIntS.l0]) ?_
    refine ev_neg (by simp [marked_length]) (ev_now' ?_)
    rw [List.drop_length, List.append_nil]
  | succ d ih =>
    intro n hn
    refine Ev.step (fun k => by rw [laws_markIntS.l0]) ?_
    refine ev_pos (by simp [marked_length]; omega) (ev_pos (by omega) ?_)
    rw [w64 (by omega) (by omega), w64 (by omega) (by omega), Int.toNat_natCast]
    have e := set_mark (c := (fun x => x)) (a := a) (show n < xs.length by omega)
    rw [show (((a + n : Nat) : Int)) = (fun x => x) ((a + n : Nat) : Int) from rfl, e]
    exact ih (n + 1) (by omega)
theorem laws_markIntS_ev (xs : List Int) (a : Nat) (hm : a + xs.length ≤ 1099511627776) : Ev (fun k => laws_markIntS.f k xs (a : Int)) (((a + xs.length : Nat) : Int), marked (fun x => x) xs.length a) := by
  unfold laws_markIntS.f
  have h := laws_markIntS_l0 xs a hm xs.length 0 (by omega)
  simpa [marked] using h
theorem laws_heldIntS_l0 (m a : Nat) (hm : a + m ≤ 1099511627776) : ∀ (d n : Nat), n + d = m → Ev (fun k => laws_heldIntS.l0 k (marked (fun x => x) m a) ((a + n : Nat) : Int) (n : Int)) ((a + m : Nat) : Int) := by
  intro d
  induction d with
  | zero =>
    intro n hn
    have e : n = m := by omega
    subst e
    refine Ev.step (fun k => by rw [laws_heldIntS.l0]) ?_
    exact ev_neg (by simp [marked_length]) (ev_now _)
  | succ d ih =>
    intro n hn
    refine Ev.step (fun k => by rw [laws_heldIntS.l0]) ?_
    refine ev_pos (by rw [marked_length]; omega) (ev_pos (by omega) ?_)
    rw [rd_lt (by rw [marked_length]; omega), marked_get _ _ _ _ (by omega), w64 (by omega) (by omega), w64 (by omega) (by omega)]
    exact ev_pos rfl (ih (n + 1) (by omega))
theorem laws_heldIntS_ev (m a : Nat) (hm : a + m ≤ 1099511627776) : Ev (fun k => laws_heldIntS.f k (marked (fun x => x) m a) (a : Int)) ((a + m : Nat) : Int) := by
  unfold laws_heldIntS.f
  exact laws_heldIntS_l0 m a hm m 0 (by omega)
theorem spec_l02Pow_l0 : ∀ (n m : Nat), n + m ≤ 62 → Ev (fun k => spec_l02Pow.l0 k (n : Int) ((2 ^ m : Nat) : Int)) ((2 ^ (n + m) : Nat) : Int) := by
  intro n
  induction n with
  | zero =>
    intro m hm
    refine Ev.step (fun k => by rw [spec_l02Pow.l0]) ?_
    exact ev_neg (by omega) (ev_now' (by rw [Nat.zero_add]))
  | succ n ih =>
    intro m hm
    refine Ev.step (fun k => by rw [spec_l02Pow.l0]) ?_
    have hp : 2 ^ m ≤ 2 ^ 61 := Nat.pow_le_pow_right (by decide) (by omega)
    have hpp : 2 ^ (m + 1) = 2 ^ m * 2 := Nat.pow_succ ..
    refine ev_pos (by omega) ?_
    rw [w64 (by omega) (by omega), w64 (by omega) (by omega), show ((n + 1 : Nat) : Int) - 1 = (n : Int) by omega, show (2 : Int) * ((2 ^ m : Nat) : Int) = ((2 ^ (m + 1) : Nat) : Int) by omega]
    refine ev_eq (ih (m + 1) (by omega)) ?_
    rw [show n + (m + 1) = n + 1 + m by omega]
theorem spec_l02Pow_ev (n : Nat) (h : n ≤ 62) : Ev (fun k => spec_l02Pow.f k (n : Int)) ((2 ^ n : Nat) : Int) := by
  unfold spec_l02Pow.f
  exact spec_l02Pow_l0 n 0 (by omega)
theorem spec_l02Pow_neg (a : Int) (h : a ≤ 0) : Ev (fun k => spec_l02Pow.f k a) 1 := by
  unfold spec_l02Pow.f
  refine Ev.step (fun k => by rw [spec_l02Pow.l0]) ?_
  exact ev_neg (by omega) (ev_now _)
def hN (x : Int) : Nat := 2 ^ (60 - x.toNat)
theorem hN_le (x : Int) : hN x ≤ 1152921504606846976 := by unfold hN; exact Nat.le_trans (Nat.pow_le_pow_right (by decide) (Nat.sub_le 60 _)) (by decide)
/-- the reference's loop -/
def hsp : List Int → Nat → Nat → Int → Bool
  | [], u, s, last => if u = 1 then (if last = 1 then true else decide (s = 1152921504606846976)) else decide (s = 1152921504606846976)
  | x :: l, u, s, last => if x < 0 ∨ 60 < x then false else if 0 < x then (if 1152921504606846976 < s + hN x then false else hsp l (u + 1) (s + hN x) x) else hsp l u s last
def hrange (l : List Int) : Bool := l.all fun a => decide (0 ≤ a ∧ a ≤ 60)
def hS : List Int → Nat
  | [] => 0
  | x :: l => if 0 < x then hN x + hS l else hS l
def hU : List Int → Nat
  | [] => 0
  | x :: l => if 0 < x then hU l + 1 else hU l
def hLast : List Int → Int → Int
  | [], d => d
  | x :: l, d => if 0 < x then hLast l x else hLast l d
theorem hsp_eq (l : List Int) : ∀ (u s : Nat) (last : Int), s ≤ 1152921504606846976 → hsp l u s last = (hrange l && decide (s + hS l ≤ 1152921504606846976) && (decide (u + hU l = 1 ∧ hLast l last = 1) || decide (s + hS l = 1152921504606846976))) := by
  induction l with
  | nil =>
    intro u s last hs
    by_cases h3 : s = 1152921504606846976 <;> by_cases h1 : u = 1 <;> by_cases h2 : last = 1 <;> simp [hsp, hrange, hS, hU, hLast, h1, h2, h3, hs]
  | cons x l ih =>
    intro u s last hs
    rw [hsp]
    by_cases hx : x < 0 ∨ 60 < x
    · rw [if_pos hx]
      have : hrange (x :: l) = false := by unfold hrange; rw [List.all_cons, decide_eq_false (by omega)]; rfl
      rw [this]; rfl
    · rw [if_neg hx]
      have hr : hrange (x :: l) = hrange l := by unfold hrange; rw [List.all_cons, decide_eq_true (by omega)]; rfl
      rw [hr, hS, hU, hLast]
      by_cases hp : 0 < x
      · rw [if_pos hp, if_pos hp, if_pos hp, if_pos hp]
        by_cases hb : 1152921504606846976 < s + hN x
        · rw [if_pos hb, decide_eq_false (show ¬ (s + (hN x + hS l) ≤ 1152921504606846976) by omega)]
          simp
        · rw [if_neg hb, ih _ _ _ (by omega), show s + hN x + hS l = s + (hN x + hS l) by omega, show u + 1 + hU l = u + (hU l + 1) by omega]
      · rw [if_neg hp, if_neg hp, if_neg hp, if_neg hp, ih _ _ _ hs]
theorem spec_HuffOk_l0 (xs : List Int) (hm : xs.length ≤ 300) (hw : ∀ x ∈ xs, -9223372036854775808 ≤ x ∧ x ≤ 9223372036854775807) : ∀ (d n u s : Nat) (last : Int), n + d = xs.length → u ≤ n → s ≤ 1152921504606846976 → Ev (fun k => spec_HuffOk.l0 k xs (u : Int) (s : Int) last (n : Int)) (hsp (xs.drop n) u s last) := by
  intro d
  induction d with
  | zero =>
    intro n u s last hn hu hs
    refine Ev.step (fun k => by rw [spec_HuffOk.l0]) ?_
    refine ev_neg (by omega) ?_
    rw [List.drop_eq_nil_of_le (by omega), hsp]
    have h60 := spec_l02Pow_ev 60 (by decide)
    have e : ((s : Int) == ((2 ^ 60 : Nat) : Int)) = decide (s = 1152921504606846976) := by
      rw [Bool.eq_iff_iff]; simp; omega
    by_cases h1 : u = 1
    · rw [if_pos h1]
      refine ev_pos (by omega) ?_
      by_cases h2 : last = 1
      · rw [if_pos h2]; exact ev_pos h2 (ev_now _)
      · rw [if_neg h2]; exact ev_neg h2 (ev_bind h60 (ev_now' e))
    · rw [if_neg h1]
      exact ev_neg (by omega) (ev_bind h60 (ev_now' e))
  | succ d ih =>
    intro n u s last hn hu hs
    have hlt : n < xs.length := by omega
    have hx := hw _ (List.getElem_mem hlt)
    refine Ev.step (fun k => by rw [spec_HuffOk.l0]) ?_
    refine ev_pos (by omega) (ev_pos (by omega) ?_)
    rw [rd_lt hlt, List.drop_eq_getElem_cons hlt, hsp]
    have bad : (xs[n] < 0 ∨ 60 < xs[n]) → Ev (fun k => spec_HuffOk.j1 k xs (u : Int) (s : Int) last (n : Int) true) false := fun _ => Ev.step (fun k => by rw [spec_HuffOk.j1]) (ev_pos rfl (ev_now _))
    by_cases h1 : xs[n] < 0
    · rw [if_pos (Or.inl h1)]; exact ev_pos h1 (bad (Or.inl h1))
    · refine ev_neg h1 ?_
      by_cases h2 : 60 < xs[n]
      · rw [if_pos (Or.inr h2), decide_eq_true h2]; exact bad (Or.inr h2)
      · rw [if_neg (by omega), decide_eq_false (by omega)]
        refine Ev.step (fun k => by rw [spec_HuffOk.j1]) (ev_neg (by decide) (ev_pos (by omega) (ev_pos (by omega) ?_)))
        rw [rd_lt hlt]
        by_cases h3 : 0 < xs[n]
        · rw [if_pos h3]
          have hle := hN_le xs[n]
          have e1 : wrap64 (60 - xs[n]) = ((60 - xs[n].toNat : Nat) : Int) := by rw [w64 (by omega) (by omega)]; omega
          have e2 : ((2 ^ (60 - xs[n].toNat) : Nat) : Int) = ((hN xs[n] : Nat) : Int) := rfl
          rw [e1]
          refine ev_pos h3 (ev_bind (spec_l02Pow_ev (60 - xs[n].toNat) (by omega)) (ev_bind (spec_l02Pow_ev 60 (by decide)) ?_))
          rw [e2, w64 (n := (s : Int) + ((hN xs[n] : Nat) : Int)) (by omega) (by omega), w64 (n := (u : Int) + 1) (by omega) (by omega), w64 (n := (n : Int) + 1) (by omega) (by omega)]
          by_cases h4 : 1152921504606846976 < s + hN xs[n]
          · rw [if_pos h4]; exact ev_pos (by omega) (ev_now _)
          · rw [if_neg h4]
            exact ev_neg (by omega) (ih (n + 1) (u + 1) (s + hN xs[n]) _ (by omega) (by omega) (by omega))
        · rw [if_neg h3, w64 (n := (n : Int) + 1) (by omega) (by omega)]
          exact ev_neg (by omega) (ih (n + 1) u s _ (by omega) (by omega) hs)
theorem spec_HuffOk_ev (xs : List Int) (hw : ∀ x ∈ xs, -9223372036854775808 ≤ x ∧ x ≤ 9223372036854775807) : Ev (fun k => spec_HuffOk.f k xs) (decide (xs.length ≤ 300) && hsp xs 0 0 0) := by
  unfold spec_HuffOk.f
  refine ev_ite (fun h => ev_now' ?_) (fun h => ev_eq (spec_HuffOk_l0 xs (by omega) hw xs.length 0 0 0 0 (by omega) (by omega) (by omega)) ?_)
  · rw [decide_eq_false (by omega)]; rfl
  · rw [decide_eq_true (by omega)]; rfl
/-- the whole test, in one word -/
def huffOk (xs : List Int) : Bool := decide (xs.length ≤ 300) && hsp xs 0 0 0
/-- the next code word -/
def nextCode (code prev len : Int) : Int := if prev > 0 then wrap64 (wrap64 (code + 1) * ((2 ^ (len - prev).toNat : Nat) : Int)) else code
/-- one length's pass -/
def codesRow : List Int → Nat → Int → List Int × Int × Int → List Int × Int × Int
  | [], _, _, st => st
  | x :: l, i, len, st => if x = len then codesRow l (i + 1) len (st.1.set i (nextCode st.2.1 st.2.2 len), nextCode st.2.1 st.2.2 len, len) else codesRow l (i + 1) len st
def codesAll (xs : List Int) : Nat → Nat → List Int × Int × Int → List Int
  | 0, _, st => st.1
  | d + 1, len, st => codesAll xs d (len + 1) (codesRow xs 0 (len : Int) st)
/-- what every state keeps -/
structure CodesI (n : Nat) (len : Int) (st : List Int × Int × Int) : Prop where
  lenS : st.1.length = n
  lo : 0 ≤ st.2.2
  hi : st.2.2 ≤ len
  zero : st.2.2 > 0 ∨ st.2.1 = 0
theorem codesI_set {n : Nat} {len : Int} {st : List Int × Int × Int} (h : CodesI n len st) (hl : 0 < len) (i : Nat) (v : Int) : CodesI n len (st.1.set i v, v, len) := ⟨by simp [h.lenS], by show 0 ≤ len; omega, Int.le_refl _, Or.inl hl⟩
theorem codesRow_I {n : Nat} {len : Int} (hl : 0 < len) : ∀ (l : List Int) (i : Nat) (st : List Int × Int × Int), CodesI n len st → CodesI n len (codesRow l i len st) := by
  intro l
  induction l with
  | nil => intro i st h; exact h
  | cons x l ih =>
    intro i st h
    rw [codesRow]
    split
    · exact ih _ _ (codesI_set h hl _ _)
    · exact ih _ _ h
theorem spec_HuffCodes_l1 (xs : List Int) (hm : xs.length ≤ 300) (len : Nat) (hl : 0 < len) (hl2 : len ≤ 60) (r : List Int) : ∀ (d n : Nat) (st : List Int × Int × Int), n + d = xs.length → CodesI xs.length len st →
    Ev (fun k => spec_HuffCodes.l0 k xs (codesRow (xs.drop n) n len st).1 (codesRow (xs.drop n) n len st).2.1 (codesRow (xs.drop n) n len st).2.2 ((len + 1 : Nat) : Int)) r →
    Ev (fun k => spec_HuffCodes.l1 k xs st.1 st.2.1 st.2.2 (len : Int) (n : Int)) r := by
  intro d
  induction d with
  | zero =>
    intro n st hn hI h
    rw [List.drop_eq_nil_of_le (by omega)] at h
    refine Ev.step (fun k => by rw [spec_HuffCodes.l1]) ?_
    rw [w64 (n := (len : Int) + 1) (by omega) (by omega)]
    exact ev_neg (by omega) h
  | succ d ih =>
    intro n st hn hI h
    have hlt : n < xs.length := by omega
    rw [List.drop_eq_getElem_cons hlt, codesRow] at h
    refine Ev.step (fun k => by rw [spec_HuffCodes.l1]) ?_
    rw [rd_lt hlt, w64 (n := (n : Int) + 1) (by omega) (by omega), Int.toNat_natCast]
    refine ev_pos (by omega) (ev_pos (by omega) ?_)
    have hlen := hI.lenS
    have hlo := hI.lo
    have hhi := hI.hi
    by_cases e : xs[n] = (len : Int)
    · rw [if_pos e] at h
      have h' := ih (n + 1) _ (by omega) (codesI_set hI (by omega) n (nextCode st.2.1 st.2.2 len)) h
      refine ev_pos e (ev_ite (fun g => ?_) (fun g => ?_))
      · have e1 : wrap64 ((len : Int) - st.2.2) = ((((len : Int) - st.2.2).toNat : Nat) : Int) := by rw [w64 (by omega) (by omega)]; omega
        rw [e1]
        refine ev_bind (spec_l02Pow_ev _ (by omega)) (ev_pos (by omega) ?_)
        unfold nextCode at h'
        rw [if_pos g] at h'
        exact h'
      · unfold nextCode at h'
        rw [if_neg g] at h'
        exact ev_pos (by omega) h'
    · rw [if_neg e] at h
      exact ev_neg e (ih (n + 1) st (by omega) hI h)
theorem spec_HuffCodes_l0 (xs : List Int) (hm : xs.length ≤ 300) : ∀ (d len : Nat) (st : List Int × Int × Int), len + d = 61 → 0 < len → CodesI xs.length len st → Ev (fun k => spec_HuffCodes.l0 k xs st.1 st.2.1 st.2.2 (len : Int)) (codesAll xs d len st) := by
  intro d
  induction d with
  | zero =>
    intro len st hd hl hI
    refine Ev.step (fun k => by rw [spec_HuffCodes.l0]) ?_
    exact ev_neg (by omega) (ev_now _)
  | succ d ih =>
    intro len st hd hl hI
    refine Ev.step (fun k => by rw [spec_HuffCodes.l0]) (ev_pos (by omega) ?_)
    refine spec_HuffCodes_l1 xs hm len hl (by omega) _ xs.length 0 st (by omega) hI ?_
    rw [List.drop_zero]
    have hI2 := codesRow_I (n := xs.length) (len := (len : Int)) (by omega) xs 0 st hI
    exact ih (len + 1) _ (by omega) (by omega) ⟨hI2.lenS, hI2.lo, by have := hI2.hi; omega, hI2.zero⟩
def codesR (xs : List Int) : List Int := codesAll xs 60 1 (List.replicate xs.length 0, 0, 0)
theorem codesI_start (xs : List Int) : CodesI xs.length ((1 : Nat) : Int) (List.replicate xs.length 0, 0, 0) := ⟨by simp, by show (0 : Int) ≤ 0; omega, by show (0 : Int) ≤ 1; omega, Or.inr rfl⟩
theorem codesAll_length (xs : List Int) (n : Nat) : ∀ (d len : Nat) (st : List Int × Int × Int), 0 < len → CodesI n len st → (codesAll xs d len st).length = n := by
  intro d
  induction d with
  | zero => intro len st _ h; exact h.lenS
  | succ d ih =>
    intro len st hl h
    have hI2 := codesRow_I (n := n) (len := (len : Int)) (by omega) xs 0 st h
    exact ih (len + 1) _ (by omega) ⟨hI2.lenS, hI2.lo, by have := hI2.hi; omega, hI2.zero⟩
theorem codesR_length (xs : List Int) : (codesR xs).length = xs.length := codesAll_length xs xs.length 60 1 _ (by omega) (codesI_start xs)
theorem huffOk_len {m : List Int} (h : huffOk m = true) : m.length ≤ 300 := by
  unfold huffOk at h
  rw [Bool.and_eq_true] at h
  exact of_decide_eq_true h.1
theorem spec_HuffCodes_ev (xs : List Int) (hw : ∀ x ∈ xs, -9223372036854775808 ≤ x ∧ x ≤ 9223372036854775807) : Ev (fun k => spec_HuffCodes.f k xs) (if huffOk xs = true then codesR xs else []) := by
  unfold spec_HuffCodes.f
  refine ev_bind (spec_HuffOk_ev xs hw) (ev_ite (fun h => ?_) (fun h => ?_))
  · have h' : huffOk xs = true := h
    have hlen := huffOk_len h'
    rw [if_pos h', Int.toNat_natCast]
    exact ev_pos (by omega) (ev_pos (by omega) (spec_HuffCodes_l0 xs hlen 60 1 _ (by omega) (by omega) (codesI_start xs)))
  · have h' : ¬ huffOk xs = true := h
    rw [if_neg h']; exact ev_now _
theorem impl_within_f (a b c : Int) : impl_within.f a b c = some (decide (b ≤ a ∧ a ≤ c)) := by
  unfold impl_within.f
  by_cases h : b ≤ a <;> simp [h]
theorem impl_HuffOk_1_f (a : Int) : impl_HuffOk_1.f a = some (decide (0 ≤ a ∧ a ≤ 60)) := by
  unfold impl_HuffOk_1.f
  rw [impl_within_f]; rfl
theorem slices_Max_int_int_l0 (xs : List Int) (hm : xs.length ≤ 1099511627776) : ∀ (d n : Nat) (m : Int), n + d = xs.length → Ev (fun k => slices_Max_int_int.l0 k xs m (n : Int)) ((xs.drop n).foldl mx m) := by
  intro d
  induction d with
  | zero =>
    intro n m hn
    refine Ev.step (fun k => by rw [slices_Max_int_int.l0]) ?_
    refine ev_neg (by omega) (ev_now' ?_)
    rw [List.drop_eq_nil_of_le (by omega)]; rfl
  | succ d ih =>
    intro n m hn
    have hlt : n < xs.length := by omega
    refine Ev.step (fun k => by rw [slices_Max_int_int.l0]) ?_
    refine ev_pos (by omega) (ev_pos (by omega) ?_)
    rw [rd_lt hlt, w64 (by omega) (by omega), List.drop_eq_getElem_cons hlt, List.foldl_cons]
    exact ih (n + 1) _ (by omega)
theorem slices_Max_int_int_ev (x : Int) (xs : List Int) (hm : xs.length ≤ 1000000) : Ev (fun k => slices_Max_int_int.f k (x :: xs)) (xs.foldl mx x) := by
  unfold slices_Max_int_int.f
  refine ev_neg (by simp only [List.length_cons]; omega) (ev_pos (by simp only [List.length_cons]; omega) ?_)
  exact slices_Max_int_int_l0 (x :: xs) (by simp; omega) xs.length 1 x (by simp; omega)
theorem allO_all (p : Int → Option Bool) (q : Int → Bool) (h : ∀ x, p x = some (q x)) (l : List Int) : allO p l = some (l.all q) := by
  induction l with
  | nil => rfl
  | cons x l ih =>
    rw [allO, h x, Option.bind_some]
    cases hq : q x
    · simp [hq]
    · rw [if_pos rfl, ih]; simp [hq]
theorem impl_areAll_HuffOk_1_f (l : List Int) : impl_areAll_HuffOk_1.f l = some (l.all fun a => decide (0 ≤ a ∧ a ≤ 60)) := allO_all _ _ impl_HuffOk_1_f l
theorem hmax_zero (l : List Int) (hr : hrange l = true) (hu : hU l = 0) (m : Int) (hm : 0 ≤ m) : l.foldl mx m = m := by
  induction l with
  | nil => rfl
  | cons x l ih =>
    unfold hrange at hr
    rw [List.all_cons, Bool.and_eq_true] at hr
    have hx := of_decide_eq_true hr.1
    rw [hU] at hu
    by_cases hp : 0 < x
    · rw [if_pos hp] at hu; omega
    · rw [if_neg hp] at hu
      rw [List.foldl_cons, show mx m x = m by unfold mx; split <;> omega]
      exact ih hr.2 hu
theorem hlast_zero (l : List Int) (hu : hU l = 0) (d : Int) : hLast l d = d := by
  induction l with
  | nil => rfl
  | cons x l ih =>
    rw [hU] at hu
    by_cases hp : 0 < x
    · rw [if_pos hp] at hu; omega
    · rw [if_neg hp] at hu
      rw [hLast, if_neg hp]; exact ih hu
theorem hmax_one (l : List Int) (hr : hrange l = true) (hu : hU l = 1) (m : Int) (hm : 0 = m) (d : Int) : l.foldl mx m = hLast l d := by
  subst hm
  induction l with
  | nil => simp [hU] at hu
  | cons x l ih =>
    unfold hrange at hr
    rw [List.all_cons, Bool.and_eq_true] at hr
    have hx := of_decide_eq_true hr.1
    rw [hU] at hu
    rw [List.foldl_cons, hLast]
    by_cases hp : 0 < x
    · rw [if_pos hp] at hu
      rw [if_pos hp, show mx 0 x = x by unfold mx; split <;> omega, hmax_zero l hr.2 (by omega) x (by omega), hlast_zero l (by omega)]
    · rw [if_neg hp] at hu
      rw [if_neg hp, show mx 0 x = 0 by unfold mx; split <;> omega]
      exact ih hr.2 hu
theorem hS_one (l : List Int) (hu : hU l = 1) : hS l ≤ 1152921504606846976 := by
  have h0 : ∀ l : List Int, hU l = 0 → hS l = 0 := by
    intro l
    induction l with
    | nil => intro _; rfl
    | cons x l ih =>
      intro hu
      rw [hU] at hu
      by_cases hp : 0 < x
      · rw [if_pos hp] at hu; omega
      · rw [if_neg hp] at hu; rw [hS, if_neg hp]; exact ih hu
  induction l with
  | nil => simp [hS]
  | cons x l ih =>
    rw [hU] at hu
    rw [hS]
    by_cases hp : 0 < x
    · rw [if_pos hp] at hu
      rw [if_pos hp, h0 l (by omega)]
      have := hN_le x; omega
    · rw [if_neg hp] at hu; rw [if_neg hp]; exact ih hu
def mxAll : List Int → Int
  | [] => 0
  | x :: l => l.foldl mx x
/-- the program's loop -/
def him (w : List Int) : List Int → Nat → Nat → Bool
  | [], u, s => decide (s = 1152921504606846976) || decide (u = 1 ∧ mxAll w = 1)
  | x :: l, u, s => if 0 < x then him w l (u + 1) (min (s + hN x) 1152921504606846977) else him w l u s
theorem him_eq (w : List Int) (l : List Int) : ∀ (u s t : Nat), s = min t 1152921504606846977 → him w l u s = (decide (t + hS l = 1152921504606846976) || decide (u + hU l = 1 ∧ mxAll w = 1)) := by
  induction l with
  | nil =>
    intro u s t hs
    rw [him, hS, hU]
    congr 1
    rw [decide_eq_decide]; omega
  | cons x l ih =>
    intro u s t hs
    rw [him, hS, hU]
    by_cases hp : 0 < x
    · rw [if_pos hp, if_pos hp, if_pos hp, ih (u + 1) _ (t + hN x) (by omega), show t + hN x + hS l = t + (hN x + hS l) by omega, show u + 1 + hU l = u + (hU l + 1) by omega]
    · rw [if_neg hp, if_neg hp, if_neg hp, ih u s t hs]
theorem hU_le (l : List Int) : hU l ≤ l.length := by
  induction l with
  | nil => simp [hU]
  | cons x l ih => rw [hU]; split <;> simp <;> omega
theorem impl_HuffOk_l0 (xs : List Int) (hm : xs.length ≤ 300) (hr : hrange xs = true) : ∀ (d n u s : Nat), n + d = xs.length → u ≤ n → s ≤ 1152921504606846977 → Ev (fun k => impl_HuffOk.l0 k xs (u : Int) (s : Int) xs (xs.length : Int) (n : Int)) (him xs (xs.drop n) u s) := by
  intro d
  induction d with
  | zero =>
    intro n u s hn hu hs
    refine Ev.step (fun k => by rw [impl_HuffOk.l0]) ?_
    refine ev_neg (by omega) ?_
    rw [List.drop_eq_nil_of_le (by omega), him]
    by_cases h1 : s = 1152921504606846976
    · rw [decide_eq_true h1, Bool.true_or]; exact ev_pos (by omega) (ev_now _)
    · rw [decide_eq_false h1, Bool.false_or]
      refine ev_neg (by omega) ?_
      by_cases h2 : u = 1
      · refine ev_pos (by omega) ?_
        cases xs with
        | nil => simp at hn; omega
        | cons x l =>
          refine ev_bind (slices_Max_int_int_ev x l (by simp at hm; omega)) (ev_now' ?_)
          rw [Bool.eq_iff_iff]; simp [h2, mxAll]
      · refine ev_neg (by omega) (ev_now' ?_)
        exact (decide_eq_false (fun h => h2 h.1)).symm
  | succ d ih =>
    intro n u s hn hu hs
    have hlt : n < xs.length := by omega
    have hx : 0 ≤ xs[n] ∧ xs[n] ≤ 60 := by
      unfold hrange at hr
      exact of_decide_eq_true (List.all_eq_true.1 hr _ (List.getElem_mem hlt))
    refine Ev.step (fun k => by rw [impl_HuffOk.l0]) ?_
    refine ev_pos (by omega) (ev_pos (by omega) (ev_pos (by omega) ?_))
    rw [rd_lt hlt, w64 (n := (n : Int) + 1) (by omega) (by omega), List.drop_eq_getElem_cons hlt, him]
    by_cases h3 : 0 < xs[n]
    · have hle := hN_le xs[n]
      have e1 : wrap64 (60 - xs[n]) = ((60 - xs[n].toNat : Nat) : Int) := by rw [w64 (by omega) (by omega)]; omega
      have e2 : shl .i64 1 ((60 - xs[n].toNat : Nat) : Int) = ((hN xs[n] : Nat) : Int) := by
        unfold shl hN
        rw [Int.toNat_natCast, Nat.min_eq_left (by simp [IntKind.bits]; omega), Int.one_mul]
        have hp : 2 ^ (60 - xs[n].toNat) ≤ 2 ^ 60 := Nat.pow_le_pow_right (by decide) (by omega)
        rw [show ((2 : Int) ^ (60 - xs[n].toNat)) = ((2 ^ (60 - xs[n].toNat) : Nat) : Int) by simp]
        generalize 2 ^ (60 - xs[n].toNat) = q at hp ⊢
        exact wraps_i64 _ (by omega) (by omega)
      rw [if_pos h3, e1, e2, w64 (n := (u : Int) + 1) (by omega) (by omega), w64 (n := (s : Int) + ((hN xs[n] : Nat) : Int)) (by omega) (by omega)]
      have e3 : mn ((s : Int) + ((hN xs[n] : Nat) : Int)) 1152921504606846977 = ((min (s + hN xs[n]) 1152921504606846977 : Nat) : Int) := by unfold mn; split <;> omega
      rw [e3]
      exact ev_pos h3 (ev_pos (by omega) (ih (n + 1) (u + 1) _ (by omega) (by omega) (by omega)))
    · rw [if_neg h3]
      exact ev_neg (by omega) (ih (n + 1) u s (by omega) (by omega) hs)
theorem him_hsp (xs : List Int) (hr : hrange xs = true) : him xs xs 0 0 = hsp xs 0 0 0 := by
  rw [him_eq xs xs 0 0 0 (by omega), hsp_eq xs 0 0 0 (by omega), hr, Bool.true_and, Nat.zero_add, Nat.zero_add]
  by_cases hu : hU xs = 1
  · have hs := hS_one xs hu
    rw [decide_eq_true hs, Bool.true_and, Bool.or_comm]
    congr 1
    rw [decide_eq_decide]
    have e : mxAll xs = hLast xs 0 := by
      rw [← hmax_one xs hr hu 0 rfl 0]
      cases xs with
      | nil => rfl
      | cons x l =>
        rw [List.foldl_cons]
        have hx : 0 ≤ x := by
          unfold hrange at hr
          have := of_decide_eq_true (List.all_eq_true.1 hr x (by simp))
          omega
        rw [show mx 0 x = x by unfold mx; split <;> omega]
        rfl
    rw [e]
  · have a : decide (hU xs = 1 ∧ mxAll xs = 1) = false := decide_eq_false (fun h => hu h.1)
    have b : decide (hU xs = 1 ∧ hLast xs 0 = 1) = false := decide_eq_false (fun h => hu h.1)
    rw [a, b, Bool.or_false, Bool.false_or]
    by_cases hs : hS xs = 1152921504606846976
    · rw [decide_eq_true hs, decide_eq_true (by omega)]; rfl
    · rw [decide_eq_false hs, Bool.and_false]
theorem impl_HuffOk_ev (xs : List Int) : Ev (fun k => impl_HuffOk.f k xs) (decide (xs.length ≤ 300) && hsp xs 0 0 0) := by
  unfold impl_HuffOk.f
  refine ev_ite (fun h => ?_) (fun h => ?_)
  · refine Ev.step (fun k => by rw [impl_HuffOk.j0]) (ev_pos rfl (ev_now' ?_))
    rw [decide_eq_false (by omega)]; rfl
  · rw [decide_eq_true (show xs.length ≤ 300 by omega), Bool.true_and]
    refine ev_some (impl_areAll_HuffOk_1_f xs) ?_
    cases hr : hrange xs
    · have hr' : (xs.all fun a => decide (0 ≤ a ∧ a ≤ 60)) = false := hr
      rw [hr']
      refine Ev.step (fun k => by rw [impl_HuffOk.j0]) (ev_pos (by decide) (ev_now' ?_))
      rw [hsp_eq xs 0 0 0 (by omega), hr]; rfl
    · have hr' : (xs.all fun a => decide (0 ≤ a ∧ a ≤ 60)) = true := hr
      rw [hr', ← him_hsp xs hr]
      refine Ev.step (fun k => by rw [impl_HuffOk.j0]) (ev_neg (by decide) ?_)
      exact impl_HuffOk_l0 xs (by omega) hr xs.length 0 0 0 (by omega) (by omega) (by omega)
def inCode (st : List Int × Int × Int) : Int := if st.2.2 > 0 then wrap64 (st.2.1 + 1) else 0
theorem impl_huffCodes_l1 (xs : List Int) (hm : xs.length ≤ 300) (len : Nat) (hl : 0 < len) (hl2 : len ≤ 60) (r : List Int) : ∀ (d n : Nat) (st : List Int × Int × Int), n + d = xs.length → CodesI xs.length len st →
    Ev (fun k => impl_huffCodes.l0 k xs (codesRow (xs.drop n) n len st).1 (inCode (codesRow (xs.drop n) n len st)) (codesRow (xs.drop n) n len st).2.2 ((len + 1 : Nat) : Int)) r →
    Ev (fun k => impl_huffCodes.l1 k xs st.1 (inCode st) st.2.2 (len : Int) xs (xs.length : Int) (n : Int)) r := by
  intro d
  induction d with
  | zero =>
    intro n st hn hI h
    rw [List.drop_eq_nil_of_le (by omega)] at h
    refine Ev.step (fun k => by rw [impl_huffCodes.l1]) ?_
    rw [w64 (n := (len : Int) + 1) (by omega) (by omega)]
    exact ev_neg (by omega) h
  | succ d ih =>
    intro n st hn hI h
    have hlt : n < xs.length := by omega
    rw [List.drop_eq_getElem_cons hlt, codesRow] at h
    refine Ev.step (fun k => by rw [impl_huffCodes.l1]) ?_
    rw [rd_lt hlt, w64 (n := (n : Int) + 1) (by omega) (by omega), Int.toNat_natCast]
    refine ev_pos (by omega) (ev_pos (by omega) (ev_pos (by omega) ?_))
    have hlen := hI.lenS
    have hlo := hI.lo
    have hhi := hI.hi
    by_cases e : xs[n] = (len : Int)
    · rw [if_pos e] at h
      have h' := ih (n + 1) _ (by omega) (codesI_set hI (by omega) n (nextCode st.2.1 st.2.2 len)) h
      have e1 : wrap64 ((len : Int) - st.2.2) = ((((len : Int) - st.2.2).toNat : Nat) : Int) := by rw [w64 (by omega) (by omega)]; omega
      have e2 : shl .i64 (inCode st) ((((len : Int) - st.2.2).toNat : Nat) : Int) = nextCode st.2.1 st.2.2 len := by
        rw [shl_i64 _ _ (by omega)]
        unfold inCode nextCode
        by_cases g : st.2.2 > 0
        · rw [if_pos g, if_pos g]
        · rw [if_neg g, if_neg g, Int.zero_mul]
          rcases hI.zero with z | z
          · exact absurd z g
          · rw [z]; exact w64 (by omega) (by omega)
      have e3 : inCode (st.1.set n (nextCode st.2.1 st.2.2 len), nextCode st.2.1 st.2.2 len, (len : Int)) = wrap64 (nextCode st.2.1 st.2.2 len + 1) := by
        unfold inCode
        exact if_pos (show (len : Int) > 0 by omega)
      rw [e3] at h'
      rw [e1, e2]
      exact ev_pos e (ev_pos (by omega) (ev_pos (by omega) h'))
    · rw [if_neg e] at h
      exact ev_neg e (ih (n + 1) st (by omega) hI h)
theorem impl_huffCodes_l0 (xs : List Int) (hm : xs.length ≤ 300) : ∀ (d len : Nat) (st : List Int × Int × Int), len + d = 61 → 0 < len → CodesI xs.length len st → Ev (fun k => impl_huffCodes.l0 k xs st.1 (inCode st) st.2.2 (len : Int)) (codesAll xs d len st) := by
  intro d
  induction d with
  | zero =>
    intro len st hd hl hI
    refine Ev.step (fun k => by rw [impl_huffCodes.l0]) ?_
    exact ev_neg (by omega) (ev_now _)
  | succ d ih =>
    intro len st hd hl hI
    refine Ev.step (fun k => by rw [impl_huffCodes.l0]) (ev_pos (by omega) ?_)
    refine impl_huffCodes_l1 xs hm len hl (by omega) _ xs.length 0 st (by omega) hI ?_
    rw [List.drop_zero]
    have hI2 := codesRow_I (n := xs.length) (len := (len : Int)) (by omega) xs 0 st hI
    exact ih (len + 1) _ (by omega) (by omega) ⟨hI2.lenS, hI2.lo, by have := hI2.hi; omega, hI2.zero⟩
theorem impl_huffCodes_ev (xs : List Int) (h : huffOk xs = true) : Ev (fun k => impl_huffCodes.f k xs) (codesR xs) := by
  have hlen := huffOk_len h
  unfold impl_huffCodes.f
  rw [Int.toNat_natCast]
  exact ev_pos (by omega) (ev_pos (by omega) (impl_huffCodes_l0 xs hlen 60 1 (List.replicate xs.length 0, 0, 0) (by omega) (by omega) (codesI_start xs)))
theorem impl_HuffCodes_ev (xs : List Int) : Ev (fun k => impl_HuffCodes.f k xs) (if huffOk xs = true then codesR xs else []) := by
  unfold impl_HuffCodes.f
  refine ev_bind (impl_HuffOk_ev xs) (ev_ite (fun h => ?_) (fun h => ?_))
  · have h' : huffOk xs = true := h
    rw [if_pos h']
    exact ev_bind (impl_huffCodes_ev xs h') (ev_now _)
  · have h' : ¬ huffOk xs = true := h
    rw [if_neg h']; exact ev_now _

theorem FnExactHuffCodes : laws_FnExactHuffCodes.Pure := by
  intro l hl _ hw
  refine Ev.rounds ?_
  unfold laws_FnExactHuffCodes.f
  refine ev_ite (fun _ => ev_now _) (fun h => ?_)
  have hm : l.length ≤ 35184372088832 := by omega
  obtain ⟨out, hs, hi, ho⟩ : ∃ out, Ev (fun k => spec_HuffCodes.f k l) out ∧ Ev (fun k => impl_HuffCodes.f k l) out ∧ out.length ≤ 1099511627775 := by
    refine ⟨_, spec_HuffCodes_ev l (fun x hx => wf_i64 (hw x hx)), impl_HuffCodes_ev l, ?_⟩
    split
    · rw [codesR_length]; omega
    · simp
  have hml : (1 : Nat) + l.length ≤ 1099511627776 := by omega
  have hmo : (1 : Nat) + out.length ≤ 1099511627776 := by omega
  have hj : Ev (fun k => laws_FnExactHuffCodes.j0 k l out out false) true := by
    refine Ev.step (fun k => by rw [laws_FnExactHuffCodes.j0]) (ev_neg (by decide) ?_)
    refine ev_bind (laws_markIntS_ev out 1 hmo) (ev_bind (laws_heldIntS_ev out.length 1 hmo) (ev_neg (by omega) (ev_pos rfl ?_)))
    refine ev_bind (laws_toIntS_ev l hm) (ev_bind hi (ev_bind (laws_eqIntS_ev out out (by omega)) (ev_pos (by simp) ?_)))
    exact ev_bind (laws_heldIntS_ev out.length 1 hmo) (ev_neg (by omega) (ev_pos rfl (ev_now _)))
  refine ev_bind (laws_toIntS_ev l hm) (ev_bind hs (ev_bind (laws_toIntS_ev l hm) (ev_bind hi (ev_bind (laws_eqIntS_ev out out (by omega)) (ev_pos (by simp) ?_)))))
  refine ev_bind (laws_toIntS_ev l hm) (ev_bind (laws_eqIntS_ev l l (by omega)) (ev_pos (by simp) ?_))
  refine ev_bind (laws_markIntS_ev l 1 hml) (ev_neg (by omega) (ev_bind (laws_eqIntS_ev out out (by omega)) ?_))
  rw [show (!decide (out = out)) = false by simp]
  exact hj

end Go.Proofs.Ytindkfapbgmjgaa.Pure
