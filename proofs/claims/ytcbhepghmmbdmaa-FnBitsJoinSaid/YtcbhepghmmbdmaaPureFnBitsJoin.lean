/- The pure statement of the law FnBitsJoin: the program's answers equal the reference's, for all arguments within the row's bounds. -/
import Derived.Test.YtcbhepghmmbdmaaQFnBitsJoinx10
import Derived.Test.YtcbhepghmmbdmaaLib
namespace Go.Proofs.Ytcbhepghmmbdmaa.Pure
open Go.RowKit Go.Proofs.Ytcbhepghmmbdmaa.QFnBitsJoin Go.Proofs.Ytcbhepghmmbdmaa.Lib Go.Proofs.YtcbhepghmmbdmaaW.PrintWords Go.Proofs.YtcbhepghmmbdmaaW.PrintLast Go.Proofs.YtcbhepghmmbdmaaW.PrintMore
set_option linter.unusedVariables false
set_option linter.unusedSimpArgs false

def bitsListR (n : Int) (ws : List Int) : List Int := if bitsOk n ws = true then listL n.toNat ws else []
theorem bitsListR_length (n : Int) (ws : List Int) : (bitsListR n ws).length ≤ 5000 := by
  unfold bitsListR
  split
  · rename_i h
    obtain ⟨m, rfl, hm5, hl⟩ := bitsOk_true h
    rw [listL_length]; omega
  · simp
def flipL (l : List Int) : List Int := l.map fun b => 1 - b
theorem flip_step {l : List Int} {n : Nat} (h : n < l.length) : ((l.take n).map (fun b : Int => 1 - b) ++ l.drop n).set n (1 - l[n]) = (l.take (n + 1)).map (fun b : Int => 1 - b) ++ l.drop (n + 1) := by
  have lp : ((l.take n).map (fun b : Int => 1 - b)).length = n := by rw [List.length_map, List.length_take]; omega
  rw [List.set_append_right _ _ (by omega), lp, Nat.sub_self, List.drop_eq_getElem_cons h, List.set_cons_zero, take_snoc' h, List.map_append, List.append_assoc]
  rfl
theorem flip_get {l : List Int} {n : Nat} (h : n < l.length) : rd ((l.take n).map (fun b : Int => 1 - b) ++ l.drop n) (n : Int) = l[n] := by
  have lp : ((l.take n).map (fun b : Int => 1 - b)).length = n := by rw [List.length_map, List.length_take]; omega
  have hl : n < ((l.take n).map (fun b : Int => 1 - b) ++ l.drop n).length := by rw [List.length_append, lp, List.length_drop]; omega
  rw [rd_lt hl, List.getElem_append_right (by omega)]
  simp only [lp, Nat.sub_self, List.getElem_drop, Nat.add_zero]
theorem flip_len {l : List Int} {n : Nat} (h : n ≤ l.length) : ((l.take n).map (fun b : Int => 1 - b) ++ l.drop n).length = l.length := by
  rw [List.length_append, List.length_map, List.length_take, List.length_drop]; omega
theorem flip_bits {l : List Int} (h : isBits l) : isBits (flipL l) := by
  intro b hb
  unfold flipL at hb
  obtain ⟨x, hx, rfl⟩ := List.mem_map.1 hb
  have := h x hx
  omega
def bitsFlipR (n : Int) (ws : List Int) : Int × List Int := (((bitsListR n ws).length : Int), wordsOf (flipL (bitsListR n ws)))
theorem bitsListR_bits (n : Int) (ws : List Int) : isBits (bitsListR n ws) := by
  unfold bitsListR
  split
  · exact listL_bits _ _
  · intro b hb; simp at hb
theorem flipL_length (l : List Int) : (flipL l).length = l.length := List.length_map ..
theorem impl_within_f (a b c : Int) : impl_within.f a b c = some (decide (b ≤ a ∧ a ≤ c)) := by
  unfold impl_within.f
  by_cases h : b ≤ a <;> simp [h]
theorem impl_BitsOk_f (n : Int) (ws : List Int) (hm : ws.length ≤ 140737488355328) (hw : ∀ x ∈ ws, 0 ≤ x ∧ x ≤ 18446744073709551615) : impl_BitsOk.f n ws = some (bitsOk n ws) := by
  unfold impl_BitsOk.f
  rw [impl_within_f, Option.bind_some]
  by_cases h : 0 ≤ n ∧ n ≤ 5000
  · rw [if_pos (by rw [decide_eq_true h])]
    obtain ⟨m, rfl⟩ : ∃ m : Nat, n = (m : Int) := ⟨n.toNat, by omega⟩
    rw [w64 (n := (m : Int) + 64) (by omega) (by omega), w64 (n := (m : Int) + 64 - 1) (by omega) (by omega), show (m : Int) + 64 - 1 = ((m + 63 : Nat) : Int) by omega, show Int.tdiv ((m + 63 : Nat) : Int) 64 = (((m + 63) / 64 : Nat) : Int) from tdiv_nat (m + 63) 64, w64 (n := (((m + 63) / 64 : Nat) : Int)) (by omega) (by omega), show Int.tmod (m : Int) 64 = ((m % 64 : Nat) : Int) from tmod_nat m 64]
    by_cases h1 : ws.length = (m + 63) / 64
    · rw [if_pos (by omega)]
      by_cases h2 : m % 64 = 0
      · rw [if_pos (by omega)]
        unfold bitsOk
        rw [decide_eq_true]
        refine ⟨by omega, by omega, by omega, Or.inl (by omega)⟩
      · rw [if_neg (by omega), w64 (by omega) (by omega), if_pos (by omega), if_pos (by omega), if_pos (by omega)]
        have hlt : ws.length - 1 < ws.length := by omega
        rw [show (ws.length : Int) - 1 = ((ws.length - 1 : Nat) : Int) by omega, rd_lt hlt]
        have hx := hw _ (List.getElem_mem hlt)
        obtain ⟨w, e⟩ : ∃ w : Nat, ws[ws.length - 1] = (w : Int) := ⟨ws[ws.length - 1].toNat, by omega⟩
        rw [e, shr_u64 _ _ (by omega)]
        congr 1
        unfold bitsOk
        rw [List.getD_eq_getElem?_getD, List.getElem?_eq_getElem hlt, Option.getD_some, e, Int.toNat_natCast, show ((m : Int) % 64).toNat = m % 64 by omega]
        generalize w / 2 ^ (m % 64) = q
        by_cases h3 : q = 0
        · subst h3
          rw [decide_eq_true]
          · rfl
          · exact ⟨by omega, by omega, by omega, Or.inr rfl⟩
        · rw [decide_eq_false (by omega)]
          exact beq_eq_false_iff_ne.2 (by omega)
    · rw [if_neg (by omega)]
      congr 1
      exact (decide_eq_false (by omega)).symm
  · rw [if_neg (by rw [decide_eq_false h]; decide)]
    congr 1
    exact (decide_eq_false (by omega)).symm
theorem impl_bitsOf_l0 (xs : List Int) (hm : xs.length ≤ 1000000) (hx : isBits xs) (N : Int) : ∀ (d n : Nat), n + d = xs.length → Ev (fun k => impl_bitsOf.l0 k xs (xs.length : Int) (n : Int) N (tab ((xs.length + 63) / 64) fun w => ((wordAt (xs.take n) w : Nat) : Int))) (N, wordsOf xs) := by
  intro d
  induction d with
  | zero =>
    intro n hn
    refine Ev.step (fun k => by rw [impl_bitsOf.l0]) ?_
    refine ev_neg (by omega) (ev_now' ?_)
    rw [List.take_of_length_le (by omega)]; rfl
  | succ d ih =>
    intro n hn
    have hlt : n < xs.length := by omega
    have lp : (xs.take n).length = n := by rw [List.length_take]; omega
    have e1 : Int.tmod (n : Int) 64 = ((n % 64 : Nat) : Int) := tmod_nat n 64
    have e2 : Int.tdiv (n : Int) 64 = ((n / 64 : Nat) : Int) := tdiv_nat n 64
    have hb := hx _ (List.getElem_mem hlt)
    refine Ev.step (fun k => by rw [impl_bitsOf.l0]) ?_
    rw [rd_lt hlt, e1, e2, w64 (n := (n : Int) + 1) (by omega) (by omega), w64 (n := ((n / 64 : Nat) : Int)) (by omega) (by omega), rd_tab (show n / 64 < (xs.length + 63) / 64 by omega)]
    refine ev_pos (by omega) (ev_pos (by omega) (ev_pos (by omega) (ev_pos (by omega) (ev_pos (by rw [tab_length]; omega) (ev_pos (by omega) ?_)))))
    rw [Int.toNat_natCast, tab_set]
    refine Ev.congr (fun k => ?_) (ih (n + 1) (by omega))
    congr 1
    apply tab_congr
    intro i hi
    rw [take_snoc' hlt, wordAt_snoc, lp]
    by_cases e : i = n / 64
    · subst e
      rw [if_pos rfl, if_pos rfl]
      have hlt2 := wordAt_lt' (isBits_take hx n) (n / 64) (by rw [lp])
      rw [lp] at hlt2
      have hpow : 2 ^ (n % 64) ≤ 2 ^ 63 := Nat.pow_le_pow_right (by decide) (by omega)
      have es : shl .u64 (IntKind.u64.wrap xs[n]) ((n % 64 : Nat) : Int) = ((2 ^ (n % 64) * xs[n].toNat : Nat) : Int) := by
        have hq : xs[n].toNat * 2 ^ (n % 64) < 2 ^ 64 := by
          generalize 2 ^ (n % 64) = q at *
          rcases hb with hb | hb <;> rw [hb] <;> simp <;> omega
        rw [wraps_u64 _ (by omega) (by omega), show xs[n] = ((xs[n].toNat : Nat) : Int) by omega, shl_u64 _ _ (by omega) hq, Int.toNat_natCast, Nat.mul_comm]
      have hlt3 : 2 ^ (n % 64) * xs[n].toNat < 2 ^ 64 := by
        generalize 2 ^ (n % 64) = q at *
        rcases hb with hb | hb <;> rw [hb] <;> simp <;> omega
      rw [es, u64_or_nat _ _ (by omega) (by omega), Nat.or_comm, ← Nat.two_pow_add_eq_or_of_lt hlt2, Nat.add_comm, Nat.mul_comm]
    · rw [if_neg e, if_neg e]
theorem impl_bitsOf_ev (xs : List Int) (hm : xs.length ≤ 1000000) (hx : isBits xs) : Ev (fun k => impl_bitsOf.f k xs) ((xs.length : Int), wordsOf xs) := by
  unfold impl_bitsOf.f
  have e : wrap64 (Int.tdiv (wrap64 (wrap64 ((xs.length : Int) + 64) - 1)) 64) = (((xs.length + 63) / 64 : Nat) : Int) := by
    rw [w64 (n := (xs.length : Int) + 64) (by omega) (by omega), w64 (n := (xs.length : Int) + 64 - 1) (by omega) (by omega), show (xs.length : Int) + 64 - 1 = ((xs.length + 63 : Nat) : Int) by omega]
    rw [show Int.tdiv ((xs.length + 63 : Nat) : Int) 64 = (((xs.length + 63) / 64 : Nat) : Int) from tdiv_nat (xs.length + 63) 64, w64 (by omega) (by omega)]
  rw [e]
  refine ev_pos (by omega) (ev_pos (by omega) ?_)
  rw [Int.toNat_natCast, tab_zero _ (fun w => ((wordAt (xs.take 0) w : Nat) : Int)) (fun i hi => by simp [wordAt, nb])]
  exact impl_bitsOf_l0 xs hm hx _ xs.length 0 (by omega)
theorem impl_Bits_at_f (n : Int) (ws : List Int) (i : Nat) (hi : i / 64 < ws.length) (hm : ws.length ≤ 1000000) (hw : ∀ x ∈ ws, 0 ≤ x ∧ x ≤ 18446744073709551615) : impl_Bits_at.f n ws (i : Int) = some (bitAt ws i) := by
  unfold impl_Bits_at.f
  rw [show Int.tdiv (i : Int) 64 = ((i / 64 : Nat) : Int) from tdiv_nat i 64, show Int.tmod (i : Int) 64 = ((i % 64 : Nat) : Int) from tmod_nat i 64, w64 (n := ((i / 64 : Nat) : Int)) (by omega) (by omega), rd_lt hi]
  rw [if_pos (by omega), if_pos (by omega), if_pos (by omega)]
  have hx := hw _ (List.getElem_mem hi)
  obtain ⟨w, e⟩ : ∃ w : Nat, ws[i / 64] = (w : Int) := ⟨ws[i / 64].toNat, by omega⟩
  rw [e, shr_u64 _ _ (by omega), and1_u64 _ (Nat.lt_of_le_of_lt (Nat.div_le_self _ _) (by omega)), w64 (by omega) (by omega)]
  unfold bitAt
  rw [List.getD_eq_getElem?_getD, List.getElem?_eq_getElem hi, Option.getD_some, e, Int.toNat_natCast]
theorem impl_Bits_list_l0 (n : Nat) (ws : List Int) (hn : n ≤ 5000) (hl : ws.length = (n + 63) / 64) (hw : ∀ x ∈ ws, 0 ≤ x ∧ x ≤ 18446744073709551615) : ∀ (d i : Nat), i + d = n → Ev (fun k => impl_Bits_list.l0 k (tab i (bitAt ws)) (n : Int) (i : Int) (n : Int) ws) (listL n ws) := by
  intro d
  induction d with
  | zero =>
    intro i hi
    refine Ev.step (fun k => by rw [impl_Bits_list.l0]) ?_
    refine ev_neg (by omega) (ev_now' ?_)
    rw [show i = n by omega]; rfl
  | succ d ih =>
    intro i hi
    refine Ev.step (fun k => by rw [impl_Bits_list.l0]) ?_
    refine ev_pos (by omega) (ev_some (impl_Bits_at_f (n : Int) ws i (by omega) (by omega) hw) (ev_pos (by rw [tab_length]; omega) ?_))
    rw [w64 (by omega) (by omega), ← tab_succ]
    exact ih (i + 1) (by omega)
theorem impl_Bits_list_ev (n : Nat) (ws : List Int) (hn : n ≤ 5000) (hl : ws.length = (n + 63) / 64) (hw : ∀ x ∈ ws, 0 ≤ x ∧ x ≤ 18446744073709551615) : Ev (fun k => impl_Bits_list.f k (n : Int) ws) (listL n ws) := by
  unfold impl_Bits_list.f
  exact impl_Bits_list_l0 n ws hn hl hw n 0 (by omega)
theorem impl_BitsFlip_l0 (l : List Int) (hm : l.length ≤ 5000) (hb : isBits l) : ∀ (d n : Nat), n + d = l.length → Ev (fun k => impl_BitsFlip.l0 k ((l.take n).map (fun b : Int => 1 - b) ++ l.drop n) (l.length : Int) (n : Int)) ((l.length : Int), wordsOf (flipL l)) := by
  intro d
  induction d with
  | zero =>
    intro n hn
    refine Ev.step (fun k => by rw [impl_BitsFlip.l0]) ?_
    refine ev_neg (by omega) ?_
    rw [List.drop_eq_nil_of_le (by omega), List.append_nil, List.take_of_length_le (by omega)]
    refine ev_bind (impl_bitsOf_ev (flipL l) (by rw [flipL_length]; omega) (flip_bits hb)) (ev_now' ?_)
    rw [flipL_length]
  | succ d ih =>
    intro n hn
    have hlt : n < l.length := by omega
    have hx := hb _ (List.getElem_mem hlt)
    refine Ev.step (fun k => by rw [impl_BitsFlip.l0]) ?_
    rw [flip_len (by omega), flip_get hlt, Int.toNat_natCast, w64 (n := 1 - l[n]) (by omega) (by omega), flip_step hlt, w64 (by omega) (by omega)]
    exact ev_pos (by omega) (ev_pos (by omega) (ev_pos (by omega) (ih (n + 1) (by omega))))
theorem impl_BitsFlip_ev (n : Int) (ws : List Int) (hm : ws.length ≤ 140737488355328) (hw : ∀ x ∈ ws, 0 ≤ x ∧ x ≤ 18446744073709551615) : Ev (fun k => impl_BitsFlip.f k n ws) (bitsFlipR n ws) := by
  unfold impl_BitsFlip.f bitsFlipR
  have hlen := bitsListR_length n ws
  have hbit := bitsListR_bits n ws
  refine ev_some (impl_BitsOk_f n ws hm hw) (ev_ite (fun h => ?_) (fun h => ?_))
  · obtain ⟨m, rfl, hm5, hl⟩ := bitsOk_true h
    have e : bitsListR (m : Int) ws = listL m ws := by unfold bitsListR; rw [if_pos h, Int.toNat_natCast]
    rw [e] at hlen hbit ⊢
    refine ev_bind (impl_Bits_list_ev m ws hm5 (by omega) hw) ?_
    have := impl_BitsFlip_l0 (listL m ws) hlen hbit (listL m ws).length 0 (by omega)
    rw [List.take_zero, List.drop_zero, List.map_nil, List.nil_append] at this
    exact this
  · have e : bitsListR n ws = [] := by unfold bitsListR; rw [if_neg h]
    rw [e]; exact ev_now _
theorem spec_l01Power_l0 : ∀ (n m : Nat), n + m ≤ 63 → Ev (fun k => spec_l01Power.l0 k (n : Int) ((2 ^ m : Nat) : Int)) ((2 ^ (n + m) : Nat) : Int) := by
  intro n
  induction n with
  | zero =>
    intro m hm
    refine Ev.step (fun k => by rw [spec_l01Power.l0]) ?_
    exact ev_neg (by omega) (ev_now' (by rw [Nat.zero_add]))
  | succ n ih =>
    intro m hm
    refine Ev.step (fun k => by rw [spec_l01Power.l0]) ?_
    have hp : 2 ^ m ≤ 2 ^ 62 := Nat.pow_le_pow_right (by decide) (by omega)
    have hpp : 2 ^ (m + 1) = 2 ^ m * 2 := Nat.pow_succ ..
    refine ev_pos (by omega) ?_
    rw [w64 (by omega) (by omega), show ((n + 1 : Nat) : Int) - 1 = (n : Int) by omega, show (2 : Int) * ((2 ^ m : Nat) : Int) = ((2 ^ (m + 1) : Nat) : Int) by omega, wraps_u64 _ (by omega) (by omega)]
    refine ev_eq (ih (m + 1) (by omega)) ?_
    rw [show n + (m + 1) = n + 1 + m by omega]
theorem spec_l01Power_ev (n : Nat) (h : n ≤ 63) : Ev (fun k => spec_l01Power.f k (n : Int)) ((2 ^ n : Nat) : Int) := by
  unfold spec_l01Power.f
  exact spec_l01Power_l0 n 0 (by omega)
theorem spec_BitsOf_one (xs : List Int) (hm : xs.length ≤ 5000) (N : Int) (r : Int × List Int × Bool) (n : Nat) (hlt : n < xs.length) (hp : isBits (xs.take n)) (hb : xs[n] = 0 ∨ xs[n] = 1)
    (h : Ev (fun k => spec_BitsOf.l0 k xs (((n + 1 : Nat)) : Int) N (wordsOf (xs.take (n + 1)))) r) : Ev (fun k => spec_BitsOf.j1 k xs (n : Int) false N (wordsOf (xs.take n))) r := by
  have lp : (xs.take n).length = n := by rw [List.length_take]; omega
  have e1 : Int.tmod (n : Int) 64 = ((n % 64 : Nat) : Int) := tmod_nat n 64
  have e2 : Int.tdiv (n : Int) 64 = ((n / 64 : Nat) : Int) := tdiv_nat n 64
  have ys : ∀ ys : List Int, ys = tab (n / 64 + 1) (fun w => ((wordAt (xs.take n) w : Nat) : Int)) → Ev (fun k => if 0 ≤ (n : Int) then (if (n : Int) < (xs.length : Int) then (if (rd xs (n : Int)) = 1 then (if 0 ≤ (wrap64 (Int.tdiv (n : Int) 64)) then (if (wrap64 (Int.tdiv (n : Int) 64)) < (ys.length : Int) then ((spec_l01Power.f k (Int.tmod (n : Int) 64)).bind fun t => (spec_BitsOf.l0 k xs (wrap64 ((n : Int) + 1)) N (ys.set ((wrap64 (Int.tdiv (n : Int) 64)) : Int).toNat (IntKind.u64.wrap ((rd ys (wrap64 (Int.tdiv (n : Int) 64))) + t))))) else (none)) else (none)) else (spec_BitsOf.l0 k xs (wrap64 ((n : Int) + 1)) N ys)) else (none)) else (none)) r := by
    intro ys hys
    refine ev_pos (by omega) (ev_pos (by omega) ?_)
    rw [rd_lt hlt, e1, e2, w64 (n := (n : Int) + 1) (by omega) (by omega), w64 (n := ((n / 64 : Nat) : Int)) (by omega) (by omega)]
    have hw : wordsOf (xs.take (n + 1)) = tab (n / 64 + 1) (fun w => (((if w = n / 64 then wordAt (xs.take n) w + xs[n].toNat * 2 ^ (n % 64) else wordAt (xs.take n) w) : Nat) : Int)) := by
      unfold wordsOf
      rw [show ((xs.take (n + 1)).length + 63) / 64 = n / 64 + 1 by rw [List.length_take]; omega, take_snoc' hlt]
      apply tab_congr
      intro i hi
      rw [wordAt_snoc, lp]
    have hlt2 := wordAt_lt' hp (n / 64) (by rw [lp])
    rw [lp] at hlt2
    have hpow : 2 ^ (n % 64) ≤ 2 ^ 63 := Nat.pow_le_pow_right (by decide) (by omega)
    rw [hw] at h
    refine ev_ite (fun h1 => ?_) (fun h1 => ?_)
    · refine ev_pos (by omega) (ev_pos (by rw [hys, tab_length]; omega) (ev_bind (spec_l01Power_ev (n % 64) (by omega)) ?_))
      rw [hys, rd_tab (by omega), Int.toNat_natCast, tab_set]
      refine Ev.congr (fun k => ?_) h
      congr 1
      apply tab_congr
      intro i hi
      by_cases e : i = n / 64
      · subst e
        rw [if_pos rfl, if_pos rfl, h1]
        generalize 2 ^ (n % 64) = q at *
        rw [wraps_u64 _ (by omega) (by omega)]
        simp
      · rw [if_neg e, if_neg e]
    · have h0 : xs[n] = 0 := by omega
      rw [hys]
      refine Ev.congr (fun k => ?_) h
      congr 1
      apply tab_congr
      intro i hi
      rw [h0]; simp
  refine Ev.step (fun k => by rw [spec_BitsOf.j1]) (ev_neg (by decide) ?_)
  have hws : (n % 64 = 0 → wordsOf (xs.take n) ++ [0] = tab (n / 64 + 1) (fun w => ((wordAt (xs.take n) w : Nat) : Int))) ∧ (n % 64 ≠ 0 → wordsOf (xs.take n) = tab (n / 64 + 1) (fun w => ((wordAt (xs.take n) w : Nat) : Int))) := by
    unfold wordsOf
    rw [lp]
    constructor
    · intro h0
      rw [show (n + 63) / 64 = n / 64 by omega, tab_succ, wordAt_nil (by rw [lp]; omega)]; rfl
    · intro h0
      rw [show (n + 63) / 64 = n / 64 + 1 by omega]
  have hl : (wordsOf (xs.take n)).length < 17592186044416 := by unfold wordsOf; rw [tab_length, lp]; omega
  by_cases h0 : n % 64 = 0
  · refine ev_pos (by rw [e1]; omega) (ev_pos hl ?_)
    exact ev_some rfl (ys _ (hws.1 h0))
  · refine ev_neg (by rw [e1]; omega) (ys _ (hws.2 h0))
theorem spec_BitsOf_l0 (xs : List Int) (hm : xs.length ≤ 5000) (N : Int) : ∀ (d n : Nat), n + d = xs.length → isBits (xs.take n) → Ev (fun k => spec_BitsOf.l0 k xs (n : Int) N (wordsOf (xs.take n))) (if (xs.drop n).all (fun a => decide (a = 0 ∨ a = 1)) = true then (N, wordsOf xs, true) else (0, [], false)) := by
  intro d
  induction d with
  | zero =>
    intro n hn hp
    refine Ev.step (fun k => by rw [spec_BitsOf.l0]) ?_
    refine ev_neg (by omega) (ev_now' ?_)
    rw [List.drop_eq_nil_of_le (by omega), List.take_of_length_le (by omega)]; rfl
  | succ d ih =>
    intro n hn hp
    have hlt : n < xs.length := by omega
    refine Ev.step (fun k => by rw [spec_BitsOf.l0]) ?_
    refine ev_pos (by omega) (ev_pos (by omega) ?_)
    rw [rd_lt hlt, List.drop_eq_getElem_cons hlt, List.all_cons]
    have good : (xs[n] = 0 ∨ xs[n] = 1) → Ev (fun k => spec_BitsOf.j1 k xs (n : Int) false N (wordsOf (xs.take n))) (if (xs.drop (n + 1)).all (fun a => decide (a = 0 ∨ a = 1)) = true then (N, wordsOf xs, true) else (0, [], false)) := by
      intro hb
      refine spec_BitsOf_one xs hm N _ n hlt hp hb (ih (n + 1) (by omega) ?_)
      rw [take_snoc' hlt]
      intro b hb'
      rcases List.mem_append.1 hb' with h | h
      · exact hp b h
      · rw [List.mem_singleton.1 h]; exact hb
    by_cases h0 : xs[n] = 0
    · rw [decide_eq_true (Or.inl h0), Bool.true_and]
      exact ev_pos h0 (good (Or.inl h0))
    · refine ev_neg h0 ?_
      by_cases h1 : xs[n] = 1
      · rw [decide_eq_true (Or.inr h1), Bool.true_and, bne_eq_false_iff_eq.2 h1]
        exact good (Or.inr h1)
      · rw [decide_eq_false (by omega), bne_iff_ne.2 h1]
        refine Ev.step (fun k => by rw [spec_BitsOf.j1]) ?_
        exact ev_pos rfl (ev_now _)
def bitsOfR (xs : List Int) : Int × List Int × Bool := if (decide (xs.length ≤ 5000) && xs.all fun a => decide (a = 0 ∨ a = 1)) = true then ((xs.length : Int), wordsOf xs, true) else (0, [], false)
theorem spec_BitsOf_ev (xs : List Int) : Ev (fun k => spec_BitsOf.f k xs) (bitsOfR xs) := by
  unfold spec_BitsOf.f bitsOfR
  refine ev_ite (fun h => ev_now' ?_) (fun h => ?_)
  · rw [decide_eq_false (by omega)]; rfl
  · rw [decide_eq_true (show xs.length ≤ 5000 by omega), Bool.true_and]
    have h := spec_BitsOf_l0 xs (by omega) (xs.length : Int) xs.length 0 (by omega) (fun b hb => by simp at hb)
    rw [List.drop_zero, show wordsOf (xs.take 0) = [] by rw [List.take_zero]; rfl] at h
    exact h
theorem spec_l01List_l1 (n : Nat) (ws : List Int) (hn : n ≤ 5000) (i v : Nat) (hi : i < n) (r : List Int)
    (h : Ev (fun k => spec_l01List.l0 k (tab (i + 1) (bitAt ws)) ((i + 1 : Nat) : Int) (n : Int) ws) r) : ∀ (s w : Nat), (w / 2 ^ s) % 2 = v % 2 → w < 2 ^ 64 → s ≤ 64 → ((v % 2 : Nat) : Int) = bitAt ws i → Ev (fun k => spec_l01List.l1 k (tab i (bitAt ws)) (i : Int) (w : Int) (s : Int) (n : Int) ws) r := by
  intro s
  induction s with
  | zero =>
    intro w hw hw2 _ hv
    refine Ev.step (fun k => by rw [spec_l01List.l1]) (ev_neg (by omega) (ev_pos (by rw [tab_length]; omega) ?_))
    rw [show Int.tmod (w : Int) 2 = ((w % 2 : Nat) : Int) from tmod_nat w 2, w64 (by omega) (by omega), w64 (by omega) (by omega)]
    refine Ev.congr (fun k => ?_) h
    rw [Nat.pow_zero, Nat.div_one] at hw
    rw [tab_succ, hw, hv]; rfl
  | succ s ih =>
    intro w hw hw2 hs hv
    refine Ev.step (fun k => by rw [spec_l01List.l1]) (ev_pos (by omega) ?_)
    rw [show Int.tdiv (w : Int) 2 = ((w / 2 : Nat) : Int) from tdiv_nat w 2, w64 (by omega) (by omega), wraps_u64 _ (by omega) (by omega), show ((s + 1 : Nat) : Int) - 1 = (s : Int) by omega]
    refine ih (w / 2) ?_ (by omega) (by omega) hv
    rw [← hw, Nat.div_div_eq_div_mul, Nat.pow_succ, Nat.mul_comm]
theorem spec_l01List_l0 (n : Nat) (ws : List Int) (hn : n ≤ 5000) (hl : (n + 63) / 64 ≤ ws.length) (hw : ∀ x ∈ ws, 0 ≤ x ∧ x ≤ 18446744073709551615) : ∀ (d i : Nat), i + d = n → Ev (fun k => spec_l01List.l0 k (tab i (bitAt ws)) (i : Int) (n : Int) ws) (listL n ws) := by
  intro d
  induction d with
  | zero =>
    intro i hi
    refine Ev.step (fun k => by rw [spec_l01List.l0]) ?_
    refine ev_neg (by omega) (ev_now' ?_)
    rw [show i = n by omega]; rfl
  | succ d ih =>
    intro i hi
    have hlt : i / 64 < ws.length := by omega
    refine Ev.step (fun k => by rw [spec_l01List.l0]) ?_
    rw [show Int.tdiv (i : Int) 64 = ((i / 64 : Nat) : Int) from tdiv_nat i 64, show Int.tmod (i : Int) 64 = ((i % 64 : Nat) : Int) from tmod_nat i 64, w64 (n := ((i / 64 : Nat) : Int)) (by omega) (by omega), rd_lt hlt]
    refine ev_pos (by omega) (ev_pos (by omega) (ev_pos (by omega) ?_))
    have hx := hw _ (List.getElem_mem hlt)
    obtain ⟨w, e⟩ : ∃ w : Nat, ws[i / 64] = (w : Int) := ⟨ws[i / 64].toNat, by omega⟩
    rw [e]
    refine spec_l01List_l1 n ws hn i (w / 2 ^ (i % 64)) (by omega) _ (ih (i + 1) (by omega)) (i % 64) w rfl (by omega) (by omega) ?_
    unfold bitAt
    rw [List.getD_eq_getElem?_getD, List.getElem?_eq_getElem hlt, Option.getD_some, e, Int.toNat_natCast]
theorem spec_l01List_ev (n : Nat) (ws : List Int) (hn : n ≤ 5000) (hl : (n + 63) / 64 ≤ ws.length) (hw : ∀ x ∈ ws, 0 ≤ x ∧ x ≤ 18446744073709551615) : Ev (fun k => spec_l01List.f k (n : Int) ws) (listL n ws) := by
  unfold spec_l01List.f
  exact spec_l01List_l0 n ws hn hl hw n 0 (by omega)
theorem spec_BitsOk_l0 (a b : Int) (xs ys : List Int) (hl : xs.length = ys.length) (hm : xs.length ≤ 140737488355328) : ∀ (d n : Nat), n + d = xs.length → Ev (fun k => spec_BitsOk.l0 k (n : Int) a xs b ys) (decide (xs.drop n = ys.drop n)) := by
  intro d
  induction d with
  | zero =>
    intro n hn
    refine Ev.step (fun k => by rw [spec_BitsOk.l0]) ?_
    refine ev_neg (by omega) (ev_now' ?_)
    rw [List.drop_eq_nil_of_le (by omega), List.drop_eq_nil_of_le (by omega)]; rfl
  | succ d ih =>
    intro n hn
    refine Ev.step (fun k => by rw [spec_BitsOk.l0]) ?_
    refine ev_pos (by omega) (ev_pos (by omega) (ev_pos (by omega) ?_))
    rw [rd_lt (by omega), rd_lt (by omega), w64 (by omega) (by omega)]
    rw [List.drop_eq_getElem_cons (show n < xs.length by omega), List.drop_eq_getElem_cons (show n < ys.length by omega)]
    refine ev_ite (fun h => ev_eq (ih (n + 1) (by omega)) ?_) (fun h => ev_now' ?_)
    · simp only [List.cons.injEq, h, true_and]
    · exact (decide_eq_false (fun e => h (List.cons.inj e).1)).symm
theorem spec_BitsOk_j0 (n : Nat) (ws : List Int) (hn : n ≤ 5000) (hl : ws.length = (n + 63) / 64) (hw : ∀ x ∈ ws, 0 ≤ x ∧ x ≤ 18446744073709551615) : Ev (fun k => spec_BitsOk.j0 k false (n : Int) ws) (bitsOk n ws) := by
  refine Ev.step (fun k => by rw [spec_BitsOk.j0]) (ev_neg (by decide) ?_)
  refine ev_bind (spec_l01List_ev n ws hn (by omega) hw) (ev_bind (spec_BitsOf_ev (listL n ws)) ?_)
  have e : bitsOfR (listL n ws) = ((n : Int), wordsOf (listL n ws), true) := by
    unfold bitsOfR
    rw [if_pos, listL_length]
    rw [listL_length, decide_eq_true hn, Bool.true_and, List.all_eq_true]
    intro b hb
    exact decide_eq_true (listL_bits n ws b hb)
  rw [e]
  refine ev_eq (spec_BitsOk_l0 (n : Int) (n : Int) ws _ (by rw [wordsOf_length, listL_length]; exact hl) (by omega) ws.length 0 (by omega)) ?_
  rw [List.drop_zero, List.drop_zero]
  unfold bitsOk
  refine decide_eq_decide.2 ?_
  rw [words_same n ws hl hw]
  constructor
  · intro h
    refine ⟨by omega, by omega, by omega, ?_⟩
    rw [show ((n : Int) % 64).toNat = n % 64 by omega]
    omega
  · intro h
    have := h.2.2.2
    rw [show ((n : Int) % 64).toNat = n % 64 by omega] at this
    omega
theorem spec_BitsOk_ev (n : Int) (ws : List Int) (hm : ws.length ≤ 140737488355328) (hw : ∀ x ∈ ws, 0 ≤ x ∧ x ≤ 18446744073709551615) : Ev (fun k => spec_BitsOk.f k n ws) (bitsOk n ws) := by
  unfold spec_BitsOk.f
  refine ev_ite (fun h => ?_) (fun h => ev_ite (fun h1 => ?_) (fun h1 => ?_))
  · refine Ev.step (fun k => by rw [spec_BitsOk.j0]) ?_
    refine ev_pos rfl (ev_now' ?_)
    exact (decide_eq_false (by omega)).symm
  · refine Ev.step (fun k => by rw [spec_BitsOk.j0]) ?_
    refine ev_pos rfl (ev_now' ?_)
    exact (decide_eq_false (by omega)).symm
  · obtain ⟨m, rfl⟩ : ∃ m : Nat, n = (m : Int) := ⟨n.toNat, by omega⟩
    rw [w64 (n := (m : Int) + 63) (by omega) (by omega), show Int.tdiv ((m : Int) + 63) 64 = (((m + 63) / 64 : Nat) : Int) from tdiv_nat (m + 63) 64, w64 (by omega) (by omega)]
    by_cases h2 : ws.length = (m + 63) / 64
    · rw [bne_eq_false_iff_eq.2 (show (ws.length : Int) = (((m + 63) / 64 : Nat) : Int) by omega)]
      exact spec_BitsOk_j0 m ws (by omega) h2 hw
    · rw [bne_iff_ne.2 (show (ws.length : Int) ≠ (((m + 63) / 64 : Nat) : Int) by omega)]
      refine Ev.step (fun k => by rw [spec_BitsOk.j0]) ?_
      refine ev_pos rfl (ev_now' ?_)
      exact (decide_eq_false (by omega)).symm
theorem spec_l01Bit_f (a : Int) : spec_l01Bit.f a = some (decide (a = 0 ∨ a = 1)) := by
  unfold spec_l01Bit.f
  by_cases h : a = 0
  · simp [h]
  · by_cases h1 : a = 1 <;> simp [h, h1]
theorem spec_Rank_l0 (b : Int) (l : List Int) (a : Nat) (ha : a ≤ l.length) (hm : l.length ≤ 5000) : ∀ (d i : Nat), i + d = a → Ev (fun k => spec_Rank.l0 k b (a : Int) l ((((l.take i).count b : Nat)) : Int) (i : Int)) (((l.take a).count b : Nat) : Int) := by
  intro d
  induction d with
  | zero =>
    intro i hi
    refine Ev.step (fun k => by rw [spec_Rank.l0]) ?_
    exact ev_neg (by omega) (ev_now' (by rw [show i = a by omega]))
  | succ d ih =>
    intro i hi
    have hlt : i < l.length := by omega
    refine Ev.step (fun k => by rw [spec_Rank.l0]) ?_
    have hc : (l.take i).count b ≤ 5000 := Nat.le_trans List.count_le_length (by rw [List.length_take]; omega)
    have h := ih (i + 1) (by omega)
    rw [take_snoc' hlt, count_snoc] at h
    rw [rd_lt hlt, w64 (n := (i : Int) + 1) (by omega) (by omega)]
    refine ev_pos (by omega) (ev_pos (by omega) (ev_pos (by omega) ?_))
    refine ev_ite (fun e => ?_) (fun e => ?_)
    · rw [if_pos e] at h
      rw [w64 (by omega) (by omega)]
      exact h
    · rw [if_neg e] at h
      exact h
theorem spec_Rank_ev (n : Int) (ws : List Int) (b a : Int) (hm : ws.length ≤ 140737488355328) (hw : ∀ x ∈ ws, 0 ≤ x ∧ x ≤ 18446744073709551615) : Ev (fun k => spec_Rank.f k n ws b a) (rankR n ws b a) := by
  unfold spec_Rank.f rankR
  have bad : (¬ (bitsOk n ws = true ∧ (b = 0 ∨ b = 1) ∧ 0 ≤ a ∧ a ≤ n)) → Ev (fun k => spec_Rank.j0 k b a true n ws) (if bitsOk n ws = true ∧ (b = 0 ∨ b = 1) ∧ 0 ≤ a ∧ a ≤ n then ((((listL n.toNat ws).take a.toNat).count b : Nat) : Int) else -1) := by
    intro h
    rw [if_neg h]
    refine Ev.step (fun k => by rw [spec_Rank.j0]) ?_
    exact ev_pos rfl (ev_now _)
  refine ev_bind (spec_BitsOk_ev n ws hm hw) (ev_ite (fun h => ?_) (fun h => bad (fun g => h g.1)))
  refine ev_some (spec_l01Bit_f b) (ev_ite (fun h1 => ?_) (fun h1 => bad (fun g => h1 (decide_eq_true g.2.1))))
  refine ev_ite (fun h2 => bad (by omega)) (fun h2 => ?_)
  by_cases h3 : a > n
  · rw [decide_eq_true h3]; exact bad (by omega)
  · rw [decide_eq_false h3, if_pos ⟨h, of_decide_eq_true h1, by omega, by omega⟩]
    obtain ⟨m, rfl, hm5, hl⟩ := bitsOk_true h
    obtain ⟨a, rfl⟩ : ∃ a' : Nat, a = (a' : Int) := ⟨a.toNat, by omega⟩
    refine Ev.step (fun k => by rw [spec_Rank.j0]) (ev_neg (by decide) ?_)
    refine ev_bind (spec_l01List_ev m ws hm5 (by omega) hw) ?_
    rw [Int.toNat_natCast, Int.toNat_natCast]
    have := spec_Rank_l0 b (listL m ws) a (by rw [listL_length]; omega) (by rw [listL_length]; omega) a 0 (by omega)
    rw [List.take_zero] at this
    exact this
theorem impl_isBit_f (a : Int) : impl_isBit.f a = some (decide (a = 0 ∨ a = 1)) := by
  unfold impl_isBit.f
  by_cases h : a = 0
  · simp [h]
  · by_cases h1 : a = 1 <;> simp [h, h1]
theorem impl_count_l0 (b : Int) (l : List Int) (hm : l.length ≤ 140737488355328) : ∀ (d i : Nat), i + d = l.length → Ev (fun k => impl_count.l0 k b ((((l.take i).count b : Nat)) : Int) l (l.length : Int) (i : Int)) ((l.count b : Nat) : Int) := by
  intro d
  induction d with
  | zero =>
    intro i hi
    refine Ev.step (fun k => by rw [impl_count.l0]) ?_
    exact ev_neg (by omega) (ev_now' (by rw [List.take_of_length_le (by omega)]))
  | succ d ih =>
    intro i hi
    have hlt : i < l.length := by omega
    refine Ev.step (fun k => by rw [impl_count.l0]) ?_
    have hc : (l.take i).count b ≤ l.length := Nat.le_trans List.count_le_length (by rw [List.length_take]; omega)
    have h := ih (i + 1) (by omega)
    rw [take_snoc' hlt, count_snoc] at h
    rw [rd_lt hlt, w64 (n := (i : Int) + 1) (by omega) (by omega)]
    refine ev_pos (by omega) (ev_pos (by omega) (ev_pos (by omega) ?_))
    refine ev_ite (fun e => ?_) (fun e => ?_)
    · rw [if_pos e] at h
      rw [w64 (by omega) (by omega)]
      exact h
    · rw [if_neg e] at h
      exact h
theorem impl_count_ev (l : List Int) (b : Int) (hm : l.length ≤ 140737488355328) : Ev (fun k => impl_count.f k l b) ((l.count b : Nat) : Int) := by
  unfold impl_count.f
  have := impl_count_l0 b l hm l.length 0 (by omega)
  rw [List.take_zero] at this
  exact this
theorem impl_Rank_ev (n : Int) (ws : List Int) (b a : Int) (hm : ws.length ≤ 140737488355328) (hw : ∀ x ∈ ws, 0 ≤ x ∧ x ≤ 18446744073709551615) : Ev (fun k => impl_Rank.f k n ws b a) (rankR n ws b a) := by
  unfold impl_Rank.f rankR
  have bad : (¬ (bitsOk n ws = true ∧ (b = 0 ∨ b = 1) ∧ 0 ≤ a ∧ a ≤ n)) → Ev (fun k => impl_Rank.j0 k b a true n ws) (if bitsOk n ws = true ∧ (b = 0 ∨ b = 1) ∧ 0 ≤ a ∧ a ≤ n then ((((listL n.toNat ws).take a.toNat).count b : Nat) : Int) else -1) := by
    intro h
    rw [if_neg h]
    refine Ev.step (fun k => by rw [impl_Rank.j0]) ?_
    exact ev_pos rfl (ev_now _)
  refine ev_some (impl_BitsOk_f n ws hm hw) (ev_ite (fun h => ?_) (fun h => bad (fun g => h g.1)))
  refine ev_some (impl_isBit_f b) (ev_ite (fun h1 => ?_) (fun h1 => bad (fun g => h1 (decide_eq_true g.2.1))))
  refine ev_some (impl_within_f a 0 n) ?_
  by_cases h3 : 0 ≤ a ∧ a ≤ n
  · rw [decide_eq_true h3, if_pos ⟨h, of_decide_eq_true h1, h3.1, h3.2⟩]
    obtain ⟨m, rfl, hm5, hl⟩ := bitsOk_true h
    obtain ⟨a, rfl⟩ : ∃ a' : Nat, a = (a' : Int) := ⟨a.toNat, by omega⟩
    refine Ev.step (fun k => by rw [impl_Rank.j0]) (ev_neg (by decide) ?_)
    refine ev_bind (impl_Bits_list_ev m ws hm5 (by omega) hw) ?_
    rw [Int.toNat_natCast, Int.toNat_natCast]
    refine ev_pos (by omega) (ev_pos (by rw [listL_length]; omega) ?_)
    exact ev_bind (impl_count_ev _ b (by rw [List.length_take, listL_length]; omega)) (ev_now _)
  · rw [decide_eq_false h3]; exact bad (by omega)
def bitsJoinR (n : Int) (ws : List Int) (m : Int) (vs : List Int) : Int × List Int × Bool := if bitsOk n ws = true ∧ bitsOk m vs = true then bitsOfR (listL n.toNat ws ++ listL m.toNat vs) else (0, [], false)
theorem spec_BitsJoin_ev (n : Int) (ws : List Int) (m : Int) (vs : List Int) (hm : ws.length ≤ 140737488355328) (hw : ∀ x ∈ ws, 0 ≤ x ∧ x ≤ 18446744073709551615) (hm' : vs.length ≤ 140737488355328) (hw' : ∀ x ∈ vs, 0 ≤ x ∧ x ≤ 18446744073709551615) : Ev (fun k => spec_BitsJoin.f k n ws m vs) (bitsJoinR n ws m vs) := by
  unfold spec_BitsJoin.f bitsJoinR
  have bad : Ev (fun k => spec_BitsJoin.j0 k true n ws m vs) (0, [], false) := Ev.step (fun k => by rw [spec_BitsJoin.j0]) (ev_pos rfl (ev_now _))
  refine ev_bind (spec_BitsOk_ev n ws hm hw) (ev_ite (fun h => ?_) (fun h => ev_eq bad (by rw [if_neg (fun g => h g.1)])))
  refine ev_bind (spec_BitsOk_ev m vs hm' hw') ?_
  by_cases h2 : bitsOk m vs = true
  · rw [h2, if_pos ⟨h, rfl⟩]
    obtain ⟨a, rfl, ha5, hla⟩ := bitsOk_true h
    obtain ⟨b, rfl, hb5, hlb⟩ := bitsOk_true h2
    rw [Int.toNat_natCast, Int.toNat_natCast]
    refine Ev.step (fun k => by rw [spec_BitsJoin.j0]) (ev_neg (by decide) ?_)
    refine ev_bind (spec_l01List_ev a ws ha5 (by omega) hw) (ev_bind (spec_l01List_ev b vs hb5 (by omega) hw') (ev_pos (by rw [listL_length, listL_length]; omega) ?_))
    exact ev_bind (spec_BitsOf_ev _) (ev_now _)
  · rw [if_neg (fun g => h2 g.2), Bool.eq_false_iff.2 h2]
    exact bad
theorem allO_all (p : Int → Option Bool) (q : Int → Bool) (h : ∀ x, p x = some (q x)) (l : List Int) : allO p l = some (l.all q) := by
  induction l with
  | nil => rfl
  | cons x l ih =>
    rw [allO, h x, Option.bind_some]
    cases hq : q x
    · simp [hq]
    · rw [if_pos rfl, ih]; simp [hq]
theorem impl_areAll_isBit_f (l : List Int) : impl_areAll_isBit.f l = some (l.all fun a => decide (a = 0 ∨ a = 1)) := allO_all _ _ impl_isBit_f l
theorem all_isBits {xs : List Int} : (xs.all fun a => decide (a = 0 ∨ a = 1)) = true ↔ isBits xs := by
  rw [List.all_eq_true]
  exact ⟨fun h b hb => of_decide_eq_true (h b hb), fun h b hb => decide_eq_true (h b hb)⟩
theorem impl_BitsOf_ev (xs : List Int) : Ev (fun k => impl_BitsOf.f k xs) (bitsOfR xs) := by
  unfold impl_BitsOf.f bitsOfR
  refine ev_ite (fun h => ev_now' ?_) (fun h => ?_)
  · rw [decide_eq_false (by omega)]; rfl
  · rw [decide_eq_true (show xs.length ≤ 5000 by omega), Bool.true_and]
    refine ev_some (impl_areAll_isBit_f xs) (ev_ite (fun h1 => ?_) (fun h1 => ?_))
    · rw [if_pos h1]; exact ev_bind (impl_bitsOf_ev xs (by omega) (all_isBits.1 h1)) (ev_now _)
    · rw [if_neg h1]; exact ev_now _
theorem slices_Grow_f (a : Int) (h0 : 0 ≤ a) (h : a ≤ 1000000000) : slices_Grow_int_int.f a = some [] := by
  unfold slices_Grow_int_int.f
  have e : wrap64 (a - wrap64 (-(([] : List Int).length : Int))) = a := by
    rw [List.length_nil, w64 (n := -((0 : Nat) : Int)) (by omega) (by omega), w64 (by omega) (by omega)]
    omega
  rw [e, if_neg (by omega)]
  by_cases h1 : a > 0
  · rw [if_pos h1, if_pos h0, if_pos (by rw [List.length_nil]; omega), Option.bind_some, if_pos (by rw [List.length_nil]; omega), if_pos (by rw [List.length_nil]; omega)]
    rfl
  · rw [if_neg h1]
theorem slices_Concat_ev (a b : List Int) (ha : a.length ≤ 1000000) (hb : b.length ≤ 1000000) : Ev (fun k => slices_Concat_int_int.f k [a, b]) (a ++ b) := by
  unfold slices_Concat_int_int.f
  have l2 : (([a, b] : List (List Int)).length : Int) = 2 := rfl
  have r0 : rd_L2 [a, b] 0 = a := rfl
  have r1 : rd_L2 [a, b] 1 = b := rfl
  refine Ev.step (fun k => by rw [slices_Concat_int_int.l0]) ?_
  rw [l2, r0]
  rw [w64 (n := 0 + (a.length : Int)) (by omega) (by omega), w64 (n := (0 : Int) + 1) (by omega) (by omega)]
  refine ev_pos (by omega) (ev_pos (by omega) (ev_pos (by omega) (ev_neg (by omega) ?_)))
  refine Ev.step (fun k => by rw [slices_Concat_int_int.l0]) ?_
  rw [l2, show (0 : Int) + 1 = 1 from rfl, r1]
  rw [w64 (n := 0 + (a.length : Int) + (b.length : Int)) (by omega) (by omega), w64 (n := (1 : Int) + 1) (by omega) (by omega)]
  refine ev_pos (by omega) (ev_pos (by omega) (ev_pos (by omega) (ev_neg (by omega) ?_)))
  refine Ev.step (fun k => by rw [slices_Concat_int_int.l0]) ?_
  refine ev_neg (by omega) (ev_some (slices_Grow_f _ (by omega) (by omega)) ?_)
  refine Ev.step (fun k => by rw [slices_Concat_int_int.l1]) ?_
  rw [l2, r0, w64 (n := (0 : Int) + 1) (by omega) (by omega)]
  refine ev_pos (by omega) (ev_pos (by omega) (ev_pos (by omega) (ev_pos (by rw [List.length_nil]; omega) ?_)))
  refine Ev.step (fun k => by rw [slices_Concat_int_int.l1]) ?_
  rw [l2, show (0 : Int) + 1 = 1 from rfl, r1, w64 (n := (1 : Int) + 1) (by omega) (by omega)]
  refine ev_pos (by omega) (ev_pos (by omega) (ev_pos (by omega) (ev_pos (by rw [List.nil_append]; omega) ?_)))
  refine Ev.step (fun k => by rw [slices_Concat_int_int.l1]) ?_
  exact ev_neg (by omega) (ev_now' (by rw [List.nil_append]))
theorem impl_BitsJoin_ev (n : Int) (ws : List Int) (m : Int) (vs : List Int) (hm : ws.length ≤ 140737488355328) (hw : ∀ x ∈ ws, 0 ≤ x ∧ x ≤ 18446744073709551615) (hm' : vs.length ≤ 140737488355328) (hw' : ∀ x ∈ vs, 0 ≤ x ∧ x ≤ 18446744073709551615) : Ev (fun k => impl_BitsJoin.f k n ws m vs) (bitsJoinR n ws m vs) := by
  unfold impl_BitsJoin.f bitsJoinR
  have bad : Ev (fun k => impl_BitsJoin.j0 k true n ws m vs) (0, [], false) := Ev.step (fun k => by rw [impl_BitsJoin.j0]) (ev_pos rfl (ev_now _))
  refine ev_some (impl_BitsOk_f n ws hm hw) (ev_ite (fun h => ?_) (fun h => ev_eq bad (by rw [if_neg (fun g => h g.1)])))
  refine ev_some (impl_BitsOk_f m vs hm' hw') ?_
  by_cases h2 : bitsOk m vs = true
  · rw [h2, if_pos ⟨h, rfl⟩]
    obtain ⟨a, rfl, ha5, hla⟩ := bitsOk_true h
    obtain ⟨b, rfl, hb5, hlb⟩ := bitsOk_true h2
    rw [Int.toNat_natCast, Int.toNat_natCast]
    refine Ev.step (fun k => by rw [impl_BitsJoin.j0]) (ev_neg (by decide) ?_)
    refine ev_bind (impl_Bits_list_ev a ws ha5 (by omega) hw) (ev_bind (impl_Bits_list_ev b vs hb5 (by omega) hw') (ev_bind (slices_Concat_ev _ _ (by rw [listL_length]; omega) (by rw [listL_length]; omega)) ?_))
    exact ev_bind (impl_BitsOf_ev _) (ev_now _)
  · rw [if_neg (fun g => h2 g.2), Bool.eq_false_iff.2 h2]
    exact bad
theorem rd_all {l : List Int} {P : Int → Prop} (h : ∀ x ∈ l, P x) {v : Int} (h0 : 0 ≤ v) (h1 : v < l.length) : P (rd l v) := by
  rw [rd_of h0 h1]; exact h _ (List.getElem_mem _)
/-- what a drawing keeps of its state: the place, the seed -/
def drawOk (p s : Int) : Prop := 0 ≤ p ∧ p ≤ 1000000000000 ∧ 0 ≤ s ∧ s < 70000
theorem pick_ok (code : List Int) (hb : ∀ b ∈ code, 0 ≤ b ∧ b < 256) (p s a : Int) (h : drawOk p s) : ∃ v q s', spec_l01Cur_pick.f code p s a = some (v, q, s') ∧ p ≤ q ∧ q ≤ p + 1 ∧ 0 ≤ s' ∧ s' < 70000 ∧ 0 ≤ v ∧ (v < a ∨ v = 0) := by
  obtain ⟨h1, h2, h3, h4⟩ := h
  unfold spec_l01Cur_pick.f
  by_cases c1 : a < 2
  · rw [if_pos c1]
    exact ⟨0, p, s, rfl, by omega, by omega, h3, h4, by omega, Or.inr rfl⟩
  · rw [if_neg c1]
    have e3 : wrap64 (s * 1103) = s * 1103 := w64 (by omega) (by omega)
    have e4 : wrap64 (s * 1103 + 12345) = s * 1103 + 12345 := w64 (by omega) (by omega)
    have e5 : Int.tmod (s * 1103 + 12345) 65521 = (s * 1103 + 12345) % 65521 := Int.tmod_eq_emod_of_nonneg (by omega)
    have e2 : wrap64 (p + 1) = p + 1 := w64 (by omega) (by omega)
    by_cases c2 : p < (code.length : Int)
    · rw [if_pos c2, if_pos h1, if_neg (by omega), e2]
      have hx : 0 ≤ rd code p ∧ rd code p < 256 := by rw [rd_of h1 c2]; exact hb _ (List.getElem_mem _)
      rw [w64 (by omega) (by omega), Int.tmod_eq_emod_of_nonneg (by omega)]
      exact ⟨_, _, _, rfl, by omega, by omega, h3, h4, Int.emod_nonneg _ (by omega), Or.inl (Int.emod_lt_of_pos _ (by omega))⟩
    · rw [if_neg c2, e2, e3, e4, e5]
      by_cases c3 : (code.length : Int) > 0
      · have e6 : Int.tmod p (code.length : Int) = p % (code.length : Int) := Int.tmod_eq_emod_of_nonneg h1
        have m1 := Int.emod_nonneg p (b := (code.length : Int)) (by omega)
        have m2 := Int.emod_lt_of_pos p c3
        rw [if_pos c3, if_neg (by omega), e6, if_pos m1, if_pos m2, if_neg (by omega)]
        have hx : 0 ≤ rd code (p % (code.length : Int)) ∧ rd code (p % (code.length : Int)) < 256 := by rw [rd_of m1 m2]; exact hb _ (List.getElem_mem _)
        have e7 : Int.tdiv ((s * 1103 + 12345) % 65521) 7 = (s * 1103 + 12345) % 65521 / 7 := Int.tdiv_eq_ediv_of_nonneg (by omega)
        rw [e7, w64 (n := (s * 1103 + 12345) % 65521 / 7) (by omega) (by omega), w64 (n := rd code (p % (code.length : Int))) (by omega) (by omega), w64 (by omega) (by omega), Int.tmod_eq_emod_of_nonneg (by omega)]
        exact ⟨_, _, _, rfl, by omega, by omega, by omega, by omega, Int.emod_nonneg _ (by omega), Or.inl (Int.emod_lt_of_pos _ (by omega))⟩
      · rw [if_neg c3, if_neg (by omega), Int.zero_emod]
        exact ⟨_, _, _, rfl, by omega, by omega, by omega, by omega, by omega, Or.inr rfl⟩
def i64r (v : Int) : Prop := -9223372036854775808 ≤ v ∧ v ≤ 9223372036854775807
theorem wrap_i64r (v : Int) : i64r (wrap64 v) := by unfold i64r wrap64; omega
theorem raw_ok (code : List Int) (hb : ∀ b ∈ code, 0 ≤ b ∧ b < 256) (p s : Int) (h : drawOk p s) (h2 : p ≤ 900000000000) : ∃ v q s', spec_l01Cur_raw.f code p s = some (v, q, s') ∧ p ≤ q ∧ q ≤ p + 2 ∧ 0 ≤ s' ∧ s' < 70000 ∧ i64r v := by
  unfold spec_l01Cur_raw.f
  obtain ⟨v1, q1, s1, e1, a1, b1, c1, d1, _, _⟩ := pick_ok code hb p s 8 h
  have k1 : drawOk q1 s1 := ⟨by have := h.1; omega, by omega, c1, d1⟩
  rw [e1, Option.bind_some]
  simp only
  by_cases g0 : v1 = 0
  · rw [if_pos g0]
    obtain ⟨v2, q2, s2, e2, a2, b2, c2, d2, _, _⟩ := pick_ok code hb q1 s1 256 k1
    rw [e2]
    exact ⟨wrap64 (v2 - 128), q2, s2, rfl, by omega, by omega, c2, d2, wrap_i64r _⟩
  · rw [if_neg g0]
    by_cases g1 : v1 = 1
    · rw [if_pos g1, Option.bind_some]
      obtain ⟨v2, q2, s2, e2, a2, b2, c2, d2, f2, f3⟩ := pick_ok code hb q1 s1 8 k1
      rw [e2, Option.bind_some]
      simp only
      rw [if_pos f2, if_pos (by simp; omega)]
      refine ⟨_, _, _, rfl, by omega, by omega, c2, d2, ?_⟩
      have hv : v2 < 8 := by omega
      obtain ⟨n, rfl⟩ : ∃ n : Nat, v2 = (n : Int) := ⟨v2.toNat, by omega⟩
      rw [rd_nat]
      have hn : n < 8 := by omega
      unfold i64r
      match n, hn with
      | 0, _ => decide
      | 1, _ => decide
      | 2, _ => decide
      | 3, _ => decide
      | 4, _ => decide
      | 5, _ => decide
      | 6, _ => decide
      | 7, _ => decide
    · rw [if_neg g1]
      obtain ⟨v2, q2, s2, e2, a2, b2, c2, d2, _, _⟩ := pick_ok code hb q1 s1 14 k1
      rw [e2]
      exact ⟨wrap64 (v2 - 3), q2, s2, rfl, by omega, by omega, c2, d2, wrap_i64r _⟩
theorem once_ok (code : List Int) (hb : ∀ b ∈ code, 0 ≤ b ∧ b < 256) (p s a : Int) (h : drawOk p s) : ∃ v q s', spec_l01Cur_once.f code p s a = some (v, q, s') ∧ p ≤ q ∧ q ≤ p + 1 ∧ 0 ≤ s' ∧ s' < 70000 := by
  unfold spec_l01Cur_once.f
  obtain ⟨v1, q1, s1, e1, a1, b1, c1, d1, _, _⟩ := pick_ok code hb p s a h
  rw [e1]
  exact ⟨_, _, _, rfl, a1, b1, c1, d1⟩
theorem row_l1_ok (code : List Int) (hb : ∀ b ∈ code, 0 ≤ b ∧ b < 256) : ∀ (d : Nat) (l : List Int) (p s : Int), l.length + d = 5002 → drawOk p s → p ≤ 800000000000 + (l.length : Int) → ∃ l' q s', Ev (fun k => spec_l01Cur_row.l1 k l code p s) (l', q, s') ∧ p ≤ q ∧ q ≤ p + d + 1 ∧ 0 ≤ s' ∧ s' < 70000 ∧ l'.length ≤ 5002 := by
  intro d
  induction d with
  | zero =>
    intro l p s hl h hp
    obtain ⟨v1, q1, s1, e1, a1, b1, c1, d1, f1, f2⟩ := pick_ok code hb p s 2 h
    refine ⟨l, q1, s1, ?_, by omega, by omega, c1, d1, by omega⟩
    refine Ev.step (fun k => by rw [spec_l01Cur_row.l1]) (ev_some e1 ?_)
    simp only
    rw [w64 (by omega) (by omega)]
    exact ev_neg (by omega) (ev_now _)
  | succ d ih =>
    intro l p s hl h hp
    obtain ⟨v1, q1, s1, e1, a1, b1, c1, d1, f1, f2⟩ := pick_ok code hb p s 2 h
    by_cases g : (l.length : Int) < 5000 + v1
    · have hh := h.1
      obtain ⟨l', q, s', k1, k2, k3, k4, k5, k6⟩ := ih (l ++ [((l.length : Int) % 3) / 2]) q1 s1 (by rw [List.length_append, List.length_singleton]; omega) ⟨by omega, by omega, c1, d1⟩ (by rw [List.length_append, List.length_singleton]; omega)
      refine ⟨l', q, s', ?_, by omega, by omega, k4, k5, k6⟩
      refine Ev.step (fun k => by rw [spec_l01Cur_row.l1]) (ev_some e1 ?_)
      simp only
      rw [w64 (by omega) (by omega)]
      exact ev_pos g (ev_pos (by omega) k1)
    · refine ⟨l, q1, s1, ?_, by omega, by omega, c1, d1, by omega⟩
      refine Ev.step (fun k => by rw [spec_l01Cur_row.l1]) (ev_some e1 ?_)
      simp only
      rw [w64 (by omega) (by omega)]
      exact ev_neg g (ev_now _)
theorem row_l0_ok (code : List Int) (hb : ∀ b ∈ code, 0 ≤ b ∧ b < 256) (m : Int) : ∀ (d : Nat) (l : List Int) (p s : Int), l.length + d ≤ 200 → drawOk p s → p ≤ 700000000000 + 2 * (l.length : Int) → ∃ l' q s', Ev (fun k => spec_l01Cur_row.l0 k l m (d : Int) code p s) (l', q, s') ∧ p ≤ q ∧ q ≤ p + 2 * d + 6000 ∧ 0 ≤ s' ∧ s' < 70000 ∧ l'.length ≤ 5002 := by
  intro d
  induction d with
  | zero =>
    intro l p s hl h hp
    obtain ⟨v1, q1, s1, e1, a1, b1, c1, d1⟩ := once_ok code hb p s 60 h
    have hh := h.1
    cases v1 with
    | false =>
      refine ⟨l, q1, s1, ?_, by omega, by omega, c1, d1, by omega⟩
      refine Ev.step (fun k => by rw [spec_l01Cur_row.l0]) (ev_neg (by omega) (ev_some e1 ?_))
      exact ev_neg (by simp) (ev_now _)
    | true =>
      obtain ⟨l', q, s', k1, k2, k3, k4, k5, k6⟩ := row_l1_ok code hb (5002 - l.length) l q1 s1 (by omega) ⟨by omega, by omega, c1, d1⟩ (by omega)
      refine ⟨l', q, s', ?_, by omega, by omega, k4, k5, k6⟩
      refine Ev.step (fun k => by rw [spec_l01Cur_row.l0]) (ev_neg (by omega) (ev_some e1 ?_))
      exact ev_pos rfl k1
  | succ d ih =>
    intro l p s hl h hp
    have hh := h.1
    obtain ⟨v1, q1, s1, e1, a1, b1, c1, d1, f1, f2⟩ := pick_ok code hb p s 2 h
    by_cases g : m = 0
    · obtain ⟨v2, q2, s2, e2, a2, b2, c2, d2⟩ := once_ok code hb q1 s1 9 ⟨by omega, by omega, c1, d1⟩
      obtain ⟨t, et⟩ : ∃ t, spec_l01Bool.f v2 = some t := by unfold spec_l01Bool.f; cases v2 <;> exact ⟨_, rfl⟩
      obtain ⟨l', q, s', k1, k2, k3, k4, k5, k6⟩ := ih (l ++ [t]) q2 s2 (by rw [List.length_append, List.length_singleton]; omega) ⟨by omega, by omega, c2, d2⟩ (by rw [List.length_append, List.length_singleton]; omega)
      refine ⟨l', q, s', ?_, by omega, by omega, k4, k5, k6⟩
      refine Ev.step (fun k => by rw [spec_l01Cur_row.l0]) (ev_pos (by omega) (ev_some e1 (ev_pos g (ev_some e2 (ev_some et (ev_pos (by show l.length < 17592186044416; omega) ?_))))))
      rw [w64 (by omega) (by omega), show ((d + 1 : Nat) : Int) - 1 = (d : Int) by omega]
      exact k1
    · obtain ⟨l', q, s', k1, k2, k3, k4, k5, k6⟩ := ih (l ++ [v1]) q1 s1 (by rw [List.length_append, List.length_singleton]; omega) ⟨by omega, by omega, c1, d1⟩ (by rw [List.length_append, List.length_singleton]; omega)
      refine ⟨l', q, s', ?_, by omega, by omega, k4, k5, k6⟩
      refine Ev.step (fun k => by rw [spec_l01Cur_row.l0]) (ev_pos (by omega) (ev_some e1 (ev_neg g (ev_pos (by show l.length < 17592186044416; omega) ?_))))
      rw [w64 (by omega) (by omega), show ((d + 1 : Nat) : Int) - 1 = (d : Int) by omega]
      exact k1
theorem row_ok (code : List Int) (hb : ∀ b ∈ code, 0 ≤ b ∧ b < 256) (p s : Int) (h : drawOk p s) (hp : p ≤ 600000000000) : ∃ l q s', Ev (fun k => spec_l01Cur_row.f k code p s) (l, q, s') ∧ p ≤ q ∧ q ≤ p + 7000 ∧ 0 ≤ s' ∧ s' < 70000 ∧ l.length ≤ 5002 := by
  have hh := h.1
  unfold spec_l01Cur_row.f
  obtain ⟨v1, q1, s1, e1, a1, b1, c1, d1, f1, g1⟩ := pick_ok code hb p s 4 h
  obtain ⟨v2, q2, s2, e2, a2, b2, c2, d2, f2, g2⟩ := pick_ok code hb q1 s1 3 ⟨by omega, by omega, c1, d1⟩
  obtain ⟨n, rfl⟩ : ∃ n : Nat, v2 = (n : Int) := ⟨v2.toNat, by omega⟩
  have hn : n < 3 := by omega
  have hr : rd [5, 40, 140] (n : Int) ≤ 140 := by
    rw [rd_nat]
    match n, hn with
    | 0, _ => decide
    | 1, _ => decide
    | 2, _ => decide
  obtain ⟨v3, q3, s3, e3, a3, b3, c3, d3, f3, g3⟩ := pick_ok code hb q2 s2 (rd [5, 40, 140] (n : Int)) ⟨by omega, by omega, c2, d2⟩
  obtain ⟨l', q, s', k1, k2, k3, k4, k5, k6⟩ := row_l0_ok code hb v1 v3.toNat [] q3 s3 (by simp; omega) ⟨by omega, by omega, c3, d3⟩ (by simp; omega)
  refine ⟨l', q, s', ?_, by omega, by omega, k4, k5, k6⟩
  refine ev_some e1 (ev_some rfl (ev_some e2 (ev_pos f2 (ev_pos (by simp; omega) (ev_some e3 ?_)))))
  rw [show ((v3.toNat : Nat) : Int) = v3 by omega] at k1
  exact k1
def u64s (l : List Int) : Prop := ∀ x ∈ l, 0 ≤ x ∧ x ≤ 18446744073709551615
theorem bitsOfR_ok (xs : List Int) : 0 ≤ (bitsOfR xs).1 ∧ (bitsOfR xs).1 ≤ 5000 ∧ (bitsOfR xs).2.1.length ≤ 100 ∧ u64s (bitsOfR xs).2.1 := by
  unfold bitsOfR
  split
  · rename_i h
    rw [Bool.and_eq_true] at h
    have h1 := of_decide_eq_true h.1
    have hb : isBits xs := fun b hb' => of_decide_eq_true (List.all_eq_true.1 h.2 b hb')
    refine ⟨by show (0 : Int) ≤ (xs.length : Int); omega, by show (xs.length : Int) ≤ 5000; omega, by show (wordsOf xs).length ≤ 100; rw [wordsOf_length]; omega, ?_⟩
    intro x hx
    have hx' : x ∈ wordsOf xs := hx
    unfold wordsOf tab at hx'
    obtain ⟨i, _, rfl⟩ := List.mem_map.1 hx'
    have := wordAt_lt hb i
    omega
  · exact ⟨by show (0 : Int) ≤ 0; omega, by show (0 : Int) ≤ 5000; omega, by simp, fun x hx => by simp at hx⟩
theorem badBits_ok (code : List Int) (hb : ∀ b ∈ code, 0 ≤ b ∧ b < 256) (p s : Int) (h : drawOk p s) (hp : p ≤ 500000000000) : ∃ n ws q s', Ev (fun k => spec_l01Cur_badBits.f k code p s) (n, ws, q, s') ∧ p ≤ q ∧ q ≤ p + 8000 ∧ 0 ≤ s' ∧ s' < 70000 ∧ i64r n ∧ u64s ws ∧ ws.length ≤ 101 := by
  have hh := h.1
  unfold spec_l01Cur_badBits.f
  obtain ⟨l, q1, s1, e1, a1, b1, c1, d1, _⟩ := row_ok code hb p s h (by omega)
  have hr := bitsOfR_ok l
  have eb := spec_BitsOf_ev l
  obtain ⟨n, ws, b, er⟩ : ∃ n ws b, bitsOfR l = (n, ws, b) := ⟨_, _, _, rfl⟩
  rw [er] at hr eb
  obtain ⟨n0, n1, wl, wu⟩ := hr
  simp only at n0 n1 wl wu
  have hn : i64r n := by unfold i64r; omega
  obtain ⟨v2, q2, s2, e2, a2, b2, c2, d2, f2, g2⟩ := pick_ok code hb q1 s1 14 ⟨by omega, by omega, c1, d1⟩
  by_cases k0 : v2 = 0
  · obtain ⟨v3, q3, s3, e3, a3, b3, c3, d3, f3⟩ := raw_ok code hb q2 s2 ⟨by omega, by omega, c2, d2⟩ (by omega)
    obtain ⟨v4, q4, s4, e4, a4, b4, c4, d4, f4, g4⟩ := pick_ok code hb q3 s3 3 ⟨by omega, by omega, c3, d3⟩
    have hl : v4 < (([v3, wrap64 (n + 1), wrap64 (n - 1)] : List Int).length : Int) := by simp; omega
    refine ⟨_, ws, q4, s4, ev_bind e1 (ev_bind eb (ev_some e2 (ev_pos k0 (ev_some e3 (ev_some rfl (ev_some e4 (ev_pos f4 (ev_pos hl (ev_now _))))))))), by omega, by omega, c4, d4, rd_all (P := i64r) ?_ f4 hl, wu, by omega⟩
    intro x hx
    simp only [List.mem_cons, List.not_mem_nil, or_false] at hx
    rcases hx with rfl | rfl | rfl
    · exact f3
    · exact wrap_i64r _
    · exact wrap_i64r _
  · by_cases k1 : v2 = 1
    · obtain ⟨v3, q3, s3, e3, a3, b3, c3, d3, f3, g3⟩ := pick_ok code hb q2 s2 2 ⟨by omega, by omega, c2, d2⟩
      refine ⟨n, ws ++ [IntKind.u64.wrap v3], q3, s3, ev_bind e1 (ev_bind eb (ev_some e2 (ev_neg k0 (ev_pos k1 (ev_some e3 (ev_pos (by show ws.length < 17592186044416; omega) (ev_now _))))))), by omega, by omega, c3, d3, hn, ?_, by rw [List.length_append, List.length_singleton]; omega⟩
      intro x hx
      rcases List.mem_append.1 hx with hx | hx
      · exact wu x hx
      · rw [List.mem_singleton.1 hx, wrap_u64]; omega
    · by_cases k2 : v2 = 2
      · by_cases kl : (ws.length : Int) > 0
        · obtain ⟨v3, q3, s3, e3, a3, b3, c3, d3, f3, g3⟩ := pick_ok code hb q2 s2 (ws.length : Int) ⟨by omega, by omega, c2, d2⟩
          refine ⟨n, ws.set v3.toNat 18446744073709551615, q3, s3, ev_bind e1 (ev_bind eb (ev_some e2 (ev_neg k0 (ev_neg k1 (ev_pos k2 (ev_pos kl (ev_some e3 (ev_pos f3 (ev_pos (by show v3 < (ws.length : Int); omega) (ev_now _)))))))))), by omega, by omega, c3, d3, hn, ?_, by rw [List.length_set]; omega⟩
          intro x hx
          rcases List.mem_or_eq_of_mem_set hx with hx | hx
          · exact wu x hx
          · rw [hx]; omega
        · exact ⟨n, ws, q2, s2, ev_bind e1 (ev_bind eb (ev_some e2 (ev_neg k0 (ev_neg k1 (ev_pos k2 (ev_neg kl (ev_now _))))))), by omega, by omega, c2, d2, hn, wu, by omega⟩
      · exact ⟨n, ws, q2, s2, ev_bind e1 (ev_bind eb (ev_some e2 (ev_neg k0 (ev_neg k1 (ev_neg k2 (ev_now _)))))), by omega, by omega, c2, d2, hn, wu, by omega⟩
theorem DrawBitsJoin_ok (code : List Int) (hb : ∀ b ∈ code, 0 ≤ b ∧ b < 256) : ∃ n ws m vs, Ev (fun k => spec_DrawBitsJoin.f k code) (n, ws, m, vs) ∧ u64s ws ∧ ws.length ≤ 101 ∧ u64s vs ∧ vs.length ≤ 101 := by
  unfold spec_DrawBitsJoin.f
  have h0 : spec_l01Open.f code = some (code, 0, 89 + ((code.length : Int) % 1000)) := rfl
  have ok0 : drawOk 0 (89 + ((code.length : Int) % 1000)) := ⟨by omega, by omega, by omega, by omega⟩
  obtain ⟨n, ws, q1, s1, e1, a1, b1, c1, d1, hn, wu, wl⟩ := badBits_ok code hb 0 _ ok0 (by omega)
  obtain ⟨m, vs, q2, s2, e2, a2, b2, c2, d2, hn2, wu2, wl2⟩ := badBits_ok code hb q1 s1 ⟨by omega, by omega, c1, d1⟩ (by omega)
  exact ⟨n, ws, m, vs, ev_some h0 (ev_bind e1 (ev_bind e2 (ev_now _))), wu, wl, wu2, wl2⟩
theorem laws_pick_l0 (code : List Int) (hb : ∀ b ∈ code, 0 ≤ b ∧ b < 256) (hm : code.length ≤ 1048576) (h0 : 0 < code.length) (a1 x2 : Int) (ha : 0 ≤ a1 ∧ a1 ≤ 1000) (hx : 1 ≤ x2) : ∀ (d i : Nat) (x7 : Int), i + d = 3 → 0 ≤ x7 → x7 ≤ 255 * 40 ^ i → ∃ v, Ev (fun k => laws_pick.l0 k code a1 x2 x7 (i : Int)) v ∧ 0 ≤ v ∧ v < x2 := by
  intro d
  induction d with
  | zero =>
    intro i x7 hi h1 h2
    have e : i = 3 := by omega
    subst e
    have h2 : x7 ≤ 16320000 := h2
    refine ⟨Int.tmod (wrap64 (x7 + a1)) x2, Ev.step (fun k => by rw [laws_pick.l0]) (ev_neg (by omega) (ev_neg (by omega) (ev_now _))), ?_⟩
    rw [w64 (by omega) (by omega), Int.tmod_eq_emod_of_nonneg (by omega)]
    exact ⟨Int.emod_nonneg _ (by omega), Int.emod_lt_of_pos _ (by omega)⟩
  | succ d ih =>
    intro i x7 hi h1 h2
    have hp : (40 : Int) ^ i ≤ 1600 ∧ (40 : Int) ^ (i + 1) = 40 ^ i * 40 ∧ 1 ≤ (40 : Int) ^ i := by
      have hi3 : i < 3 := by omega
      match i, hi3 with
      | 0, _ => decide
      | 1, _ => decide
      | 2, _ => decide
    have e1 : wrap64 (a1 + (i : Int)) = a1 + (i : Int) := w64 (by omega) (by omega)
    have e2 : Int.tmod (a1 + (i : Int)) (code.length : Int) = (a1 + (i : Int)) % (code.length : Int) := Int.tmod_eq_emod_of_nonneg (by omega)
    have m1 := Int.emod_nonneg (a1 + (i : Int)) (b := (code.length : Int)) (by omega)
    have m2 := Int.emod_lt_of_pos (a1 + (i : Int)) (show (0 : Int) < (code.length : Int) by omega)
    have hr : 0 ≤ rd code ((a1 + (i : Int)) % (code.length : Int)) ∧ rd code ((a1 + (i : Int)) % (code.length : Int)) < 256 := by rw [rd_of m1 m2]; exact hb _ (List.getElem_mem _)
    obtain ⟨v, k1, k2, k3⟩ := ih (i + 1) (31 * x7 + rd code ((a1 + (i : Int)) % (code.length : Int))) (by omega) (by omega) (by omega)
    refine ⟨v, ?_, k2, k3⟩
    refine Ev.step (fun k => by rw [laws_pick.l0]) (ev_pos (by omega) (ev_neg (by omega) ?_))
    rw [e1, e2]
    refine ev_pos m1 (ev_pos m2 ?_)
    rw [w64 (n := 31 * x7) (by omega) (by omega), w64 (n := rd code ((a1 + (i : Int)) % (code.length : Int))) (by omega) (by omega), w64 (n := 31 * x7 + rd code ((a1 + (i : Int)) % (code.length : Int))) (by omega) (by omega), w64 (by omega) (by omega)]
    exact k1
theorem laws_pick_ev (code : List Int) (hb : ∀ b ∈ code, 0 ≤ b ∧ b < 256) (hm : code.length ≤ 1048576) (a1 x2 : Int) (ha : 0 ≤ a1 ∧ a1 ≤ 1000) (hx : 1 ≤ x2) : ∃ v, Ev (fun k => laws_pick.f k code a1 x2) v ∧ 0 ≤ v ∧ v < x2 := by
  unfold laws_pick.f
  have bad : Ev (fun k => laws_pick.j0 k code a1 x2 true) 0 := Ev.step (fun k => by rw [laws_pick.j0]) (ev_pos rfl (ev_now _))
  by_cases h0 : code.length = 0
  · exact ⟨0, ev_pos (by omega) bad, by omega, by omega⟩
  · by_cases h2 : x2 < 2
    · exact ⟨0, ev_neg (by omega) (by rw [decide_eq_true h2]; exact bad), by omega, by omega⟩
    · obtain ⟨v, k1, k2, k3⟩ := laws_pick_l0 code hb hm (by omega) a1 x2 ha hx 3 0 0 (by omega) (by omega) (by omega)
      refine ⟨v, ev_neg (by omega) ?_, k2, k3⟩
      rw [decide_eq_false h2]
      refine Ev.step (fun k => by rw [laws_pick.j0]) ?_
      exact ev_neg (by decide) k1
theorem laws_sameBits_same (n : Int) (ws : List Int) (hm : ws.length ≤ 1000000) : Ev (fun k => laws_sameBits.f k n ws n ws) true := by
  unfold laws_sameBits.f
  have loop : ∀ (d i : Nat), i + d = ws.length → Ev (fun k => laws_sameBits.l0 k (i : Int) n ws n ws) true := by
    intro d
    induction d with
    | zero => intro i hi; exact Ev.step (fun k => by rw [laws_sameBits.l0]) (ev_neg (by omega) (ev_now _))
    | succ d ih =>
      intro i hi
      refine Ev.step (fun k => by rw [laws_sameBits.l0]) (ev_pos (by omega) (ev_pos (by omega) (ev_pos (by omega) (ev_pos rfl ?_))))
      rw [w64 (by omega) (by omega)]
      exact ih (i + 1) (by omega)
  rw [show ((ws.length : Int) != (ws.length : Int)) = false by simp]
  refine ev_pos rfl ?_
  refine Ev.step (fun k => by rw [laws_sameBits.j0]) ?_
  exact ev_neg (by decide) (loop ws.length 0 (by omega))
theorem nb_bit : ∀ (l : List Int) (j : Nat) (h : j < l.length), isBits l → ((nb l / 2 ^ j % 2 : Nat) : Int) = l[j] := by
  intro l
  induction l with
  | nil => intro j h; simp at h
  | cons b l ih =>
    intro j h hb
    have h2 := hb b (by simp)
    cases j with
    | zero =>
      rw [nb, Nat.pow_zero, Nat.div_one, List.getElem_cons_zero]
      omega
    | succ j =>
      have := ih j (by simpa using h) (fun x hx => hb x (by simp [hx]))
      rw [List.getElem_cons_succ, ← this, nb, Nat.pow_succ, Nat.mul_comm (2 ^ j) 2, ← Nat.div_div_eq_div_mul]
      congr 3
      omega
theorem listL_wordsOf (L : List Int) (hb : isBits L) : listL L.length (wordsOf L) = L := by
  apply List.ext_getElem (listL_length _ _)
  intro i h1 h2
  have e0 : (listL L.length (wordsOf L))[i] = bitAt (wordsOf L) i := tab_get (f := bitAt (wordsOf L)) h1
  rw [e0]
  unfold bitAt
  rw [wordsOf_getD, Int.toNat_natCast]
  unfold wordAt
  have hl : i % 64 < ((L.drop (64 * (i / 64))).take 64).length := by rw [List.length_take, List.length_drop]; omega
  rw [nb_bit _ _ hl (isBits_sub hb _ _), List.getElem_take, List.getElem_drop]
  congr 1
  omega
theorem wordsOf_u64 (L : List Int) (hb : isBits L) : ∀ x ∈ wordsOf L, 0 ≤ x ∧ x ≤ 18446744073709551615 := by
  intro x hx
  unfold wordsOf tab at hx
  obtain ⟨i, _, rfl⟩ := List.mem_map.1 hx
  have := wordAt_lt hb i
  omega
theorem bitsOk_wordsOf (L : List Int) (hb : isBits L) (hm : L.length ≤ 5000) : bitsOk (L.length : Int) (wordsOf L) = true := by
  unfold bitsOk
  refine decide_eq_true ⟨by omega, by omega, by rw [wordsOf_length]; omega, ?_⟩
  have h := (words_same L.length (wordsOf L) (wordsOf_length L) (wordsOf_u64 L hb)).1 (by rw [listL_wordsOf L hb])
  rw [show ((L.length : Int) % 64).toNat = L.length % 64 by omega]
  omega
theorem rankR_wordsOf (L : List Int) (hb : isBits L) (hm : L.length ≤ 5000) (b a : Int) (h1 : b = 0 ∨ b = 1) (h2 : 0 ≤ a) (h3 : a ≤ (L.length : Int)) : rankR (L.length : Int) (wordsOf L) b a = (((L.take a.toNat).count b : Nat) : Int) := by
  unfold rankR
  rw [if_pos ⟨bitsOk_wordsOf L hb hm, h1, h2, h3⟩, Int.toNat_natCast, listL_wordsOf L hb]

theorem flip_count (L : List Int) (hb : isBits L) : ∀ a : Nat, ((flipL L).take a).count 0 = (L.take a).count 1 := by
  intro a
  unfold flipL
  rw [← List.map_take, List.count_eq_countP, List.countP_map, List.count_eq_countP]
  apply List.countP_congr
  intro x hx
  have := hb x (List.mem_of_mem_take hx)
  simp only [Function.comp, beq_iff_eq]
  omega
theorem flip_flip (L : List Int) : flipL (flipL L) = L := by
  unfold flipL
  rw [List.map_map]
  have : ((fun b : Int => 1 - b) ∘ fun b : Int => 1 - b) = id := by funext b; simp only [Function.comp, id]; omega
  rw [this, List.map_id]
theorem rank_L (L : List Int) (hbits : isBits L) (hL5 : L.length ≤ 5000) (a : Nat) (ha : a ≤ L.length) : Ev (fun k => impl_Rank.f k (L.length : Int) (wordsOf L) 1 (a : Int)) (((L.take a).count 1 : Nat) : Int) := by
  have r1 := impl_Rank_ev (L.length : Int) (wordsOf L) 1 (a : Int) (by rw [wordsOf_length]; omega) (wordsOf_u64 L hbits)
  have h := rankR_wordsOf L hbits hL5 1 (a : Int) (Or.inr rfl) (by omega) (by omega)
  rw [Int.toNat_natCast] at h
  rw [h] at r1
  exact r1
theorem rank_F (L : List Int) (hbits : isBits L) (hL5 : L.length ≤ 5000) (a : Nat) (ha : a ≤ L.length) : Ev (fun k => impl_Rank.f k (L.length : Int) (wordsOf (flipL L)) 0 (a : Int)) (((L.take a).count 1 : Nat) : Int) := by
  have hFl : (flipL L).length = L.length := flipL_length L
  have r1 := impl_Rank_ev ((flipL L).length : Int) (wordsOf (flipL L)) 0 (a : Int) (by rw [wordsOf_length]; omega) (wordsOf_u64 _ (flip_bits hbits))
  have h := rankR_wordsOf (flipL L) (flip_bits hbits) (by omega) 0 (a : Int) (Or.inl rfl) (by omega) (by omega)
  rw [Int.toNat_natCast, flip_count L hbits] at h
  rw [h, hFl] at r1
  exact r1
theorem flip_L (L : List Int) (hbits : isBits L) (hL5 : L.length ≤ 5000) : Ev (fun k => impl_BitsFlip.f k (L.length : Int) (wordsOf L)) ((L.length : Int), wordsOf (flipL L)) := by
  have f1 := impl_BitsFlip_ev (L.length : Int) (wordsOf L) (by rw [wordsOf_length]; omega) (wordsOf_u64 L hbits)
  have b1 : bitsListR (L.length : Int) (wordsOf L) = L := by
    unfold bitsListR
    rw [if_pos (bitsOk_wordsOf L hbits hL5), Int.toNat_natCast, listL_wordsOf L hbits]
  unfold bitsFlipR at f1
  rw [b1] at f1
  exact f1
theorem rank_S (n : Nat) (ws : List Int) (hw : u64s ws) (hl : ws.length ≤ 101) (g : bitsOk (n : Int) ws = true) (i : Nat) (hi : i ≤ n) : Ev (fun k => spec_Rank.f k (n : Int) ws 1 (i : Int)) ((((listL n ws).take i).count 1 : Nat) : Int) := by
  have s1 := spec_Rank_ev (n : Int) ws 1 (i : Int) (by omega) hw
  have e : rankR (n : Int) ws 1 (i : Int) = ((((listL n ws).take i).count 1 : Nat) : Int) := by
    unfold rankR
    rw [if_pos ⟨g, Or.inr rfl, by omega, by omega⟩, Int.toNat_natCast, Int.toNat_natCast]
  rw [e] at s1
  exact s1
theorem sum3 (x y z : Nat) (h : z = x + y) (hx : x ≤ 5000) (hy : y ≤ 5000) : wrap64 ((x : Int) + (y : Int)) = (z : Int) := by rw [w64 (by omega) (by omega)]; omega
theorem sum1 (b : Nat) (h : b ≤ 5000) : wrap64 ((b : Int) + 1) = (b : Int) + 1 := w64 (by omega) (by omega)
theorem join_core (code : List Int) (hb : ∀ b ∈ code, 0 ≤ b ∧ b < 256) (hm : code.length ≤ 1048576) (a b : Nat) (ws vs : List Int) (k2 : u64s ws) (k3 : ws.length ≤ 101) (k4 : u64s vs) (k5 : vs.length ≤ 101) (ha5 : a ≤ 5000) (hb5 : b ≤ 5000) (g1 : bitsOk (a : Int) ws = true) (g2 : bitsOk (b : Int) vs = true)
    (L : List Int) (hL : listL a ws ++ listL b vs = L) (hbits : isBits L) (hL5 : L.length ≤ 5000) : Ev (fun k => laws_FnBitsJoin.j0 k code true true false (a : Int) ws (b : Int) vs (L.length : Int) (wordsOf L)) true := by
  have la := listL_length a ws
  have lb := listL_length b vs
  have lL : L.length = a + b := by rw [← hL, List.length_append, la, lb]
  obtain ⟨i, p1, p2, p3⟩ := laws_pick_ev code hb hm 3 ((b : Int) + 1) (by omega) (by omega)
  obtain ⟨i, rfl⟩ : ∃ i' : Nat, i = (i' : Int) := ⟨i.toNat, by omega⟩
  have hi : i ≤ b := by omega
  have f1 := flip_L L hbits hL5
  have hFl : (flipL L).length = L.length := flipL_length L
  have f2 := flip_L (flipL L) (flip_bits hbits) (by omega)
  rw [flip_flip, hFl] at f2
  have r1 := rank_L L hbits hL5 (a + i) (by omega)
  have r2 := rank_F L hbits hL5 (a + i) (by omega)
  have s1 := rank_S a ws k2 k3 g1 a (Nat.le_refl _)
  have s2 := rank_S b vs k4 k5 g2 i hi
  have ea : (listL a ws).take a = listL a ws := List.take_of_length_le (by omega)
  rw [ea] at s1
  have hcat : (L.take (a + i)).count 1 = (listL a ws).count 1 + ((listL b vs).take i).count 1 := by
    rw [← hL, List.take_append, List.take_of_length_le (by omega), la, Nat.add_sub_cancel_left, List.count_append]
  have c1 : (listL a ws).count 1 ≤ a := by have := List.count_le_length (a := (1 : Int)) (l := listL a ws); omega
  have c2 : ((listL b vs).take i).count 1 ≤ b := by have := List.count_le_length (a := (1 : Int)) (l := (listL b vs).take i); rw [List.length_take] at this; omega
  have same := laws_sameBits_same (L.length : Int) (wordsOf L) (by rw [wordsOf_length]; omega)
  have hi5 : i ≤ 5000 := Nat.le_trans hi hb5
  have e1 : wrap64 ((b : Int) + 1) = (b : Int) + 1 := sum1 b hb5
  have e2 : wrap64 ((a : Int) + (b : Int)) = (L.length : Int) := sum3 a b _ lL ha5 hb5
  have e3 : wrap64 ((a : Int) + (i : Int)) = ((a + i : Nat) : Int) := sum3 a i _ rfl ha5 hi5
  have e4 := sum3 _ _ _ hcat (Nat.le_trans c1 ha5) (Nat.le_trans c2 hb5)
  refine Ev.step (fun k => by rw [laws_FnBitsJoin.j0]) (ev_neg (by decide) ?_)
  rw [e1, e2]
  refine ev_bind p1 (ev_bind f1 (ev_pos rfl ?_))
  rw [e3]
  refine ev_bind r1 (ev_bind s1 (ev_bind s2 (ev_pos e4.symm ?_)))
  refine ev_bind r2 (ev_bind r1 (ev_pos rfl (ev_bind f2 ?_)))
  exact ev_bind same (ev_now _)
theorem FnBitsJoin : laws_FnBitsJoin.Pure := by
  intro code hl _ hw
  refine Ev.rounds ?_
  unfold laws_FnBitsJoin.f
  have hb : ∀ b ∈ code, 0 ≤ b ∧ b < 256 := fun x hx => wf_u8 (hw x hx)
  refine ev_some (show laws_big.f code = some (decide ((code.length : Int) > 1048576)) from rfl) (ev_ite (fun _ => ev_now _) (fun h => ?_))
  have hm : code.length ≤ 1048576 := by
    rcases Nat.lt_or_ge 1048576 code.length with g | g
    · exact absurd (decide_eq_true (by omega)) h
    · exact g
  obtain ⟨n, ws, m, vs, k1, k2, k3, k4, k5⟩ := DrawBitsJoin_ok code hb
  refine ev_bind k1 (ev_bind (spec_BitsJoin_ev n ws m vs (by omega) k2 (by omega) k4) (ev_bind (impl_BitsJoin_ev n ws m vs (by omega) k2 (by omega) k4) ?_))
  have key : ∀ R : Int × List Int × Bool, R = bitsJoinR n ws m vs → R.2.2 = true → Ev (fun k => laws_FnBitsJoin.j0 k code true true false n ws m vs R.1 R.2.1) true := by
    intro R hR hok
    unfold bitsJoinR at hR
    by_cases g : bitsOk n ws = true ∧ bitsOk m vs = true
    · rw [if_pos g] at hR
      obtain ⟨g1, g2⟩ := g
      obtain ⟨a, rfl, ha5, hla⟩ := bitsOk_true g1
      obtain ⟨b, rfl, hb5, hlb⟩ := bitsOk_true g2
      rw [Int.toNat_natCast, Int.toNat_natCast] at hR
      have hbits : isBits (listL a ws ++ listL b vs) := fun x hx => by
        rcases List.mem_append.1 hx with e | e
        · exact listL_bits _ _ x e
        · exact listL_bits _ _ x e
      unfold bitsOfR at hR
      by_cases h5 : (decide ((listL a ws ++ listL b vs).length ≤ 5000) && (listL a ws ++ listL b vs).all fun a => decide (a = 0 ∨ a = 1)) = true
      · rw [if_pos h5] at hR
        rw [Bool.and_eq_true] at h5
        have hL5 := of_decide_eq_true h5.1
        subst hR
        exact join_core code hb hm a b ws vs k2 k3 k4 k5 ha5 hb5 g1 g2 _ rfl hbits hL5
      · rw [if_neg h5] at hR
        subst hR
        cases hok
    · rw [if_neg g] at hR
      subst hR
      cases hok
  simp only
  rw [show ((bitsJoinR n ws m vs).2.2 != (bitsJoinR n ws m vs).2.2) = false by simp]
  refine ev_neg (by decide) ?_
  cases hok : (bitsJoinR n ws m vs).2.2 with
  | false =>
    refine Ev.step (fun k => by rw [laws_FnBitsJoin.j0]) ?_
    exact ev_pos rfl (ev_now _)
  | true => exact key _ rfl hok

end Go.Proofs.Ytcbhepghmmbdmaa.Pure
