/- The pure statement of the law FnExactFramesRead: the program's answers equal the reference's, for all arguments within the row's bounds. -/
import Derived.Test.YtebdjkdmmdninaaQFnExactFramesReadx9
import Derived.Test.YtebdjkdmmdninaaLib
namespace Go.Proofs.Ytebdjkdmmdninaa.Pure
open Go.RowKit Go.Proofs.Ytebdjkdmmdninaa.QFnExactFramesRead Go.Proofs.Ytebdjkdmmdninaa.Lib Go.Proofs.YtebdjkdmmdninaaW.PrintWords Go.Proofs.YtebdjkdmmdninaaW.PrintLast Go.Proofs.YtebdjkdmmdninaaW.PrintMore
set_option linter.unusedVariables false
set_option linter.unusedSimpArgs false

theorem spec_FrameOk_f (a : Int) (l : List Int) : spec_FrameOk.f a l = some (decide (0 ≤ a ∧ a ≤ 255 ∧ l.length ≤ 8000)) := by
  unfold spec_FrameOk.f
  by_cases h : 0 ≤ a
  · rw [if_pos (by omega)]
    by_cases h' : a ≤ 255
    · rw [if_pos h']; congr 1; simp [h, h']; omega
    · rw [if_neg h']; simp [h']
  · rw [if_neg (by omega)]; simp [h]
theorem spec_VarOf_l0 : ∀ (f n : Nat) (acc : List Int), n < 128 ^ (f + 1) → f ≤ 8 → acc.length + f ≤ 100 → Ev (fun k => spec_VarOf.l0 k (n : Int) acc) (acc ++ varB f n) := by
  intro f
  induction f with
  | zero =>
    intro n acc hn hf hl
    refine Ev.step (fun k => by rw [spec_VarOf.l0]) ?_
    refine ev_neg (by omega) (ev_pos (by omega) (ev_now' rfl))
  | succ f ih =>
    intro n acc hn hf hl
    refine Ev.step (fun k => by rw [spec_VarOf.l0]) ?_
    have hp : 128 ^ (f + 1) ≤ 128 ^ 8 := Nat.pow_le_pow_right (by decide) (by omega)
    have hpp : 128 ^ (f + 1 + 1) = 128 ^ (f + 1) * 128 := Nat.pow_succ ..
    have hq : n / 128 < 128 ^ (f + 1) := by rw [Nat.div_lt_iff_lt_mul (by decide)]; omega
    by_cases h : 128 ≤ n
    · refine ev_pos (by omega) (ev_pos (by omega) ?_)
      have e1 : Int.tdiv (n : Int) 128 = ((n / 128 : Nat) : Int) := tdiv_nat n 128
      have e2 : Int.tmod (n : Int) 128 = ((n % 128 : Nat) : Int) := tmod_nat n 128
      rw [e1, e2, w64 (by omega) (by omega), w64 (by omega) (by omega)]
      refine ev_eq (ih (n / 128) _ hq (by omega) (by simp; omega)) ?_
      rw [varB, if_pos h, List.append_assoc, List.singleton_append]
      congr 2
      omega
    · refine ev_neg (by omega) (ev_pos (by omega) (ev_now' ?_))
      rw [varB, if_neg h]
theorem spec_VarOf_ev (n : Nat) (h : n ≤ 4294967295) : Ev (fun k => spec_VarOf.f k (n : Int)) (varB 4 n) := by
  unfold spec_VarOf.f
  refine ev_neg (by omega) (Ev.step (fun k => by rw [spec_VarOf.j0]) (ev_neg (by simp; omega) ?_))
  exact spec_VarOf_l0 4 n [] (by omega) (by omega) (by simp)
theorem spec_VarOf_bad (a : Int) (h : a < 0 ∨ 4294967295 < a) : Ev (fun k => spec_VarOf.f k a) [] := by
  unfold spec_VarOf.f
  refine ev_ite (fun _ => Ev.step (fun k => by rw [spec_VarOf.j0]) (ev_pos rfl (ev_now _))) (fun _ => Ev.step (fun k => by rw [spec_VarOf.j0]) (ev_pos (by simp; omega) (ev_now _)))
def four (c : Nat) : List Int := tab 4 fun i => ((c / 2 ^ (8 * i) % 256 : Nat) : Int)
theorem spec_l04Four_f (c : Nat) (h : c < 2 ^ 32) : spec_l04Four.f (c : Int) = some (four c) := by
  unfold spec_l04Four.f
  congr 1
  rw [show Int.tmod (c : Int) 256 = ((c % 256 : Nat) : Int) from tmod_nat c 256]
  rw [show Int.tdiv (c : Int) 256 = ((c / 256 : Nat) : Int) from tdiv_nat c 256, w64 (n := ((c / 256 : Nat) : Int)) (by omega) (by omega), show Int.tmod ((c / 256 : Nat) : Int) 256 = ((c / 256 % 256 : Nat) : Int) from tmod_nat (c / 256) 256]
  rw [show Int.tdiv (c : Int) 65536 = ((c / 65536 : Nat) : Int) from tdiv_nat c 65536, w64 (n := ((c / 65536 : Nat) : Int)) (by omega) (by omega), show Int.tmod ((c / 65536 : Nat) : Int) 256 = ((c / 65536 % 256 : Nat) : Int) from tmod_nat (c / 65536) 256]
  rw [show Int.tdiv (c : Int) 16777216 = ((c / 16777216 : Nat) : Int) from tdiv_nat c 16777216, w64 (n := ((c / 16777216 : Nat) : Int)) (by omega) (by omega), show Int.tmod ((c / 16777216 : Nat) : Int) 256 = ((c / 16777216 % 256 : Nat) : Int) from tmod_nat (c / 16777216) 256]
  have e : four c = [((c / 1 % 256 : Nat) : Int), ((c / 256 % 256 : Nat) : Int), ((c / 65536 % 256 : Nat) : Int), ((c / 16777216 % 256 : Nat) : Int)] := rfl
  rw [e]
  simp
theorem spec_Crc_l1 (xs : List Int) (i : Nat) (r : Int) : ∀ (d j c : Nat), j + d = 8 → c < 2 ^ 32 → Ev (fun k => spec_Crc.l0 k xs ((crcIter d c : Nat) : Int) (wrap64 ((i : Int) + 1))) r → Ev (fun k => spec_Crc.l1 k xs (c : Int) (i : Int) (j : Int)) r := by
  intro d
  induction d with
  | zero =>
    intro j c hj hc h
    refine Ev.step (fun k => by rw [spec_Crc.l1]) ?_
    exact ev_neg (by omega) h
  | succ d ih =>
    intro j c hj hc h
    refine Ev.step (fun k => by rw [spec_Crc.l1]) ?_
    have e1 : Int.tmod (c : Int) 2 = ((c % 2 : Nat) : Int) := tmod_nat c 2
    have e2 : Int.tdiv (c : Int) 2 = ((c / 2 : Nat) : Int) := tdiv_nat c 2
    rw [e1, e2, w64 (n := (j : Int) + 1) (by omega) (by omega), w64 (n := ((c / 2 : Nat) : Int)) (by omega) (by omega), show (3988292384 : Int) = ((3988292384 : Nat) : Int) from rfl, xor_i64 _ _ (by omega) (by decide)]
    have hs := crcStep_lt hc
    refine ev_pos (by omega) (ev_ite (fun o => ?_) (fun o => ?_))
    · have e : crcStep c = (c / 2) ^^^ 3988292384 := by unfold crcStep; rw [if_pos (by omega)]
      rw [← e]
      exact ih (j + 1) _ (by omega) hs h
    · have e : crcStep c = c / 2 := by unfold crcStep; rw [if_neg (by omega)]
      rw [← e]
      exact ih (j + 1) _ (by omega) hs h
theorem spec_Crc_l0 (xs : List Int) (hm : xs.length ≤ 16000) (hb : ∀ b ∈ xs, 0 ≤ b ∧ b < 256) : ∀ (d n c : Nat), n + d = xs.length → c < 2 ^ 32 → Ev (fun k => spec_Crc.l0 k xs (c : Int) (n : Int)) ((crcAll ((xs.drop n).map Int.toNat) c ^^^ 4294967295 : Nat) : Int) := by
  intro d
  induction d with
  | zero =>
    intro n c hn hc
    refine Ev.step (fun k => by rw [spec_Crc.l0]) ?_
    refine ev_neg (by omega) (ev_now' ?_)
    rw [List.drop_eq_nil_of_le (by omega), show (4294967295 : Int) = ((4294967295 : Nat) : Int) from rfl, xor_i64 _ _ (by omega) (by decide)]
    rfl
  | succ d ih =>
    intro n c hn hc
    refine Ev.step (fun k => by rw [spec_Crc.l0]) ?_
    refine ev_pos (by omega) (ev_pos (by omega) ?_)
    have hx := hb _ (List.getElem_mem (show n < xs.length by omega))
    rw [rd_lt (show n < xs.length by omega), w64 (n := xs[n]) (by omega) (by omega)]
    have e : xs[n] = ((xs[n].toNat : Nat) : Int) := by omega
    rw [e, xor_i64 _ _ (by omega) (by omega)]
    have hlt : c ^^^ xs[n].toNat < 2 ^ 32 := Nat.xor_lt_two_pow hc (by omega)
    refine spec_Crc_l1 xs n _ 8 0 _ (by omega) hlt ?_
    rw [w64 (n := (n : Int) + 1) (by omega) (by omega)]
    refine ev_eq (ih (n + 1) _ (by omega) (crcIter_lt hlt)) ?_
    rw [List.drop_eq_getElem_cons (show n < xs.length by omega), List.map_cons, crcAll]
theorem spec_Crc_ev (xs : List Int) (hm : xs.length ≤ 16000) (hb : ∀ b ∈ xs, 0 ≤ b ∧ b < 256) : Ev (fun k => spec_Crc.f k xs) ((crcOf xs : Nat) : Int) := by
  unfold spec_Crc.f
  refine ev_neg (by omega) ?_
  exact spec_Crc_l0 xs hm hb xs.length 0 4294967295 (by omega) (by decide)
theorem spec_Crc_bad (xs : List Int) (hm : 16000 < xs.length) : Ev (fun k => spec_Crc.f k xs) (-1) := by
  unfold spec_Crc.f
  exact ev_pos (by omega) (ev_now _)
def frameP (a : Int) (l : List Int) : List Int := ([90, a % 256] ++ varB 4 l.length) ++ l
def frameL (a : Int) (l : List Int) : List Int := frameP a l ++ four (crcOf (frameP a l))
def frameR (a : Int) (l : List Int) : List Int := if 0 ≤ a ∧ a ≤ 255 ∧ l.length ≤ 8000 then frameL a l else []
theorem frameP_mem (a : Int) (l : List Int) (hb : ∀ b ∈ l, 0 ≤ b ∧ b < 256) : ∀ b ∈ frameP a l, 0 ≤ b ∧ b < 256 := by
  intro b h
  rcases List.mem_append.1 h with h | h
  · rcases List.mem_append.1 h with h | h
    · simp at h; omega
    · exact varB_mem _ _ b h
  · exact hb b h
theorem frameP_length (a : Int) (l : List Int) : (frameP a l).length = 2 + (varB 4 l.length).length + l.length := by
  unfold frameP; simp; omega
theorem four_mem (c : Nat) : ∀ b ∈ four c, 0 ≤ b ∧ b < 256 := by
  intro b h
  unfold four tab at h
  obtain ⟨i, _, rfl⟩ := List.mem_map.1 h
  omega
theorem frameL_mem (a : Int) (l : List Int) (hb : ∀ b ∈ l, 0 ≤ b ∧ b < 256) : ∀ b ∈ frameL a l, 0 ≤ b ∧ b < 256 := by
  intro b h
  rcases List.mem_append.1 h with h | h
  · exact frameP_mem a l hb b h
  · exact four_mem _ b h
theorem frameL_length (a : Int) (l : List Int) : (frameL a l).length = 2 + (varB 4 l.length).length + l.length + 4 := by
  unfold frameL; rw [List.length_append, frameP_length]; rfl
theorem frameR_length (a : Int) (l : List Int) : (frameR a l).length ≤ 8011 := by
  unfold frameR
  split
  · rename_i h
    have := (varB_length 4 l.length).2
    rw [frameL_length]; omega
  · simp
theorem spec_FrameOf_ev (a : Int) (l : List Int) (hb : ∀ b ∈ l, 0 ≤ b ∧ b < 256) : Ev (fun k => spec_FrameOf.f k a l) (frameR a l) := by
  unfold spec_FrameOf.f frameR
  refine ev_some (spec_FrameOk_f a l) (ev_ite (fun h => ?_) (fun h => ?_))
  · have h' := of_decide_eq_true h
    rw [if_pos h']
    have hv := (varB_length 4 l.length).2
    have hp := frameP_length a l
    refine ev_some rfl (ev_bind (spec_VarOf_ev l.length (by omega)) (ev_pos (by simp; omega) (ev_some rfl (ev_pos (by simp; omega) (ev_some rfl ?_)))))
    refine ev_bind (spec_Crc_ev (frameP a l) (by omega) (frameP_mem a l hb)) (ev_some (spec_l04Four_f _ (crcOf_lt (frameP_mem a l hb))) ?_)
    refine ev_pos ?_ (ev_now _)
    have e4 : (four (crcOf (frameP a l))).length = 4 := rfl
    show (frameP a l).length + (four (crcOf (frameP a l))).length < 140737488355328
    omega
  · have h' : ¬ (0 ≤ a ∧ a ≤ 255 ∧ l.length ≤ 8000) := fun g => h (decide_eq_true g)
    rw [if_neg h']; exact ev_now _
def varOfR (v : Nat) : List Int := if v ≤ 4294967295 then varB 4 v else []
theorem spec_VarOf_R (v : Nat) : Ev (fun k => spec_VarOf.f k (v : Int)) (varOfR v) := by
  unfold varOfR
  split
  · rename_i h; exact spec_VarOf_ev v h
  · exact spec_VarOf_bad _ (by omega)
/-- reading on from byte i, of five at most -/
def varL (xs : List Int) (a : Nat) : Nat → Nat → Nat → Int × Int × Bool
  | 0, _, _ => (0, 0, false)
  | d + 1, i, acc =>
    if a + i < xs.length then
      (if xs.getD (a + i) 0 < 128 then
        (if (strOfNums (varOfR (acc + 128 ^ i * ((xs.getD (a + i) 0).toNat % 128)))).toList = (strOfNums ((xs.take (a + i + 1)).drop a)).toList then (((acc + 128 ^ i * ((xs.getD (a + i) 0).toNat % 128) : Nat) : Int), ((a + i + 1 : Nat) : Int), true) else (0, 0, false))
       else varL xs a d (i + 1) (acc + 128 ^ i * ((xs.getD (a + i) 0).toNat % 128)))
    else (0, 0, false)
theorem varL_step {i acc b : Nat} (h : acc < 128 ^ i) (hb : b < 128) : acc + 128 ^ i * b < 128 ^ (i + 1) := by
  have h1 : 128 ^ i * b ≤ 128 ^ i * 127 := Nat.mul_le_mul_left _ (by omega)
  rw [Nat.pow_succ]
  omega
theorem spec_VarRead_l0 (xs : List Int) (a : Nat) (hm : xs.length ≤ 1048576) (ha : a ≤ xs.length) (hw : ∀ x ∈ xs, 0 ≤ x ∧ x < 256) : ∀ (d i acc : Nat), i + d = 5 → acc < 128 ^ i → Ev (fun k => spec_VarRead.l0 k xs (a : Int) (acc : Int) ((128 ^ i : Nat) : Int) ((a + i : Nat) : Int)) (varL xs a d i acc) := by
  intro d
  induction d with
  | zero =>
    intro i acc hi hacc
    refine Ev.step (fun k => by rw [spec_VarRead.l0]) ?_
    rw [w64 (n := (a : Int) + 5) (by omega) (by omega), decide_eq_false (show ¬ (((a + i : Nat) : Int) < (a : Int) + 5) by omega)]
    have bad : Ev (fun k => spec_VarRead.j2 k xs (a : Int) (acc : Int) ((128 ^ i : Nat) : Int) ((a + i : Nat) : Int) false) (varL xs a 0 i acc) := by
      refine Ev.step (fun k => by rw [spec_VarRead.j2]) ?_
      exact ev_neg (by decide) (ev_now _)
    exact ev_ite (fun _ => bad) (fun _ => bad)
  | succ d ih =>
    intro i acc hi hacc
    refine Ev.step (fun k => by rw [spec_VarRead.l0]) ?_
    rw [w64 (n := (a : Int) + 5) (by omega) (by omega), varL]
    by_cases hlt : a + i < xs.length
    · rw [if_pos hlt, decide_eq_true (show ((a + i : Nat) : Int) < (a : Int) + 5 by omega)]
      refine ev_pos (by omega) ?_
      refine Ev.step (fun k => by rw [spec_VarRead.j2]) (ev_pos rfl (ev_pos (by omega) (ev_pos (by omega) ?_)))
      have hx := hw _ (List.getElem_mem hlt)
      obtain ⟨b, e⟩ : ∃ b : Nat, xs[a + i] = (b : Int) := ⟨xs[a + i].toNat, by omega⟩
      have hv := varL_step (b := b % 128) hacc (by omega)
      have hp5 : 128 ^ (i + 1) ≤ 128 ^ 5 := Nat.pow_le_pow_right (by decide) (by omega)
      have hpp : 128 ^ (i + 1) = 128 ^ i * 128 := Nat.pow_succ ..
      rw [rd_lt hlt, List.getD_eq_getElem?_getD, List.getElem?_eq_getElem hlt, Option.getD_some, e, Int.toNat_natCast, show Int.tmod (b : Int) 128 = ((b % 128 : Nat) : Int) from tmod_nat b 128, w64 (n := ((b % 128 : Nat) : Int)) (by omega) (by omega), ← Int.natCast_mul]
      have hmul : 128 ^ i * (b % 128) < 128 ^ (i + 1) := by omega
      rw [w64 (n := ((128 ^ i * (b % 128) : Nat) : Int)) (by omega) (by omega), ← Int.natCast_add, w64 (n := ((acc + 128 ^ i * (b % 128) : Nat) : Int)) (by omega) (by omega), w64 (n := ((a + i : Nat) : Int) + 1) (by omega) (by omega), w64 (n := 128 * ((128 ^ i : Nat) : Int)) (by omega) (by omega)]
      refine ev_ite (fun h => ?_) (fun h => ?_)
      · rw [if_pos h]
        refine ev_bind (spec_VarOf_R _) (ev_pos (by omega) (ev_pos (by omega) (ev_pos (by omega) ?_)))
        rw [show ((a + i : Nat) : Int) + 1 = ((a + i + 1 : Nat) : Int) by omega, Int.toNat_natCast, Int.toNat_natCast]
        refine ev_ite (fun h => ?_) (fun h => ?_)
        · rw [if_pos h]; exact ev_now _
        · rw [if_neg h]; exact ev_now _
      · rw [if_neg h, show ((a + i : Nat) : Int) + 1 = ((a + (i + 1) : Nat) : Int) by omega, show 128 * ((128 ^ i : Nat) : Int) = ((128 ^ (i + 1) : Nat) : Int) by omega]
        exact ih (i + 1) _ (by omega) hv
    · rw [if_neg hlt]
      refine ev_neg (by omega) ?_
      refine Ev.step (fun k => by rw [spec_VarRead.j2]) ?_
      exact ev_neg (by decide) (ev_now _)
def varReadR (xs : List Int) (a : Int) : Int × Int × Bool := if 0 ≤ a ∧ a < xs.length then varL xs a.toNat 5 0 0 else (0, 0, false)
theorem spec_VarRead_ev (xs : List Int) (a : Int) (hm : xs.length ≤ 1048576) (hw : ∀ x ∈ xs, 0 ≤ x ∧ x < 256) : Ev (fun k => spec_VarRead.f k xs a) (varReadR xs a) := by
  unfold spec_VarRead.f varReadR
  have bad : Ev (fun k => spec_VarRead.j0 k xs a true) (0, 0, false) := by
    refine Ev.step (fun k => by rw [spec_VarRead.j0]) ?_
    exact ev_pos rfl (ev_now _)
  refine ev_ite (fun h => ?_) (fun h => ?_)
  · rw [if_neg (by omega)]; exact bad
  · by_cases h1 : a < xs.length
    · rw [if_pos ⟨by omega, h1⟩, decide_eq_false (by omega)]
      refine Ev.step (fun k => by rw [spec_VarRead.j0]) (ev_neg (by decide) ?_)
      obtain ⟨a, rfl⟩ : ∃ a' : Nat, a = (a' : Int) := ⟨a.toNat, by omega⟩
      rw [Int.toNat_natCast]
      exact spec_VarRead_l0 xs a hm (by omega) hw 5 0 0 (by omega) (by decide)
    · rw [if_neg (by omega), decide_eq_true (by omega)]; exact bad
theorem varL_ok (xs : List Int) (a : Nat) : ∀ (d i acc : Nat), (varL xs a d i acc).2.2 = true → ∃ n r : Nat, varL xs a d i acc = ((n : Int), (r : Int), true) ∧ a < r ∧ r ≤ xs.length ∧ (varOfR n).length = r - a := by
  intro d
  induction d with
  | zero => intro i acc h; rw [varL] at h; cases h
  | succ d ih =>
    intro i acc h
    rw [varL] at h ⊢
    by_cases h1 : a + i < xs.length
    · rw [if_pos h1] at h ⊢
      by_cases h2 : xs.getD (a + i) 0 < 128
      · rw [if_pos h2] at h ⊢
        by_cases h3 : (strOfNums (varOfR (acc + 128 ^ i * ((xs.getD (a + i) 0).toNat % 128)))).toList = (strOfNums ((xs.take (a + i + 1)).drop a)).toList
        · rw [if_pos h3]
          refine ⟨_, _, rfl, by omega, by omega, ?_⟩
          rw [strs_length h3, List.length_drop, List.length_take]; omega
        · rw [if_neg h3] at h; cases h
      · rw [if_neg h2] at h ⊢
        exact ih _ _ h
    · rw [if_neg h1] at h; cases h
theorem varReadR_ok (xs : List Int) (a : Nat) (h : (varReadR xs a).2.2 = true) : ∃ n r : Nat, varReadR xs a = ((n : Int), (r : Int), true) ∧ a < r ∧ r ≤ xs.length ∧ (varOfR n).length = r - a := by
  unfold varReadR at h ⊢
  by_cases h1 : 0 ≤ (a : Int) ∧ (a : Int) < xs.length
  · rw [if_pos h1] at h ⊢
    exact varL_ok xs a 5 0 0 h
  · rw [if_neg h1] at h; cases h
def frameAt (xs : List Int) (a n r : Nat) : Int × List Int × Int × Bool :=
  if xs.getD a 0 = 90 ∧ n ≤ 8000 ∧ r + n + 4 ≤ xs.length ∧ (strOfNums (frameR (xs.getD (a + 1) 0) ((xs.take (r + n)).drop r))).toList = (strOfNums ((xs.take (r + n + 4)).drop a)).toList then
    (xs.getD (a + 1) 0, (xs.take (r + n)).drop r, ((r + n + 4 : Nat) : Int), true)
  else (0, [], 0, false)
def frameReadR (xs : List Int) (a : Int) : Int × List Int × Int × Bool :=
  if 0 ≤ a ∧ a ≤ (xs.length : Int) - 2 ∧ (varReadR xs (a + 2)).2.2 = true then frameAt xs a.toNat (varReadR xs (a + 2)).1.toNat (varReadR xs (a + 2)).2.1.toNat else (0, [], 0, false)
theorem cut_mem {xs : List Int} (hb : ∀ b ∈ xs, 0 ≤ b ∧ b < 256) (i j : Nat) : ∀ b ∈ (xs.take i).drop j, 0 ≤ b ∧ b < 256 := fun b h => hb b (List.mem_of_mem_take (List.mem_of_mem_drop h))
theorem getD_byte {xs : List Int} (hb : ∀ b ∈ xs, 0 ≤ b ∧ b < 256) (i : Nat) : 0 ≤ xs.getD i 0 ∧ xs.getD i 0 < 256 := by
  by_cases h : i < xs.length
  · rw [List.getD_eq_getElem?_getD, List.getElem?_eq_getElem h, Option.getD_some]; exact hb _ (List.getElem_mem h)
  · rw [List.getD_eq_getElem?_getD, List.getElem?_eq_none (by omega), Option.getD_none]; omega
theorem rd_getD (xs : List Int) (n : Nat) : rd xs (n : Int) = xs.getD n 0 := rd_nat xs n
theorem frameR_len {xs : List Int} (hb : ∀ b ∈ xs, 0 ≤ b ∧ b < 256) {a n r : Nat} (hn : n ≤ 8000) (hr : r + n ≤ xs.length) (har : a + 2 < r) (hv : (varOfR n).length = r - (a + 2)) : (frameR (xs.getD (a + 1) 0) ((xs.take (r + n)).drop r)).length = r - a + n + 4 := by
  have h1 := getD_byte hb (a + 1)
  have h2 : ((xs.take (r + n)).drop r).length = n := by rw [List.length_drop, List.length_take]; omega
  unfold frameR
  rw [if_pos ⟨by omega, by omega, by omega⟩, frameL_length, h2]
  unfold varOfR at hv
  rw [if_pos (by omega)] at hv
  omega
theorem spec_FrameRead_ev (xs : List Int) (a : Int) (hm : xs.length ≤ 1048576) (hb : ∀ b ∈ xs, 0 ≤ b ∧ b < 256) (ha : -9223372036854775808 ≤ a ∧ a ≤ 9223372036854775807) : Ev (fun k => spec_FrameRead.f k xs a) (frameReadR xs a) := by
  unfold spec_FrameRead.f frameReadR
  have bad0 : Ev (fun k => spec_FrameRead.j0 k xs a true) (0, [], 0, false) := by
    refine Ev.step (fun k => by rw [spec_FrameRead.j0]) ?_
    exact ev_pos rfl (ev_now _)
  have bad1 : ∀ n r : Int, Ev (fun k => spec_FrameRead.j1 k xs a n r true) (0, [], 0, false) := by
    intro n r
    refine Ev.step (fun k => by rw [spec_FrameRead.j1]) ?_
    exact ev_pos rfl (ev_now _)
  rw [w64 (n := (xs.length : Int) - 2) (by omega) (by omega)]
  refine ev_ite (fun h => ?_) (fun h => ev_ite (fun h1 => ?_) (fun h1 => ?_))
  · rw [if_neg (by omega)]; exact bad0
  · rw [if_neg (by omega)]; exact bad0
  · obtain ⟨a, rfl⟩ : ∃ a' : Nat, a = (a' : Int) := ⟨a.toNat, by omega⟩
    refine ev_pos (by omega) (ev_pos (by omega) ?_)
    rw [rd_getD]
    by_cases h90 : xs.getD a 0 = 90
    · rw [bne_eq_false_iff_eq.2 h90]
      refine Ev.step (fun k => by rw [spec_FrameRead.j0]) (ev_neg (by decide) ?_)
      rw [w64 (n := (a : Int) + 2) (by omega) (by omega), show (a : Int) + 2 = ((a + 2 : Nat) : Int) by omega]
      refine ev_bind (spec_VarRead_ev xs _ hm hb) (ev_ite (fun hok => ?_) (fun hok => ?_))
      · rw [if_pos ⟨by omega, by omega, hok⟩]
        obtain ⟨n, r, e, har, hrl, hv⟩ := varReadR_ok xs (a + 2) hok
        rw [e]
        simp only [Int.toNat_natCast]
        refine ev_ite (fun h => ?_) (fun h => ?_)
        · unfold frameAt
          rw [if_neg (by omega)]; exact bad1 _ _
        · rw [w64 (n := (xs.length : Int) - (r : Int)) (by omega) (by omega)]
          by_cases hn : (n : Int) > (xs.length : Int) - (r : Int)
          · rw [decide_eq_true hn]
            unfold frameAt
            rw [if_neg (by omega)]; exact bad1 _ _
          · rw [decide_eq_false hn]
            refine Ev.step (fun k => by rw [spec_FrameRead.j1]) (ev_neg (by decide) ?_)
            have hlen := frameR_len hb (a := a) (n := n) (r := r) (by omega) (by omega) (by omega) hv
            have hby := getD_byte hb (a + 1)
            rw [w64 (n := (a : Int) + 1) (by omega) (by omega), w64 (n := (r : Int) + (n : Int)) (by omega) (by omega), show (a : Int) + 1 = ((a + 1 : Nat) : Int) by omega, rd_getD, w64 (n := xs.getD (a + 1) 0) (by omega) (by omega), show (r : Int) + (n : Int) = ((r + n : Nat) : Int) by omega, Int.toNat_natCast, Int.toNat_natCast, Int.toNat_natCast]
            refine ev_pos (by omega) (ev_pos (by omega) (ev_some rfl (ev_pos (by omega) (ev_pos (by omega) (ev_pos (by omega) (ev_some rfl ?_))))))
            have hcl : ((xs.take (r + n)).drop r).length ≤ 8000 := by rw [List.length_drop, List.length_take]; omega
            refine ev_pos (by rw [List.length_nil]; omega) (ev_some rfl ?_)
            rw [List.nil_append]
            refine ev_bind (spec_FrameOf_ev _ _ (cut_mem hb _ _)) ?_
            rw [hlen, w64 (n := (a : Int) + ((r - a + n + 4 : Nat) : Int)) (by omega) (by omega), show (a : Int) + ((r - a + n + 4 : Nat) : Int) = ((r + n + 4 : Nat) : Int) by omega, Int.toNat_natCast]
            unfold frameAt
            refine ev_ite (fun h => ?_) (fun h => ev_pos (by omega) (ev_pos (by omega) (ev_pos (by omega) (ev_ite (fun g => ?_) (fun g => ?_)))))
            · rw [if_neg (by omega)]; exact ev_now _
            · rw [if_pos ⟨h90, by omega, by omega, g.symm⟩]; exact ev_now _
            · rw [if_neg (fun q => g q.2.2.2.symm)]; exact ev_now _
      · rw [if_neg (fun g => hok g.2.2)]; exact bad1 _ _
    · rw [bne_iff_ne.2 h90]
      have e : ∀ n r, frameAt xs a n r = (0, [], 0, false) := by
        intro n r
        unfold frameAt
        rw [if_neg (fun g => h90 g.1)]
      rw [Int.toNat_natCast, e]
      split <;> exact bad0
/-! ### a number is read back -/
theorem varL_back (xs : List Int) (a n : Nat) (suf : List Int) (hx : xs.drop a = varB 4 n ++ suf) (hn : n ≤ 4294967295) : ∀ (f d i acc q : Nat), f + 1 ≤ d → q < 128 ^ (f + 1) → n = acc + 128 ^ i * q → xs.drop (a + i) = varB f q ++ suf →
    varL xs a d i acc = ((n : Int), ((a + (varB 4 n).length : Nat) : Int), true) := by
  have hlen : xs.length = a + (varB 4 n).length + suf.length := by
    have h := congrArg List.length hx
    have h1 := (varB_length 4 n).1
    rw [List.length_drop, List.length_append] at h
    omega
  have stop : ∀ (f d i acc q : Nat), q < 128 → n = acc + 128 ^ i * q → xs.drop (a + i) = [(((q : Nat)) : Int) % 256] ++ suf → varL xs a (d + 1) i acc = ((n : Int), ((a + (varB 4 n).length : Nat) : Int), true) := by
    intro f d i acc q hq hnq hd
    have h := congrArg List.length hd
    rw [List.length_drop, List.length_append, List.length_singleton] at h
    have hl : (varB 4 n).length = i + 1 := by omega
    have hg : xs.getD (a + i) 0 = (q : Int) := by
      have h2 : (xs.drop (a + i)).getD 0 0 = (q : Int) % 256 := by rw [hd]; rfl
      rw [List.getD_eq_getElem?_getD, List.getElem?_drop, Nat.add_zero, ← List.getD_eq_getElem?_getD] at h2
      omega
    rw [varL, if_pos (by omega), hg, Int.toNat_natCast, if_pos (by omega), show q % 128 = q by omega, ← hnq]
    have hc : (xs.take (a + i + 1)).drop a = varB 4 n := by
      rw [List.drop_take, hx, show a + i + 1 - a = (varB 4 n).length by omega, List.take_left]
    rw [hc, if_pos (by unfold varOfR; rw [if_pos hn]), hl]
    rfl
  intro f
  induction f with
  | zero =>
    intro d i acc q hd hq hnq hx'
    obtain ⟨d, rfl⟩ : ∃ d', d = d' + 1 := ⟨d - 1, by omega⟩
    exact stop 0 d i acc q (by simpa using hq) hnq hx'
  | succ f ih =>
    intro d i acc q hd hq hnq hx'
    obtain ⟨d, rfl⟩ : ∃ d', d = d' + 1 := ⟨d - 1, by omega⟩
    rw [varB] at hx'
    by_cases h128 : 128 ≤ q
    · rw [if_pos h128, List.cons_append] at hx'
      have h := congrArg List.length hx'
      rw [List.length_drop, List.length_cons] at h
      have hlt : a + i < xs.length := by omega
      have hg : xs.getD (a + i) 0 = ((128 + q % 128 : Nat) : Int) := by
        have h2 : (xs.drop (a + i)).getD 0 0 = ((128 + q % 128 : Nat) : Int) := by rw [hx']; rfl
        rw [List.getD_eq_getElem?_getD, List.getElem?_drop, Nat.add_zero, ← List.getD_eq_getElem?_getD] at h2
        exact h2
      rw [varL, if_pos hlt, hg, Int.toNat_natCast, if_neg (by omega), show (128 + q % 128) % 128 = q % 128 by omega]
      refine ih d (i + 1) _ (q / 128) (by omega) ?_ ?_ ?_
      · rw [Nat.div_lt_iff_lt_mul (by decide), ← Nat.pow_succ]; exact hq
      · rw [hnq, Nat.pow_succ]
        have e : 128 ^ i * q = 128 ^ i * (q % 128) + 128 ^ i * 128 * (q / 128) := by
          rw [Nat.mul_assoc, ← Nat.mul_add]
          congr 1
          omega
        omega
      · have h3 : xs.drop (a + (i + 1)) = (xs.drop (a + i)).drop 1 := by rw [List.drop_drop]; rfl
        rw [h3, hx']; rfl
    · rw [if_neg h128] at hx'
      exact stop (f + 1) d i acc q (by omega) hnq hx'
theorem varRead_back (pre suf : List Int) (n : Nat) (hn : n ≤ 4294967295) : varReadR (pre ++ varB 4 n ++ suf) (pre.length : Int) = ((n : Int), ((pre.length + (varB 4 n).length : Nat) : Int), true) := by
  have h1 := (varB_length 4 n).1
  unfold varReadR
  rw [if_pos ⟨by omega, by rw [List.length_append, List.length_append]; omega⟩, Int.toNat_natCast]
  have hd : (pre ++ varB 4 n ++ suf).drop pre.length = varB 4 n ++ suf := by rw [List.append_assoc, List.drop_left]
  refine varL_back _ _ n suf hd hn 4 5 0 0 n (by omega) (by omega) (by omega) ?_
  rw [Nat.add_zero]; exact hd
/-! ### the checksum tells one changed byte -/
theorem crcStep_inj {a b : Nat} (ha : a < 2 ^ 32) (hb : b < 2 ^ 32) (h : crcStep a = crcStep b) : a = b := by
  have top : ∀ c, c < 2 ^ 32 → (crcStep c).testBit 31 = decide (c % 2 = 1) := by
    intro c hc
    unfold crcStep
    have h1 : (c / 2).testBit 31 = false := Nat.testBit_lt_two_pow (by omega)
    split
    · rename_i o
      rw [Nat.testBit_xor, h1, decide_eq_true o]; decide
    · rename_i o
      rw [h1, decide_eq_false o]
  have e := top a ha
  rw [h, top b hb] at e
  have e' : (b % 2 = 1) ↔ (a % 2 = 1) := by simpa using e
  unfold crcStep at h
  by_cases o : a % 2 = 1
  · rw [if_pos o, if_pos (e'.2 o)] at h
    have h2 := congrArg (fun x => x ^^^ 3988292384) h
    simp only [Nat.xor_assoc, Nat.xor_self, Nat.xor_zero] at h2
    have := e'.2 o
    omega
  · rw [if_neg o, if_neg (fun g => o (e'.1 g))] at h
    have : ¬ b % 2 = 1 := fun g => o (e'.1 g)
    omega
theorem crcIter_inj : ∀ (d : Nat) {a b : Nat}, a < 2 ^ 32 → b < 2 ^ 32 → crcIter d a = crcIter d b → a = b
  | 0, _, _, _, _, h => h
  | d + 1, _, _, ha, hb, h => crcStep_inj ha hb (crcIter_inj d (crcStep_lt ha) (crcStep_lt hb) h)
theorem xor_inj_r {a b c : Nat} (h : a ^^^ c = b ^^^ c) : a = b := by
  have h2 := congrArg (fun x => x ^^^ c) h
  simpa only [Nat.xor_assoc, Nat.xor_self, Nat.xor_zero] using h2
theorem crcAll_inj : ∀ (l : List Nat), (∀ b ∈ l, b < 256) → ∀ {a b : Nat}, a < 2 ^ 32 → b < 2 ^ 32 → crcAll l a = crcAll l b → a = b := by
  intro l
  induction l with
  | nil => intro _ a b _ _ h; exact h
  | cons x l ih =>
    intro hl a b ha hb h
    have hx := hl x (by simp)
    have := ih (fun y hy => hl y (by simp [hy])) (crcIter_lt (Nat.xor_lt_two_pow ha (by omega))) (crcIter_lt (Nat.xor_lt_two_pow hb (by omega))) h
    exact xor_inj_r (crcIter_inj 8 (Nat.xor_lt_two_pow ha (by omega)) (Nat.xor_lt_two_pow hb (by omega)) this)
theorem crcAll_append : ∀ (l m : List Nat) (c : Nat), crcAll (l ++ m) c = crcAll m (crcAll l c)
  | [], _, _ => rfl
  | b :: l, m, c => crcAll_append l m (crcIter 8 (c ^^^ b))
theorem crcOf_one {u v : List Int} {x y : Int} (hu : ∀ b ∈ u, 0 ≤ b ∧ b < 256) (hv : ∀ b ∈ v, 0 ≤ b ∧ b < 256) (hx : 0 ≤ x ∧ x < 256) (hy : 0 ≤ y ∧ y < 256) (h : crcOf (u ++ x :: v) = crcOf (u ++ y :: v)) : x = y := by
  unfold crcOf at h
  have h1 := xor_inj_r h
  rw [List.map_append, List.map_append, List.map_cons, List.map_cons, crcAll_append, crcAll_append, crcAll, crcAll] at h1
  have hn : ∀ l : List Int, (∀ b ∈ l, 0 ≤ b ∧ b < 256) → ∀ b ∈ l.map Int.toNat, b < 256 := by
    intro l hl b hb
    obtain ⟨z, hz, rfl⟩ := List.mem_map.1 hb
    have := hl z hz
    omega
  have hc := crcAll_lt (l := u.map Int.toNat) (c := 4294967295) (by decide) (hn u hu)
  have h2 := crcAll_inj _ (hn v hv) (crcIter_lt (Nat.xor_lt_two_pow hc (by omega))) (crcIter_lt (Nat.xor_lt_two_pow hc (by omega))) h1
  have h3 := crcIter_inj 8 (Nat.xor_lt_two_pow hc (by omega)) (Nat.xor_lt_two_pow hc (by omega)) h2
  rw [Nat.xor_comm _ x.toNat, Nat.xor_comm _ y.toNat] at h3
  have := xor_inj_r h3
  omega
theorem four_inj {a b : Nat} (ha : a < 2 ^ 32) (hb : b < 2 ^ 32) (h : four a = four b) : a = b := by
  have e : ∀ c, four c = [((c / 1 % 256 : Nat) : Int), ((c / 256 % 256 : Nat) : Int), ((c / 65536 % 256 : Nat) : Int), ((c / 16777216 % 256 : Nat) : Int)] := fun c => rfl
  rw [e, e] at h
  simp only [List.cons.injEq] at h
  omega
theorem four_length (c : Nat) : (four c).length = 4 := rfl
/-! ### a frame is read back, whatever surrounds it; what is read as a frame is one -/
theorem frameRead_back (pre suf : List Int) (a : Int) (l : List Int) (hb : ∀ b ∈ l, 0 ≤ b ∧ b < 256) (ha : 0 ≤ a ∧ a ≤ 255) (hl : l.length ≤ 8000) :
    frameReadR (pre ++ frameL a l ++ suf) (pre.length : Int) = (a, l, ((pre.length + (frameL a l).length : Nat) : Int), true) := by
  have hv1 := (varB_length 4 l.length).1
  have hfl := frameL_length a l
  have e1 : pre ++ frameL a l ++ suf = (pre ++ [90, a % 256]) ++ varB 4 l.length ++ (l ++ four (crcOf (frameP a l)) ++ suf) := by
    unfold frameL frameP
    simp only [List.append_assoc]
  have hread := varRead_back (pre ++ [90, a % 256]) (l ++ four (crcOf (frameP a l)) ++ suf) l.length (by omega)
  rw [← e1, List.length_append, show ([90, a % 256] : List Int).length = 2 from rfl] at hread
  have hlen : (pre ++ frameL a l ++ suf).length = pre.length + (frameL a l).length + suf.length := by simp only [List.length_append]
  unfold frameReadR
  rw [show ((pre.length : Nat) : Int) + 2 = ((pre.length + 2 : Nat) : Int) by omega, hread]
  rw [if_pos ⟨by omega, by omega, rfl⟩]
  simp only [Int.toNat_natCast]
  unfold frameAt
  have g0 : (pre ++ frameL a l ++ suf).getD pre.length 0 = 90 := by
    rw [e1, List.getD_eq_getElem?_getD, List.append_assoc, List.append_assoc, List.getElem?_append_right (Nat.le_refl _), Nat.sub_self]; rfl
  have g1 : (pre ++ frameL a l ++ suf).getD (pre.length + 1) 0 = a := by
    rw [e1, List.getD_eq_getElem?_getD, List.append_assoc, List.append_assoc, List.getElem?_append_right (by omega), show pre.length + 1 - pre.length = 1 by omega]
    show a % 256 = a
    omega
  have hcut : ((pre ++ frameL a l ++ suf).take (pre.length + 2 + (varB 4 l.length).length + l.length)).drop (pre.length + 2 + (varB 4 l.length).length) = l := by
    rw [List.drop_take, e1]
    have e2 : pre.length + 2 + (varB 4 l.length).length = ((pre ++ [90, a % 256]) ++ varB 4 l.length).length := by simp only [List.length_append]; rfl
    rw [e2, List.drop_left, Nat.add_sub_cancel_left, List.append_assoc, List.take_left]
  have hcut2 : ((pre ++ frameL a l ++ suf).take (pre.length + 2 + (varB 4 l.length).length + l.length + 4)).drop pre.length = frameL a l := by
    rw [List.drop_take, List.append_assoc, List.drop_left, show pre.length + 2 + (varB 4 l.length).length + l.length + 4 - pre.length = (frameL a l).length by omega, List.take_left]
  rw [g0, g1, hcut, hcut2]
  have hR : frameR a l = frameL a l := by unfold frameR; rw [if_pos ⟨ha.1, ha.2, hl⟩]
  rw [if_pos ⟨rfl, hl, by omega, by rw [hR]⟩]
  refine Prod.ext rfl (Prod.ext rfl (Prod.ext ?_ rfl))
  show ((pre.length + 2 + (varB 4 l.length).length + l.length + 4 : Nat) : Int) = ((pre.length + (frameL a l).length : Nat) : Int)
  omega
theorem frameRead_is (xs : List Int) (hb : ∀ b ∈ xs, 0 ≤ b ∧ b < 256) (a : Nat) (k : Int) (l : List Int) (e : Int) (h : frameReadR xs (a : Int) = (k, l, e, true)) :
    (0 ≤ k ∧ k ≤ 255) ∧ l.length ≤ 8000 ∧ (∀ b ∈ l, 0 ≤ b ∧ b < 256) ∧ ∃ n : Nat, e = (n : Int) ∧ n ≤ xs.length ∧ a < n ∧ (xs.take n).drop a = frameL k l := by
  unfold frameReadR at h
  by_cases c : 0 ≤ (a : Int) ∧ (a : Int) ≤ (xs.length : Int) - 2 ∧ (varReadR xs ((a : Int) + 2)).2.2 = true
  · rw [if_pos c] at h
    obtain ⟨c1, c2, c3⟩ := c
    rw [show (a : Int) + 2 = ((a + 2 : Nat) : Int) by omega] at c3 h
    obtain ⟨n, r, e1, har, hrl, hv⟩ := varReadR_ok xs (a + 2) c3
    rw [e1] at h
    simp only [Int.toNat_natCast] at h
    unfold frameAt at h
    by_cases d : xs.getD a 0 = 90 ∧ n ≤ 8000 ∧ r + n + 4 ≤ xs.length ∧ (strOfNums (frameR (xs.getD (a + 1) 0) ((xs.take (r + n)).drop r))).toList = (strOfNums ((xs.take (r + n + 4)).drop a)).toList
    · rw [if_pos d] at h
      injection h with h1 h2
      injection h2 with h2 h3
      injection h3 with h3 _
      obtain ⟨_, d2, d3, d4⟩ := d
      have hk := getD_byte hb (a + 1)
      have hll : ((xs.take (r + n)).drop r).length = n := by rw [List.length_drop, List.length_take]; omega
      have hR : frameR (xs.getD (a + 1) 0) ((xs.take (r + n)).drop r) = frameL (xs.getD (a + 1) 0) ((xs.take (r + n)).drop r) := by
        unfold frameR; rw [if_pos ⟨by omega, by omega, by omega⟩]
      rw [hR] at d4
      have hcut := strs_inj (frameL_mem _ _ (cut_mem hb _ _)) (cut_mem hb _ _) d4
      subst h1
      subst h2
      exact ⟨by omega, by omega, cut_mem hb _ _, r + n + 4, h3.symm, d3, by omega, hcut.symm⟩
    · rw [if_neg d] at h
      injection h with _ h2
      injection h2 with _ h3
      injection h3 with _ h4
      cases h4
  · rw [if_neg c] at h
    injection h with _ h2
    injection h2 with _ h3
    injection h3 with _ h4
    cases h4
/-- a frame with one byte changed is no frame of the same length -/
theorem frame_told {a a' : Int} {l l' : List Int} (hb : ∀ b ∈ l, 0 ≤ b ∧ b < 256) (hb' : ∀ b ∈ l', 0 ≤ b ∧ b < 256) (i : Nat) (hi : i < (frameL a l).length) (v : Int) (hv : 0 ≤ v ∧ v < 256) (hne : v ≠ (frameL a l)[i]) (h : (frameL a l).set i v = frameL a' l') : False := by
  have h1 := frameP_mem a l hb
  have h2 := frameP_mem a' l' hb'
  have hl := congrArg List.length h
  rw [List.length_set] at hl
  have hF : frameL a l = frameP a l ++ four (crcOf (frameP a l)) := rfl
  have hne : some v ≠ (frameP a l ++ four (crcOf (frameP a l)))[i]? := by
    rw [← hF, List.getElem?_eq_getElem hi]
    intro e
    injection e with e
    exact hne e
  rw [hF] at hi
  unfold frameL at hl h
  rw [List.length_append, List.length_append, four_length, four_length] at hl
  by_cases c : i < (frameP a l).length
  · rw [List.set_append_left _ _ c] at h
    obtain ⟨e1, e2⟩ := List.append_inj h (by rw [List.length_set]; omega)
    have e3 := four_inj (crcOf_lt h1) (crcOf_lt h2) e2
    rw [← e1] at e3
    have t1 : frameP a l = (frameP a l).take i ++ (frameP a l)[i] :: (frameP a l).drop (i + 1) := by rw [← List.drop_eq_getElem_cons c, List.take_append_drop]
    have t2 : (frameP a l).set i v = (frameP a l).take i ++ v :: (frameP a l).drop (i + 1) := List.set_eq_take_append_cons_drop.trans (if_pos c)
    have e4 : crcOf ((frameP a l).take i ++ (frameP a l)[i] :: (frameP a l).drop (i + 1)) = crcOf ((frameP a l).take i ++ v :: (frameP a l).drop (i + 1)) := by rw [← t1, ← t2]; exact e3
    have e5 := crcOf_one (fun b hb => h1 b (List.mem_of_mem_take hb)) (fun b hb => h1 b (List.mem_of_mem_drop hb)) (h1 _ (List.getElem_mem c)) hv e4
    apply hne
    rw [List.getElem?_append_left c, List.getElem?_eq_getElem c, e5]
  · rw [List.set_append_right _ _ (by omega)] at h
    obtain ⟨e1, e2⟩ := List.append_inj h (by omega)
    rw [← e1] at e2
    have hi2 : i - (frameP a l).length < (four (crcOf (frameP a l))).length := by
      rw [List.length_append] at hi; omega
    apply hne
    rw [List.getElem?_append_right (by omega), ← e2, List.getElem?_set_self hi2]
theorem laws_eqByteS_l0 (xs ys : List Int) (hl : xs.length = ys.length) (hm : xs.length ≤ 140737488355328) : ∀ (d n : Nat), n + d = xs.length → Ev (fun k => laws_eqByteS.l0 k xs ys (n : Int)) (decide (xs.drop n = ys.drop n)) := by
  intro d
  induction d with
  | zero =>
    intro n hn
    refine Ev.step (fun k => by rw [laws_eqByteS.l0]) ?_
    refine ev_neg (by omega) (ev_now' ?_)
    rw [List.drop_eq_nil_of_le (by omega), List.drop_eq_nil_of_le (by omega)]; rfl
  | succ d ih =>
    intro n hn
    refine Ev.step (fun k => by rw [laws_eqByteS.l0]) ?_
    refine ev_pos (by omega) (ev_pos (by omega) (ev_pos (by omega) ?_))
    rw [rd_lt (by omega), rd_lt (by omega), w64 (by omega) (by omega)]
    rw [List.drop_eq_getElem_cons (show n < xs.length by omega), List.drop_eq_getElem_cons (show n < ys.length by omega)]
    refine ev_ite (fun h => ev_eq (ih (n + 1) (by omega)) ?_) (fun h => ev_now' ?_)
    · simp only [List.cons.injEq, h, true_and]
    · exact (decide_eq_false (fun e => h (List.cons.inj e).1)).symm
theorem laws_eqByteS_ev (xs ys : List Int) (hm : xs.length ≤ 140737488355328) : Ev (fun k => laws_eqByteS.f k xs ys) (decide (xs = ys)) := by
  unfold laws_eqByteS.f
  refine ev_ite (fun h => ?_) (fun h => ev_now' ?_)
  · exact laws_eqByteS_l0 xs ys (by omega) hm xs.length 0 (by omega)
  · exact (decide_eq_false (fun e => h (by rw [e]))).symm
theorem laws_markByteS_l0 (xs : List Int) (a : Nat) (hm : a + xs.length ≤ 1099511627776) : ∀ (d n : Nat), n + d = xs.length → Ev (fun k => laws_markByteS.l0 k (marked (fun x => x % 256) n a ++ xs.drop n) ((a + n : Nat) : Int) (n : Int)) (((a + xs.length : Nat) : Int), marked (fun x => x % 256) xs.length a) := by
  intro d
  induction d with
  | zero =>
    intro n hn
    have e : n = xs.length := by omega
    subst e
    refine Ev.step (fun k => by rw [laws_markByteS.l0]) ?_
    refine ev_neg (by simp [marked_length]) (ev_now' ?_)
    rw [List.drop_length, List.append_nil]
  | succ d ih =>
    intro n hn
    refine Ev.step (fun k => by rw [laws_markByteS.l0]) ?_
    refine ev_pos (by simp [marked_length]; omega) (ev_pos (by omega) ?_)
    rw [w64 (by omega) (by omega), w64 (by omega) (by omega), Int.toNat_natCast]
    have e := set_mark (c := (fun x => x % 256)) (a := a) (show n < xs.length by omega)
    rw [show (((a + n : Nat) : Int) % 256) = (fun x => x % 256) ((a + n : Nat) : Int) from rfl, e]
    exact ih (n + 1) (by omega)
theorem laws_markByteS_ev (xs : List Int) (a : Nat) (hm : a + xs.length ≤ 1099511627776) : Ev (fun k => laws_markByteS.f k xs (a : Int)) (((a + xs.length : Nat) : Int), marked (fun x => x % 256) xs.length a) := by
  unfold laws_markByteS.f
  have h := laws_markByteS_l0 xs a hm xs.length 0 (by omega)
  simpa [marked] using h
theorem laws_toByteS_l0 (xs : List Int) (hm : xs.length ≤ 140737488355328) : ∀ (d n : Nat) (out : List Int), n + d = xs.length → out.length = xs.length → (∀ j, j < n → out[j]? = xs[j]?) → Ev (fun k => laws_toByteS.l0 k xs out (n : Int)) xs := by
  intro d
  induction d with
  | zero =>
    intro n out hn hl ho
    refine Ev.step (fun k => by rw [laws_toByteS.l0]) ?_
    refine ev_neg (by omega) (ev_now' ?_)
    apply List.ext_getElem? ; intro j
    by_cases hj : j < n
    · exact ho j hj
    · rw [List.getElem?_eq_none (by omega), List.getElem?_eq_none (by omega)]
  | succ d ih =>
    intro n out hn hl ho
    refine Ev.step (fun k => by rw [laws_toByteS.l0]) ?_
    refine ev_pos (by omega) (ev_pos (by omega) (ev_pos (by omega) ?_))
    rw [w64 (by omega) (by omega)]
    refine ih (n + 1) _ (by omega) (by simp [hl]) ?_
    intro j hj
    rw [Int.toNat_natCast, List.getElem?_set, rd_lt (by omega)]
    by_cases e : n = j
    · subst e; rw [if_pos rfl, if_pos (by omega), List.getElem?_eq_getElem (by omega)]
    · rw [if_neg e]; exact ho j (by omega)
theorem laws_toByteS_ev (xs : List Int) (hm : xs.length ≤ 140737488355328) : Ev (fun k => laws_toByteS.f k xs) xs := by
  unfold laws_toByteS.f
  refine ev_pos (by omega) (ev_pos (by omega) ?_)
  exact laws_toByteS_l0 xs hm xs.length 0 _ (by omega) (by simp) (by simp)
theorem laws_eqFrame_ev (a : Int) (l : List Int) (b : Int) (m : List Int) (hm : l.length ≤ 140737488355328) : Ev (fun k => laws_eqFrame.f k a l b m) (decide (a = b ∧ l = m)) := by
  unfold laws_eqFrame.f
  refine ev_ite (fun h => ev_bind (laws_eqByteS_ev l m hm) (ev_ite (fun h' => ev_now' ?_) (fun h' => ev_now' ?_))) (fun h => ev_now' ?_)
  · simp at h'; simp [h, h']
  · simp at h'; simp [h']
  · simp [h]
def sizeF : List S27 → Nat
  | [] => 0
  | x :: xs => 1 + x.f1.length + sizeF xs
theorem sizeF_append : ∀ a b : List S27, sizeF (a ++ b) = sizeF a + sizeF b
  | [], b => by rw [List.nil_append, sizeF, Nat.zero_add]
  | x :: xs, b => by rw [List.cons_append, sizeF, sizeF, sizeF_append xs b]; omega
theorem sizeF_mem : ∀ (l : List S27) (x : S27), x ∈ l → x.f1.length < sizeF l
  | y :: ys, x, h => by
    rw [sizeF]
    rcases List.mem_cons.1 h with g | g
    · subst g; omega
    · have := sizeF_mem ys x g; omega
theorem sizeF_len : ∀ l : List S27, l.length ≤ sizeF l
  | [] => Nat.le_refl _
  | x :: xs => by have := sizeF_len xs; rw [sizeF, List.length_cons]; omega
theorem rdT_lt {xs : List S27} {n : Nat} (h : n < xs.length) : rd_T27 xs (n : Int) = xs[n] := by simp [rd_T27, h]
theorem rdT_mid (pre : List S27) (x : S27) (xs : List S27) : rd_T27 (pre ++ x :: xs) (pre.length : Int) = x := by rw [rdT_lt (by simp)]; simp
theorem laws_eqFrameS_l0 (l : List S27) (hm : sizeF l ≤ 1099511627776) : ∀ (d n : Nat), n + d = l.length → Ev (fun k => laws_eqFrameS.l0 k l l (n : Int)) true := by
  have hl := sizeF_len l
  intro d
  induction d with
  | zero => intro n hn; exact Ev.step (fun k => by rw [laws_eqFrameS.l0]) (ev_neg (by omega) (ev_now _))
  | succ d ih =>
    intro n hn
    have hlt : n < l.length := by omega
    refine Ev.step (fun k => by rw [laws_eqFrameS.l0]) (ev_pos (by omega) (ev_pos (by omega) (ev_pos (by omega) ?_)))
    rw [rdT_lt hlt]
    have hs := sizeF_mem l l[n] (List.getElem_mem hlt)
    refine ev_bind (laws_eqFrame_ev l[n].f0 l[n].f1 l[n].f0 l[n].f1 (by omega)) (ev_pos (by simp) ?_)
    rw [w64 (n := (n : Int) + 1) (by omega) (by omega)]
    exact ih (n + 1) (by omega)
theorem laws_eqFrameS_ev (l : List S27) (hm : sizeF l ≤ 1099511627776) : Ev (fun k => laws_eqFrameS.f k l l) true := by
  unfold laws_eqFrameS.f
  exact ev_pos rfl (laws_eqFrameS_l0 l hm l.length 0 (by omega))
def markFL : Nat → List S27 → List S27
  | _, [] => []
  | a, x :: xs => ⟨(a : Int), marked (fun x => x % 256) x.f1.length (a + 1)⟩ :: markFL (a + 1 + x.f1.length) xs
theorem laws_markFrameS_l0 : ∀ (rest pre : List S27) (a : Nat), a + sizeF rest ≤ 1099511627776 → pre.length ≤ a → Ev (fun k => laws_markFrameS.l0 k (pre ++ rest) (a : Int) (pre.length : Int)) (((a + sizeF rest : Nat) : Int), pre ++ markFL a rest)
  | [], pre, a, _, _ => by
    rw [markFL, sizeF, Nat.add_zero, List.append_nil]
    exact Ev.step (fun k => by rw [laws_markFrameS.l0]) (ev_neg (by omega) (ev_now _))
  | x :: xs, pre, a, h, hp => by
    rw [sizeF] at h
    have hx := sizeF_len xs
    refine Ev.step (fun k => by rw [laws_markFrameS.l0]) (ev_pos (by simp; omega) (ev_pos (by omega) ?_))
    rw [rdT_mid, w64 (n := (a : Int) + 1) (by omega) (by omega), show (a : Int) + 1 = ((a + 1 : Nat) : Int) by omega]
    refine ev_bind (laws_markByteS_ev x.f1 (a + 1) (by omega)) ?_
    rw [w64 (n := (pre.length : Int) + 1) (by omega) (by omega), Int.toNat_natCast]
    have e : (pre ++ x :: xs).set pre.length (⟨(a : Int), marked (fun x => x % 256) x.f1.length (a + 1)⟩ : S27) = (pre ++ [⟨(a : Int), marked (fun x => x % 256) x.f1.length (a + 1)⟩]) ++ xs := by
      rw [List.set_append_right _ _ (Nat.le_refl _), Nat.sub_self, List.set_cons_zero, List.append_assoc]; rfl
    have ih := laws_markFrameS_l0 xs (pre ++ [⟨(a : Int), marked (fun x => x % 256) x.f1.length (a + 1)⟩]) (a + 1 + x.f1.length) (by omega) (by rw [List.length_append, List.length_singleton]; omega)
    rw [List.length_append, List.length_singleton, List.append_assoc _ _ (markFL _ _)] at ih
    refine ev_eq (s := (((a + 1 + x.f1.length + sizeF xs : Nat) : Int), pre ++ markFL a (x :: xs))) ?_ (by rw [sizeF, show a + 1 + x.f1.length + sizeF xs = a + (1 + x.f1.length + sizeF xs) by omega])
    show Ev (fun k => laws_markFrameS.l0 k ((pre ++ x :: xs).set pre.length (⟨(a : Int), marked (fun x => x % 256) x.f1.length (a + 1)⟩ : S27)) ((a + 1 + x.f1.length : Nat) : Int) ((pre.length : Int) + 1)) _
    rw [e]
    exact ih
theorem laws_markFrameS_ev (l : List S27) (a : Nat) (h : a + sizeF l ≤ 1099511627776) : Ev (fun k => laws_markFrameS.f k l (a : Int)) (((a + sizeF l : Nat) : Int), markFL a l) := laws_markFrameS_l0 l [] a h (by simp)
theorem impl_within_f (a b c : Int) : impl_within.f a b c = some (decide (b ≤ a ∧ a ≤ c)) := by
  unfold impl_within.f
  by_cases h : b ≤ a <;> simp [h]
theorem impl_FrameOk_f (a : Int) (l : List Int) : impl_FrameOk.f a l = some (decide (0 ≤ a ∧ a ≤ 255 ∧ l.length ≤ 8000)) := by
  unfold impl_FrameOk.f
  rw [impl_within_f, Option.bind_some]
  by_cases h : 0 ≤ a ∧ a ≤ 255
  · rw [if_pos (by simp [h])]; congr 1; simp [h]; omega
  · rw [if_neg (by simp; omega)]; congr 1; exact (decide_eq_false (by omega)).symm
theorem impl_VarOf_l0 : ∀ (f n : Nat) (acc : List Int), n < 128 ^ (f + 1) → f ≤ 8 → acc.length + f ≤ 100 → Ev (fun k => impl_VarOf.l0 k (n : Int) acc) (acc ++ varB f n) := by
  intro f
  induction f with
  | zero =>
    intro n acc hn hf hl
    refine Ev.step (fun k => by rw [impl_VarOf.l0]) ?_
    refine ev_neg (by omega) (ev_pos (by omega) (ev_now' rfl))
  | succ f ih =>
    intro n acc hn hf hl
    refine Ev.step (fun k => by rw [impl_VarOf.l0]) ?_
    have hp : 128 ^ (f + 1) ≤ 128 ^ 8 := Nat.pow_le_pow_right (by decide) (by omega)
    have hpp : 128 ^ (f + 1 + 1) = 128 ^ (f + 1) * 128 := Nat.pow_succ ..
    have hq : n / 128 < 128 ^ (f + 1) := by rw [Nat.div_lt_iff_lt_mul (by decide)]; omega
    by_cases h : 128 ≤ n
    · refine ev_pos (by omega) (ev_pos (by omega) ?_)
      have e1 : (n : Int) / 128 = ((n / 128 : Nat) : Int) := by omega
      have e2 : Go.bits .or .i64 (Go.bits .and .i64 (n : Int) 127) 128 = ((128 + n % 128 : Nat) : Int) := by
        rw [i64_and127, show (n : Int) % 128 = ((n % 128 : Nat) : Int) by omega, show (128 : Int) = ((128 : Nat) : Int) from rfl, or_i64 _ _ (by omega) (by decide)]
        congr 1
        have := Nat.two_pow_add_eq_or_of_lt (i := 7) (b := n % 128) (by omega) 1
        rw [Nat.or_comm]
        simpa using this.symm
      rw [e1, e2]
      refine ev_eq (ih (n / 128) _ hq (by omega) (by simp; omega)) ?_
      rw [varB, if_pos h, List.append_assoc, List.singleton_append]
      congr 2
      omega
    · refine ev_neg (by omega) (ev_pos (by omega) (ev_now' ?_))
      rw [varB, if_neg h]
theorem impl_VarOf_ev (n : Nat) (h : n ≤ 4294967295) : Ev (fun k => impl_VarOf.f k (n : Int)) (varB 4 n) := by
  unfold impl_VarOf.f
  refine ev_some (impl_within_f _ _ _) (ev_pos (by simp; omega) ?_)
  exact impl_VarOf_l0 4 n [] (by omega) (by omega) (by simp)
theorem impl_VarOf_bad (a : Int) (h : a < 0 ∨ 4294967295 < a) : Ev (fun k => impl_VarOf.f k a) [] := by
  unfold impl_VarOf.f
  exact ev_some (impl_within_f _ _ _) (ev_neg (by simp; omega) (ev_now _))
theorem impl_crc_l1 (xs : List Int) (m : Int) (i : Nat) (r : Int) : ∀ (d j c : Nat), j + d = 8 → c < 2 ^ 32 → Ev (fun k => impl_crc.l0 k ((crcIter d c : Nat) : Int) xs m (wrap64 ((i : Int) + 1))) r → Ev (fun k => impl_crc.l1 k (c : Int) xs m (i : Int) (j : Int)) r := by
  intro d
  induction d with
  | zero =>
    intro j c hj hc h
    refine Ev.step (fun k => by rw [impl_crc.l1]) ?_
    exact ev_neg (by omega) h
  | succ d ih =>
    intro j c hj hc h
    refine Ev.step (fun k => by rw [impl_crc.l1]) ?_
    have e2 : (c : Int) / 2 = ((c / 2 : Nat) : Int) := by omega
    have hs := crcStep_lt hc
    have e3 : (((c % 2 : Nat) : Int) * 3988292384) % 4294967296 = ((c % 2 * 3988292384 : Nat) : Int) := by omega
    rw [and1_u32 c hc, e2, e3, xor_u32 _ _ (by omega) (by omega), w64 (n := (j : Int) + 1) (by omega) (by omega)]
    refine ev_pos (by omega) ?_
    have e : crcStep c = (c / 2) ^^^ (c % 2 * 3988292384) := by
      unfold crcStep
      split
      · rename_i o; rw [o]
      · have o : c % 2 = 0 := by omega
        rw [o]; simp
    rw [← e]
    exact ih (j + 1) _ (by omega) hs h
theorem impl_crc_l0 (xs : List Int) (hm : xs.length ≤ 1099511627776) (hb : ∀ b ∈ xs, 0 ≤ b ∧ b < 256) : ∀ (d n c : Nat), n + d = xs.length → c < 2 ^ 32 → Ev (fun k => impl_crc.l0 k (c : Int) xs (xs.length : Int) (n : Int)) ((crcAll ((xs.drop n).map Int.toNat) c ^^^ 4294967295 : Nat) : Int) := by
  intro d
  induction d with
  | zero =>
    intro n c hn hc
    refine Ev.step (fun k => by rw [impl_crc.l0]) ?_
    refine ev_neg (by omega) (ev_now' ?_)
    have hlt : c ^^^ 4294967295 < 2 ^ 32 := Nat.xor_lt_two_pow hc (by decide)
    rw [List.drop_eq_nil_of_le (by omega), show (4294967295 : Int) = ((4294967295 : Nat) : Int) from rfl, xor_u32 _ _ (by omega) (by decide), w64 (by omega) (by omega)]
    rfl
  | succ d ih =>
    intro n c hn hc
    refine Ev.step (fun k => by rw [impl_crc.l0]) ?_
    refine ev_pos (by omega) (ev_pos (by omega) (ev_pos (by omega) ?_))
    have hx := hb _ (List.getElem_mem (show n < xs.length by omega))
    rw [rd_lt (show n < xs.length by omega)]
    have e : xs[n] % 4294967296 = ((xs[n].toNat : Nat) : Int) := by omega
    rw [e, xor_u32 _ _ (by omega) (by omega)]
    have hlt : c ^^^ xs[n].toNat < 2 ^ 32 := Nat.xor_lt_two_pow hc (by omega)
    refine impl_crc_l1 xs _ n _ 8 0 _ (by omega) hlt ?_
    rw [w64 (n := (n : Int) + 1) (by omega) (by omega)]
    refine ev_eq (ih (n + 1) _ (by omega) (crcIter_lt hlt)) ?_
    rw [List.drop_eq_getElem_cons (show n < xs.length by omega), List.map_cons, crcAll]
theorem impl_crc_ev (xs : List Int) (hm : xs.length ≤ 1099511627776) (hb : ∀ b ∈ xs, 0 ≤ b ∧ b < 256) : Ev (fun k => impl_crc.f k xs) ((crcOf xs : Nat) : Int) := by
  unfold impl_crc.f
  exact impl_crc_l0 xs hm hb xs.length 0 4294967295 (by omega) (by decide)
theorem impl_FrameOf_l0 (p : List Int) (c : Nat) (hp : p.length ≤ 1000000) : ∀ (d i : Nat), i + d = 4 → Ev (fun k => impl_FrameOf.l0 k (p ++ tab i fun i => ((c / 2 ^ (8 * i) % 256 : Nat) : Int)) (c : Int) (i : Int)) (p ++ four c) := by
  intro d
  induction d with
  | zero =>
    intro i hi
    have e : i = 4 := by omega
    subst e
    refine Ev.step (fun k => by rw [impl_FrameOf.l0]) ?_
    exact ev_neg (by omega) (ev_now _)
  | succ d ih =>
    intro i hi
    refine Ev.step (fun k => by rw [impl_FrameOf.l0]) ?_
    have e1 : wrap64 (8 * (i : Int)) = ((8 * i : Nat) : Int) := by rw [w64 (by omega) (by omega)]; omega
    have e2 : shr .i64 (c : Int) ((8 * i : Nat) : Int) % 256 = ((c / 2 ^ (8 * i) % 256 : Nat) : Int) := by
      unfold shr
      rw [Int.toNat_natCast, Nat.min_eq_left (by simp [IntKind.bits]; omega), show ((2 : Int) ^ (8 * i)) = ((2 ^ (8 * i) : Nat) : Int) by simp]
      rfl
    rw [e1, e2, w64 (by omega) (by omega), List.append_assoc, ← tab_succ (f := fun i => ((c / 2 ^ (8 * i) % 256 : Nat) : Int))]
    refine ev_pos (by omega) (ev_pos (by omega) (ev_pos (by rw [List.length_append, tab_length]; omega) ?_))
    exact ih (i + 1) (by omega)
theorem impl_FrameOf_ev (a : Int) (l : List Int) (hb : ∀ b ∈ l, 0 ≤ b ∧ b < 256) : Ev (fun k => impl_FrameOf.f k a l) (frameR a l) := by
  unfold impl_FrameOf.f frameR
  refine ev_some (impl_FrameOk_f a l) (ev_ite (fun h => ?_) (fun h => ?_))
  · have h' := of_decide_eq_true h
    rw [if_pos h']
    have hv := (varB_length 4 l.length).2
    have hp := frameP_length a l
    refine ev_some rfl (ev_bind (impl_VarOf_ev l.length (by omega)) (ev_pos (by simp; omega) (ev_some rfl (ev_pos (by simp; omega) (ev_some rfl ?_)))))
    refine ev_bind (impl_crc_ev (frameP a l) (by omega) (frameP_mem a l hb)) ?_
    have h := impl_FrameOf_l0 (frameP a l) (crcOf (frameP a l)) (by omega) 4 0 (by omega)
    rw [show (tab 0 fun i => ((crcOf (frameP a l) / 2 ^ (8 * i) % 256 : Nat) : Int)) = [] from rfl, List.append_nil] at h
    exact h
  · have h' : ¬ (0 ≤ a ∧ a ≤ 255 ∧ l.length ≤ 8000) := fun g => h (decide_eq_true g)
    rw [if_neg h']; exact ev_now _
theorem impl_VarOf_R (v : Nat) : Ev (fun k => impl_VarOf.f k (v : Int)) (varOfR v) := by
  unfold varOfR
  split
  · rename_i h; exact impl_VarOf_ev v h
  · exact impl_VarOf_bad _ (by omega)
theorem wraps_u8 (n : Int) (h₀ : 0 ≤ n) (h₁ : n < 2 ^ 8) : IntKind.u8.wrap n = n := by rw [IntKind.wrap_u8']; omega
theorem impl_VarRead_l0 (xs : List Int) (a : Nat) (hm : xs.length ≤ 1048576) (ha : a ≤ xs.length) (hw : ∀ x ∈ xs, 0 ≤ x ∧ x < 256) : ∀ (d i acc : Nat), i + d = 5 → acc < 128 ^ i → Ev (fun k => impl_VarRead.l0 k xs (a : Int) (acc : Int) (xs.drop a) ((xs.drop a).length : Int) (i : Int)) (varL xs a d i acc) := by
  intro d
  induction d with
  | zero =>
    intro i acc hi hacc
    refine Ev.step (fun k => by rw [impl_VarRead.l0]) ?_
    rw [varL]
    exact ev_ite (fun _ => ev_pos (by omega) (ev_pos (by omega) (ev_pos (by omega) (ev_now _)))) (fun _ => ev_now _)
  | succ d ih =>
    intro i acc hi hacc
    refine Ev.step (fun k => by rw [impl_VarRead.l0]) ?_
    rw [varL]
    have hdl : (xs.drop a).length = xs.length - a := List.length_drop ..
    by_cases hlt : a + i < xs.length
    · have hx := hw _ (List.getElem_mem hlt)
      have hlt' : i < (xs.drop a).length := by omega
      obtain ⟨b, e⟩ : ∃ b : Nat, xs[a + i] = (b : Int) := ⟨xs[a + i].toNat, by omega⟩
      have hv := varL_step (b := b % 128) hacc (by omega)
      have hp5 : 128 ^ (i + 1) ≤ 128 ^ 5 := Nat.pow_le_pow_right (by decide) (by omega)
      have hpp : 128 ^ (i + 1) = 128 ^ i * 128 := Nat.pow_succ ..
      have e7 : wrap64 (7 * (i : Int)) = ((7 * i : Nat) : Int) := by rw [w64 (by omega) (by omega)]; omega
      have h27 : 2 ^ (7 * i) = 128 ^ i := by rw [Nat.pow_mul]
      have ev : Go.bits .or .i64 (acc : Int) (shl .i64 (wrap64 (Go.bits .and .u8 (b : Int) 127)) ((7 * i : Nat) : Int)) = ((acc + 128 ^ i * (b % 128) : Nat) : Int) := by
        have h := bits_mask .u8 8 (by decide) wraps_u8 7 (by decide) (b : Int) (by omega) (by omega)
        rw [show ((2 : Int) ^ 7 - 1) = 127 by decide, show (b : Int) % 2 ^ 7 = ((b % 128 : Nat) : Int) by omega] at h
        rw [h, w64 (by omega) (by omega), shl_i64 _ _ (by omega), ← Int.natCast_mul, h27, Nat.mul_comm (b % 128), w64 (by omega) (by omega), or_i64 _ _ (by omega) (by omega)]
        congr 1
        rw [← h27, Nat.or_comm, ← Nat.two_pow_add_eq_or_of_lt (by rw [h27]; exact hacc), Nat.add_comm]
      rw [if_pos hlt, rd_lt hlt', List.getElem_drop, List.getD_eq_getElem?_getD, List.getElem?_eq_getElem hlt, Option.getD_some, e, Int.toNat_natCast, e7, ev, w64 (n := (i : Int) + 1) (by omega) (by omega)]
      refine ev_pos (by omega) (ev_pos (by omega) (ev_pos (by omega) (ev_neg (by omega) (ev_pos (by omega) ?_))))
      refine ev_ite (fun h => ?_) (fun h => ?_)
      · rw [if_neg (by omega)]
        exact ih (i + 1) _ (by omega) hv
      · rw [if_pos (by omega)]
        refine ev_bind (impl_VarOf_R _) ?_
        rw [w64 (n := (a : Int) + (i : Int)) (by omega) (by omega), w64 (n := (a : Int) + (i : Int) + 1) (by omega) (by omega), show (a : Int) + (i : Int) + 1 = ((a + i + 1 : Nat) : Int) by omega, Int.toNat_natCast, Int.toNat_natCast]
        refine ev_pos (by omega) (ev_pos (by omega) (ev_pos (by omega) (ev_some rfl ?_)))
        by_cases h : (strOfNums (varOfR (acc + 128 ^ i * (b % 128)))).toList = (strOfNums ((xs.take (a + i + 1)).drop a)).toList
        · rw [if_pos h]; exact ev_pos (by rw [beq_iff_eq]; exact h) (ev_now _)
        · rw [if_neg h]; exact ev_neg (by rw [beq_iff_eq]; exact h) (ev_now _)
    · rw [if_neg hlt]
      exact ev_neg (by omega) (ev_now _)
theorem impl_VarRead_ev (xs : List Int) (a : Int) (hm : xs.length ≤ 1048576) (hw : ∀ x ∈ xs, 0 ≤ x ∧ x < 256) : Ev (fun k => impl_VarRead.f k xs a) (varReadR xs a) := by
  unfold impl_VarRead.f varReadR
  refine ev_some (impl_within_f a 0 _) ?_
  by_cases h : 0 ≤ a ∧ a ≤ xs.length
  · rw [decide_eq_true h]
    obtain ⟨a, rfl⟩ : ∃ a' : Nat, a = (a' : Int) := ⟨a.toNat, by omega⟩
    rw [Int.toNat_natCast]
    refine ev_pos rfl (ev_pos (by omega) (ev_pos (by omega) (ev_some rfl ?_)))
    have key := impl_VarRead_l0 xs a hm (by omega) hw 5 0 0 (by omega) (by decide)
    by_cases h1 : (a : Int) < xs.length
    · rw [if_pos ⟨by omega, h1⟩]; exact key
    · rw [if_neg (by omega)]
      rw [varL, if_neg (by omega)] at key
      exact key
  · rw [decide_eq_false h, if_neg (by omega)]
    exact ev_neg (by decide) (ev_now _)
theorem impl_FrameRead_ev (xs : List Int) (a : Int) (hm : xs.length ≤ 1048576) (hb : ∀ b ∈ xs, 0 ≤ b ∧ b < 256) (ha : -9223372036854775808 ≤ a ∧ a ≤ 9223372036854775807) : Ev (fun k => impl_FrameRead.f k xs a) (frameReadR xs a) := by
  unfold impl_FrameRead.f frameReadR
  have bad1 : ∀ n r : Int, Ev (fun k => impl_FrameRead.j0 k xs a n r true) (0, [], 0, false) := by
    intro n r
    refine Ev.step (fun k => by rw [impl_FrameRead.j0]) ?_
    exact ev_pos rfl (ev_now _)
  rw [w64 (n := (xs.length : Int) - 2) (by omega) (by omega)]
  refine ev_some (impl_within_f a 0 _) (ev_ite (fun h => ?_) (fun h => ?_))
  · have h := of_decide_eq_true h
    obtain ⟨a, rfl⟩ : ∃ a' : Nat, a = (a' : Int) := ⟨a.toNat, by omega⟩
    rw [w64 (n := (a : Int) + 2) (by omega) (by omega), show (a : Int) + 2 = ((a + 2 : Nat) : Int) by omega]
    refine ev_bind (impl_VarRead_ev xs _ hm hb) (ev_ite (fun hok => ?_) (fun hok => ?_))
    · rw [if_pos ⟨by omega, by omega, hok⟩]
      obtain ⟨n, r, e, har, hrl, hv⟩ := varReadR_ok xs (a + 2) hok
      rw [e]
      simp only [Int.toNat_natCast]
      refine ev_ite (fun h => ?_) (fun h => ?_)
      · unfold frameAt
        rw [if_neg (by omega)]; exact bad1 _ _
      · rw [w64 (n := (xs.length : Int) - (r : Int)) (by omega) (by omega), w64 (n := (n : Int) + 4) (by omega) (by omega)]
        by_cases hn : (n : Int) + 4 > (xs.length : Int) - (r : Int)
        · rw [decide_eq_true hn]
          unfold frameAt
          rw [if_neg (by omega)]; exact bad1 _ _
        · rw [decide_eq_false hn]
          refine Ev.step (fun k => by rw [impl_FrameRead.j0]) (ev_neg (by decide) ?_)
          have hlen := frameR_len hb (a := a) (n := n) (r := r) (by omega) (by omega) (by omega) hv
          have hby := getD_byte hb (a + 1)
          rw [w64 (n := (a : Int) + 1) (by omega) (by omega), w64 (n := (r : Int) + (n : Int)) (by omega) (by omega), show (a : Int) + 1 = ((a + 1 : Nat) : Int) by omega, rd_getD, w64 (n := xs.getD (a + 1) 0) (by omega) (by omega), w64 (n := (r : Int) + (n : Int) + 4) (by omega) (by omega), show (r : Int) + (n : Int) + 4 = ((r + n + 4 : Nat) : Int) by omega, show (r : Int) + (n : Int) = ((r + n : Nat) : Int) by omega, Int.toNat_natCast, Int.toNat_natCast, Int.toNat_natCast, Int.toNat_natCast]
          have hcl : ((xs.take (r + n)).drop r).length ≤ 8000 := by rw [List.length_drop, List.length_take]; omega
          have hclone : bytes_Clone.f ((xs.take (r + n)).drop r) = some ((xs.take (r + n)).drop r) := by
            unfold bytes_Clone.f
            rw [Option.bind_some, if_pos (by rw [List.length_nil]; omega), List.nil_append]
          refine ev_pos (by omega) (ev_pos (by omega) (ev_pos (by omega) (ev_pos (by omega) (ev_pos (by omega) (ev_some hclone (ev_bind (impl_FrameOf_ev _ _ (cut_mem hb _ _)) ?_))))))
          refine ev_pos (by omega) (ev_pos (by omega) (ev_pos (by omega) (ev_some rfl ?_)))
          unfold frameAt
          by_cases g : (strOfNums (frameR (xs.getD (a + 1) 0) ((xs.take (r + n)).drop r))).toList = (strOfNums ((xs.take (r + n + 4)).drop a)).toList
          · have h90 : xs.getD a 0 = 90 := by
              have hlt : a < xs.length := by omega
              have hmem : ∀ b ∈ frameR (xs.getD (a + 1) 0) ((xs.take (r + n)).drop r), 0 ≤ b ∧ b < 256 := by
                unfold frameR
                split
                · exact frameL_mem _ _ (cut_mem hb _ _)
                · intro b hb'; simp at hb'
              have q := strs_inj hmem (cut_mem hb _ _) g
              have q0 := congrArg (fun l : List Int => l.getD 0 0) q
              unfold frameR at q0
              rw [if_pos ⟨by omega, by omega, by omega⟩] at q0
              rw [show (frameL (xs.getD (a + 1) 0) ((xs.take (r + n)).drop r)).getD 0 0 = 90 from rfl] at q0
              rw [q0]
              simp only [List.getD_eq_getElem?_getD, List.getElem?_drop, Nat.add_zero]
              rw [List.getElem?_take, if_pos (by omega)]
            rw [if_pos (show xs.getD a 0 = 90 ∧ n ≤ 8000 ∧ r + n + 4 ≤ xs.length ∧ (strOfNums (frameR (xs.getD (a + 1) 0) ((xs.take (r + n)).drop r))).toList = (strOfNums ((xs.take (r + n + 4)).drop a)).toList from ⟨h90, by omega, by omega, g⟩)]
            exact ev_pos (by rw [beq_iff_eq]; exact g) (ev_now _)
          · rw [if_neg (show ¬ (xs.getD a 0 = 90 ∧ n ≤ 8000 ∧ r + n + 4 ≤ xs.length ∧ (strOfNums (frameR (xs.getD (a + 1) 0) ((xs.take (r + n)).drop r))).toList = (strOfNums ((xs.take (r + n + 4)).drop a)).toList) from fun q => g q.2.2.2)]
            exact ev_neg (by rw [beq_iff_eq]; exact g) (ev_now _)
    · rw [if_neg (fun g => hok g.2.2)]; exact bad1 _ _
  · have h' : ¬ (0 ≤ a ∧ a ≤ (xs.length : Int) - 2) := fun g => h (decide_eq_true g)
    rw [if_neg (fun g => h' ⟨g.1, g.2.1⟩)]; exact ev_now _
def framesReadGo (xs : List Int) : Nat → List S27 → Int → List S27 × Int
  | 0, acc, a => (acc, a)
  | f + 1, acc, a => if (frameReadR xs a).2.2.2 = true then framesReadGo xs f (acc ++ [⟨(frameReadR xs a).1, (frameReadR xs a).2.1⟩]) (frameReadR xs a).2.2.1 else (acc, a)
def framesReadR (xs : List Int) : List S27 × Int := if 8000 < xs.length then ([], -1) else framesReadGo xs (xs.length + 1) [] 0
theorem impl_FramesRead_l0 (xs : List Int) (hb : ∀ b ∈ xs, 0 ≤ b ∧ b < 256) (hm : xs.length ≤ 8000) : ∀ (f : Nat) (acc : List S27) (a : Nat), a ≤ xs.length → xs.length < a + f → acc.length ≤ a → Ev (fun k => impl_FramesRead.l0 k xs acc (a : Int)) (framesReadGo xs f acc (a : Int)) := by
  intro f
  induction f with
  | zero => intro acc a h1 h2; omega
  | succ f ih =>
    intro acc a h1 h2 h3
    rw [framesReadGo]
    refine Ev.step (fun k => by rw [impl_FramesRead.l0]) (ev_bind (impl_FrameRead_ev xs (a : Int) (by omega) hb (by omega)) ?_)
    refine ev_ite (fun h => ?_) (fun h => ?_)
    · rw [if_pos h]
      obtain ⟨k', l', e', ok', hE⟩ : ∃ k' l' e' ok', frameReadR xs (a : Int) = (k', l', e', ok') := ⟨_, _, _, _, rfl⟩
      rw [hE] at h ⊢
      have h : ok' = true := h
      subst h
      obtain ⟨_, _, _, n, hn, h5, h6, _⟩ := frameRead_is xs hb a k' l' e' hE
      subst hn
      refine ev_pos (by omega) ?_
      exact ih _ n h5 (by omega) (by rw [List.length_append, List.length_singleton]; omega)
    · rw [if_neg h]; exact ev_now _
theorem impl_FramesRead_ev (xs : List Int) (hb : ∀ b ∈ xs, 0 ≤ b ∧ b < 256) (hm : xs.length ≤ 1048576) : Ev (fun k => impl_FramesRead.f k xs) (framesReadR xs) := by
  unfold impl_FramesRead.f framesReadR
  refine ev_ite (fun h => ?_) (fun h => ?_)
  · rw [if_pos (by omega)]; exact ev_now _
  · rw [if_neg (by omega)]
    exact impl_FramesRead_l0 xs hb (by omega) (xs.length + 1) [] 0 (by omega) (by omega) (by simp)
theorem laws_heldByteS_l0 (m a : Nat) (hm : a + m ≤ 1099511627776) : ∀ (d n : Nat), n + d = m → Ev (fun k => laws_heldByteS.l0 k (marked (fun x => x % 256) m a) ((a + n : Nat) : Int) (n : Int)) ((a + m : Nat) : Int) := by
  intro d
  induction d with
  | zero =>
    intro n hn
    have e : n = m := by omega
    subst e
    refine Ev.step (fun k => by rw [laws_heldByteS.l0]) ?_
    exact ev_neg (by simp [marked_length]) (ev_now _)
  | succ d ih =>
    intro n hn
    refine Ev.step (fun k => by rw [laws_heldByteS.l0]) ?_
    refine ev_pos (by rw [marked_length]; omega) (ev_pos (by omega) ?_)
    rw [rd_lt (by rw [marked_length]; omega), marked_get _ _ _ _ (by omega), w64 (by omega) (by omega), w64 (by omega) (by omega)]
    exact ev_pos rfl (ih (n + 1) (by omega))
theorem laws_heldByteS_ev (m a : Nat) (hm : a + m ≤ 1099511627776) : Ev (fun k => laws_heldByteS.f k (marked (fun x => x % 256) m a) (a : Int)) ((a + m : Nat) : Int) := by
  unfold laws_heldByteS.f
  exact laws_heldByteS_l0 m a hm m 0 (by omega)
theorem laws_heldFrameS_l0 : ∀ (rest pre : List S27) (a : Nat), a + sizeF rest ≤ 1099511627776 → pre.length ≤ a → Ev (fun k => laws_heldFrameS.l0 k (pre ++ markFL a rest) (a : Int) (pre.length : Int)) ((a + sizeF rest : Nat) : Int)
  | [], pre, a, _, _ => by
    rw [markFL, sizeF, Nat.add_zero, List.append_nil]
    exact Ev.step (fun k => by rw [laws_heldFrameS.l0]) (ev_neg (by omega) (ev_now _))
  | x :: xs, pre, a, h, hp => by
    rw [sizeF] at h
    rw [markFL]
    refine Ev.step (fun k => by rw [laws_heldFrameS.l0]) (ev_pos (by simp; omega) (ev_pos (by omega) ?_))
    rw [rdT_mid, w64 (n := (a : Int) + 1) (by omega) (by omega), show (a : Int) + 1 = ((a + 1 : Nat) : Int) by omega]
    refine ev_pos rfl (ev_bind (laws_heldByteS_ev x.f1.length (a + 1) (by omega)) (ev_neg (by omega) ?_))
    rw [w64 (n := (pre.length : Int) + 1) (by omega) (by omega)]
    have ih := laws_heldFrameS_l0 xs (pre ++ [⟨(a : Int), marked (fun x => x % 256) x.f1.length (a + 1)⟩]) (a + 1 + x.f1.length) (by omega) (by rw [List.length_append, List.length_singleton]; omega)
    rw [List.length_append, List.length_singleton, List.append_assoc] at ih
    refine ev_eq ih ?_
    rw [sizeF]; omega
theorem laws_heldFrameS_ev (l : List S27) (a : Nat) (h : a + sizeF l ≤ 1099511627776) : Ev (fun k => laws_heldFrameS.f k (markFL a l) (a : Int)) ((a + sizeF l : Nat) : Int) := laws_heldFrameS_l0 l [] a h (by simp)

theorem readR_end (xs : List Int) (a : Nat) (h : xs.length ≤ a) : (frameReadR xs (a : Int)).2.2.2 = false := by
  unfold frameReadR
  rw [if_neg (by omega)]
theorem spec_FramesRead_l0 (xs : List Int) (hb : ∀ b ∈ xs, 0 ≤ b ∧ b < 256) (hm : xs.length ≤ 8000) : ∀ (f : Nat) (acc : List S27) (a : Nat), a ≤ xs.length → xs.length < a + f → acc.length ≤ a → Ev (fun k => spec_FramesRead.l0 k xs acc (a : Int)) (framesReadGo xs f acc (a : Int)) := by
  intro f
  induction f with
  | zero => intro acc a h1 h2; omega
  | succ f ih =>
    intro acc a h1 h2 h3
    rw [framesReadGo]
    refine Ev.step (fun k => by rw [spec_FramesRead.l0]) (ev_ite (fun hlt => ev_bind (spec_FrameRead_ev xs (a : Int) (by omega) hb (by omega)) ?_) (fun hlt => ?_))
    · refine ev_ite (fun h => ?_) (fun h => ?_)
      · rw [if_pos h]
        obtain ⟨k', l', e', ok', hE⟩ : ∃ k' l' e' ok', frameReadR xs (a : Int) = (k', l', e', ok') := ⟨_, _, _, _, rfl⟩
        rw [hE] at h ⊢
        have h : ok' = true := h
        subst h
        obtain ⟨_, _, _, n, hn, h5, h6, _⟩ := frameRead_is xs hb a k' l' e' hE
        subst hn
        refine ev_pos (by omega) ?_
        exact ih _ n h5 (by omega) (by rw [List.length_append, List.length_singleton]; omega)
      · rw [if_neg h]; exact ev_now _
    · rw [readR_end xs a (by omega)]
      exact ev_now _
theorem spec_FramesRead_ev (xs : List Int) (hb : ∀ b ∈ xs, 0 ≤ b ∧ b < 256) (hm : xs.length ≤ 1048576) : Ev (fun k => spec_FramesRead.f k xs) (framesReadR xs) := by
  unfold spec_FramesRead.f framesReadR
  refine ev_ite (fun h => ?_) (fun h => ?_)
  · rw [if_pos (by omega)]; exact ev_now _
  · rw [if_neg (by omega)]
    exact spec_FramesRead_l0 xs hb (by omega) (xs.length + 1) [] 0 (by omega) (by omega) (by simp)
theorem readGo_size (xs : List Int) (hb : ∀ b ∈ xs, 0 ≤ b ∧ b < 256) : ∀ (f : Nat) (acc : List S27) (a : Nat), sizeF (framesReadGo xs f acc (a : Int)).1 ≤ sizeF acc + f * 8001 := by
  intro f
  induction f with
  | zero => intro acc a; rw [framesReadGo]; show sizeF acc ≤ _; omega
  | succ f ih =>
    intro acc a
    rw [framesReadGo]
    by_cases h : (frameReadR xs (a : Int)).2.2.2 = true
    · rw [if_pos h]
      obtain ⟨k', l', e', ok', hE⟩ : ∃ k' l' e' ok', frameReadR xs (a : Int) = (k', l', e', ok') := ⟨_, _, _, _, rfl⟩
      rw [hE] at h ⊢
      have h : ok' = true := h
      subst h
      obtain ⟨_, hl, _, n, hn, _, _, _⟩ := frameRead_is xs hb a k' l' e' hE
      subst hn
      have := ih (acc ++ [⟨k', l'⟩]) n
      rw [sizeF_append, sizeF, sizeF] at this
      refine Nat.le_trans this ?_
      show sizeF acc + (1 + l'.length + 0) + f * 8001 ≤ _
      omega
    · rw [if_neg h]; show sizeF acc ≤ _; omega
theorem framesReadR_size (xs : List Int) (hb : ∀ b ∈ xs, 0 ≤ b ∧ b < 256) : sizeF (framesReadR xs).1 ≤ 8001 * 8001 := by
  unfold framesReadR
  split
  · exact Nat.zero_le _
  · have := readGo_size xs hb (xs.length + 1) [] 0
    rw [sizeF] at this
    have h2 : (xs.length + 1) * 8001 ≤ 8001 * 8001 := Nat.mul_le_mul_right _ (by omega)
    have : sizeF (framesReadGo xs (xs.length + 1) [] 0).1 ≤ 0 + (xs.length + 1) * 8001 := this
    omega
theorem FnExactFramesRead : laws_FnExactFramesRead.Pure := by
  intro xs hl _ hw
  refine Ev.rounds ?_
  unfold laws_FnExactFramesRead.f
  refine ev_ite (fun _ => ev_now _) (fun h => ?_)
  have hm : xs.length ≤ 1048576 := by omega
  clear h
  have hb : ∀ b ∈ xs, 0 ≤ b ∧ b < 256 := fun x hx => wf_u8 (hw x hx)
  have ht := laws_toByteS_ev xs (by omega)
  have hs := spec_FramesRead_ev xs hb hm
  have hi := impl_FramesRead_ev xs hb hm
  have hz := framesReadR_size xs hb
  generalize framesReadR xs = R at *
  obtain ⟨L, n⟩ := R
  have hz : sizeF L ≤ 8001 * 8001 := hz
  have hq := laws_eqFrameS_ev L (by omega)
  have hn : (n != n) = false := by simp
  have k2 : Ev (fun k => laws_FnExactFramesRead.j2 k (markFL 1 L) ((1 + sizeF L : Nat) : Int) false) true := by
    refine Ev.step (fun k => by rw [laws_FnExactFramesRead.j2]) (ev_neg (by decide) ?_)
    exact ev_bind (laws_heldFrameS_ev L 1 (by omega)) (ev_neg (by omega) (ev_pos rfl (ev_now _)))
  have k1 : Ev (fun k => laws_FnExactFramesRead.j1 k xs L n L false) true := by
    refine Ev.step (fun k => by rw [laws_FnExactFramesRead.j1]) (ev_neg (by decide) ?_)
    refine ev_bind (laws_markFrameS_ev L 1 (by omega)) (ev_bind (laws_heldFrameS_ev L 1 (by omega)) (ev_neg (by omega) (ev_pos rfl ?_)))
    refine ev_bind ht (ev_bind hi (ev_bind hq (ev_pos rfl ?_)))
    rw [hn]
    exact k2
  have k0 : Ev (fun k => laws_FnExactFramesRead.j0 k xs L n xs L n false) true := by
    refine Ev.step (fun k => by rw [laws_FnExactFramesRead.j0]) (ev_neg (by decide) ?_)
    refine ev_bind ht (ev_bind (laws_eqByteS_ev xs xs (by omega)) (ev_pos (by simp) ?_))
    refine ev_bind (laws_markByteS_ev xs 1 (by omega)) (ev_neg (by omega) (ev_bind hq (ev_pos rfl ?_)))
    rw [hn]
    exact k1
  refine ev_bind ht (ev_bind hs (ev_bind ht (ev_bind hi (ev_bind hq (ev_pos rfl ?_)))))
  show Ev (fun k => laws_FnExactFramesRead.j0 k xs L n xs L n (n != n)) true
  rw [hn]
  exact k0

end Go.Proofs.Ytebdjkdmmdninaa.Pure
