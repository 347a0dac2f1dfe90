/- The pure statement of the law FnExactFrameOf: the program's answers equal the reference's, for all arguments within the row's bounds. -/
import Derived.Test.YtebdjkdmmdninaaQFnExactFrameOfx4
import Derived.Test.YtebdjkdmmdninaaLib
namespace Go.Proofs.Ytebdjkdmmdninaa.Pure
open Go.RowKit Go.Proofs.Ytebdjkdmmdninaa.QFnExactFrameOf Go.Proofs.Ytebdjkdmmdninaa.Lib Go.Proofs.YtebdjkdmmdninaaW.PrintWords Go.Proofs.YtebdjkdmmdninaaW.PrintLast Go.Proofs.YtebdjkdmmdninaaW.PrintMore
set_option linter.unusedVariables false
set_option linter.unusedSimpArgs false

theorem laws_szByteS_f (l : List Int) (a : Nat) (hl : l.length ≤ maxLen) (ha : a ≤ 1099511627776) : laws_szByteS.f l (a : Int) = some (if a < l.length then -1 else ((a - l.length : Nat) : Int)) := by
  unfold maxLen at hl
  unfold laws_szByteS.f
  rw [w64 (by omega) (by omega)]
  by_cases h : a < l.length
  · rw [if_pos (by omega), if_pos h]
  · rw [if_neg (by omega), if_neg h]; congr 1; omega
theorem laws_szFrame_f (x : Int) (l : List Int) (a : Nat) (hl : l.length ≤ maxLen) (ha : a ≤ 1099511627776) : laws_szFrame.f x l (a : Int) = some (if a < l.length then -1 else ((a - l.length : Nat) : Int)) := by
  unfold laws_szFrame.f
  rw [laws_szByteS_f l a hl ha, Option.bind_some]
  by_cases h : a < l.length
  · rw [if_pos h]; rfl
  · rw [if_neg h, if_neg (by omega)]
theorem spec_FrameOk_f (a : Int) (l : List Int) : spec_FrameOk.f a l = some (decide (0 ≤ a ∧ a ≤ 255 ∧ l.length ≤ 8000)) := by
  unfold spec_FrameOk.f
  by_cases h : 0 ≤ a
  · rw [if_pos (by omega)]
    by_cases h' : a ≤ 255
    · rw [if_pos h']; congr 1; simp [h, h']; omega
    · rw [if_neg h']; simp [h']
  · rw [if_neg (by omega)]; simp [h]
theorem spec_VarOf_l0 : ∀ (f n : Nat) (acc : List Int), n < 128 ^ (f + 1) → f ≤ 8 → acc.length + f ≤ 100 → Ev (fun k => spec_VarOf.l0 k (n : Int) acc) (acc ++ varB f n) := by
  intro f
  induction f with
  | zero =>
    intro n acc hn hf hl
    refine Ev.step (fun k => by rw [spec_VarOf.l0]) ?_
    refine ev_neg (by omega) (ev_pos (by omega) (ev_now' rfl))
  | succ f ih =>
    intro n acc hn hf hl
    refine Ev.step (fun k => by rw [spec_VarOf.l0]) ?_
    have hp : 128 ^ (f + 1) ≤ 128 ^ 8 := Nat.pow_le_pow_right (by decide) (by omega)
    have hpp : 128 ^ (f + 1 + 1) = 128 ^ (f + 1) * 128 := Nat.pow_succ ..
    have hq : n / 128 < 128 ^ (f + 1) := by rw [Nat.div_lt_iff_lt_mul (by decide)]; omega
    by_cases h : 128 ≤ n
    · refine ev_pos (by omega) (ev_pos (by omega) ?_)
      have e1 : Int.tdiv (n : Int) 128 = ((n / 128 : Nat) : Int) := tdiv_nat n 128
      have e2 : Int.tmod (n : Int) 128 = ((n % 128 : Nat) : Int) := tmod_nat n 128
      rw [e1, e2, w64 (by omega) (by omega), w64 (by omega) (by omega)]
      refine ev_eq (ih (n / 128) _ hq (by omega) (by simp; omega)) ?_
      rw [varB, if_pos h, List.append_assoc, List.singleton_append]
      congr 2
      omega
    · refine ev_neg (by omega) (ev_pos (by omega) (ev_now' ?_))
      rw [varB, if_neg h]
theorem spec_VarOf_ev (n : Nat) (h : n ≤ 4294967295) : Ev (fun k => spec_VarOf.f k (n : Int)) (varB 4 n) := by
  unfold spec_VarOf.f
  refine ev_neg (by omega) (Ev.step (fun k => by rw [spec_VarOf.j0]) (ev_neg (by simp; omega) ?_))
  exact spec_VarOf_l0 4 n [] (by omega) (by omega) (by simp)
theorem spec_VarOf_bad (a : Int) (h : a < 0 ∨ 4294967295 < a) : Ev (fun k => spec_VarOf.f k a) [] := by
  unfold spec_VarOf.f
  refine ev_ite (fun _ => Ev.step (fun k => by rw [spec_VarOf.j0]) (ev_pos rfl (ev_now _))) (fun _ => Ev.step (fun k => by rw [spec_VarOf.j0]) (ev_pos (by simp; omega) (ev_now _)))
def four (c : Nat) : List Int := tab 4 fun i => ((c / 2 ^ (8 * i) % 256 : Nat) : Int)
theorem spec_l04Four_f (c : Nat) (h : c < 2 ^ 32) : spec_l04Four.f (c : Int) = some (four c) := by
  unfold spec_l04Four.f
  congr 1
  rw [show Int.tmod (c : Int) 256 = ((c % 256 : Nat) : Int) from tmod_nat c 256]
  rw [show Int.tdiv (c : Int) 256 = ((c / 256 : Nat) : Int) from tdiv_nat c 256, w64 (n := ((c / 256 : Nat) : Int)) (by omega) (by omega), show Int.tmod ((c / 256 : Nat) : Int) 256 = ((c / 256 % 256 : Nat) : Int) from tmod_nat (c / 256) 256]
  rw [show Int.tdiv (c : Int) 65536 = ((c / 65536 : Nat) : Int) from tdiv_nat c 65536, w64 (n := ((c / 65536 : Nat) : Int)) (by omega) (by omega), show Int.tmod ((c / 65536 : Nat) : Int) 256 = ((c / 65536 % 256 : Nat) : Int) from tmod_nat (c / 65536) 256]
  rw [show Int.tdiv (c : Int) 16777216 = ((c / 16777216 : Nat) : Int) from tdiv_nat c 16777216, w64 (n := ((c / 16777216 : Nat) : Int)) (by omega) (by omega), show Int.tmod ((c / 16777216 : Nat) : Int) 256 = ((c / 16777216 % 256 : Nat) : Int) from tmod_nat (c / 16777216) 256]
  have e : four c = [((c / 1 % 256 : Nat) : Int), ((c / 256 % 256 : Nat) : Int), ((c / 65536 % 256 : Nat) : Int), ((c / 16777216 % 256 : Nat) : Int)] := rfl
  rw [e]
  simp
theorem spec_Crc_l1 (xs : List Int) (i : Nat) (r : Int) : ∀ (d j c : Nat), j + d = 8 → c < 2 ^ 32 → Ev (fun k => spec_Crc.l0 k xs ((crcIter d c : Nat) : Int) (wrap64 ((i : Int) + 1))) r → Ev (fun k => spec_Crc.l1 k xs (c : Int) (i : Int) (j : Int)) r := by
  intro d
  induction d with
  | zero =>
    intro j c hj hc h
    refine Ev.step (fun k => by rw [spec_Crc.l1]) ?_
    exact ev_neg (by omega) h
  | succ d ih =>
    intro j c hj hc h
    refine Ev.step (fun k => by rw [spec_Crc.l1]) ?_
    have e1 : Int.tmod (c : Int) 2 = ((c % 2 : Nat) : Int) := tmod_nat c 2
    have e2 : Int.tdiv (c : Int) 2 = ((c / 2 : Nat) : Int) := tdiv_nat c 2
    rw [e1, e2, w64 (n := (j : Int) + 1) (by omega) (by omega), w64 (n := ((c / 2 : Nat) : Int)) (by omega) (by omega), show (3988292384 : Int) = ((3988292384 : Nat) : Int) from rfl, xor_i64 _ _ (by omega) (by decide)]
    have hs := crcStep_lt hc
    refine ev_pos (by omega) (ev_ite (fun o => ?_) (fun o => ?_))
    · have e : crcStep c = (c / 2) ^^^ 3988292384 := by unfold crcStep; rw [if_pos (by omega)]
      rw [← e]
      exact ih (j + 1) _ (by omega) hs h
    · have e : crcStep c = c / 2 := by unfold crcStep; rw [if_neg (by omega)]
      rw [← e]
      exact ih (j + 1) _ (by omega) hs h
theorem spec_Crc_l0 (xs : List Int) (hm : xs.length ≤ 16000) (hb : ∀ b ∈ xs, 0 ≤ b ∧ b < 256) : ∀ (d n c : Nat), n + d = xs.length → c < 2 ^ 32 → Ev (fun k => spec_Crc.l0 k xs (c : Int) (n : Int)) ((crcAll ((xs.drop n).map Int.toNat) c ^^^ 4294967295 : Nat) : Int) := by
  intro d
  induction d with
  | zero =>
    intro n c hn hc
    refine Ev.step (fun k => by rw [spec_Crc.l0]) ?_
    refine ev_neg (by omega) (ev_now' ?_)
    rw [List.drop_eq_nil_of_le (by omega), show (4294967295 : Int) = ((4294967295 : Nat) : Int) from rfl, xor_i64 _ _ (by omega) (by decide)]
    rfl
  | succ d ih =>
    intro n c hn hc
    refine Ev.step (fun k => by rw [spec_Crc.l0]) ?_
    refine ev_pos (by omega) (ev_pos (by omega) ?_)
    have hx := hb _ (List.getElem_mem (show n < xs.length by omega))
    rw [rd_lt (show n < xs.length by omega), w64 (n := xs[n]) (by omega) (by omega)]
    have e : xs[n] = ((xs[n].toNat : Nat) : Int) := by omega
    rw [e, xor_i64 _ _ (by omega) (by omega)]
    have hlt : c ^^^ xs[n].toNat < 2 ^ 32 := Nat.xor_lt_two_pow hc (by omega)
    refine spec_Crc_l1 xs n _ 8 0 _ (by omega) hlt ?_
    rw [w64 (n := (n : Int) + 1) (by omega) (by omega)]
    refine ev_eq (ih (n + 1) _ (by omega) (crcIter_lt hlt)) ?_
    rw [List.drop_eq_getElem_cons (show n < xs.length by omega), List.map_cons, crcAll]
theorem spec_Crc_ev (xs : List Int) (hm : xs.length ≤ 16000) (hb : ∀ b ∈ xs, 0 ≤ b ∧ b < 256) : Ev (fun k => spec_Crc.f k xs) ((crcOf xs : Nat) : Int) := by
  unfold spec_Crc.f
  refine ev_neg (by omega) ?_
  exact spec_Crc_l0 xs hm hb xs.length 0 4294967295 (by omega) (by decide)
theorem spec_Crc_bad (xs : List Int) (hm : 16000 < xs.length) : Ev (fun k => spec_Crc.f k xs) (-1) := by
  unfold spec_Crc.f
  exact ev_pos (by omega) (ev_now _)
def frameP (a : Int) (l : List Int) : List Int := ([90, a % 256] ++ varB 4 l.length) ++ l
def frameL (a : Int) (l : List Int) : List Int := frameP a l ++ four (crcOf (frameP a l))
def frameR (a : Int) (l : List Int) : List Int := if 0 ≤ a ∧ a ≤ 255 ∧ l.length ≤ 8000 then frameL a l else []
theorem frameP_mem (a : Int) (l : List Int) (hb : ∀ b ∈ l, 0 ≤ b ∧ b < 256) : ∀ b ∈ frameP a l, 0 ≤ b ∧ b < 256 := by
  intro b h
  rcases List.mem_append.1 h with h | h
  · rcases List.mem_append.1 h with h | h
    · simp at h; omega
    · exact varB_mem _ _ b h
  · exact hb b h
theorem frameP_length (a : Int) (l : List Int) : (frameP a l).length = 2 + (varB 4 l.length).length + l.length := by
  unfold frameP; simp; omega
theorem four_mem (c : Nat) : ∀ b ∈ four c, 0 ≤ b ∧ b < 256 := by
  intro b h
  unfold four tab at h
  obtain ⟨i, _, rfl⟩ := List.mem_map.1 h
  omega
theorem frameL_mem (a : Int) (l : List Int) (hb : ∀ b ∈ l, 0 ≤ b ∧ b < 256) : ∀ b ∈ frameL a l, 0 ≤ b ∧ b < 256 := by
  intro b h
  rcases List.mem_append.1 h with h | h
  · exact frameP_mem a l hb b h
  · exact four_mem _ b h
theorem frameL_length (a : Int) (l : List Int) : (frameL a l).length = 2 + (varB 4 l.length).length + l.length + 4 := by
  unfold frameL; rw [List.length_append, frameP_length]; rfl
theorem frameR_length (a : Int) (l : List Int) : (frameR a l).length ≤ 8011 := by
  unfold frameR
  split
  · rename_i h
    have := (varB_length 4 l.length).2
    rw [frameL_length]; omega
  · simp
theorem spec_FrameOf_ev (a : Int) (l : List Int) (hb : ∀ b ∈ l, 0 ≤ b ∧ b < 256) : Ev (fun k => spec_FrameOf.f k a l) (frameR a l) := by
  unfold spec_FrameOf.f frameR
  refine ev_some (spec_FrameOk_f a l) (ev_ite (fun h => ?_) (fun h => ?_))
  · have h' := of_decide_eq_true h
    rw [if_pos h']
    have hv := (varB_length 4 l.length).2
    have hp := frameP_length a l
    refine ev_some rfl (ev_bind (spec_VarOf_ev l.length (by omega)) (ev_pos (by simp; omega) (ev_some rfl (ev_pos (by simp; omega) (ev_some rfl ?_)))))
    refine ev_bind (spec_Crc_ev (frameP a l) (by omega) (frameP_mem a l hb)) (ev_some (spec_l04Four_f _ (crcOf_lt (frameP_mem a l hb))) ?_)
    refine ev_pos ?_ (ev_now _)
    have e4 : (four (crcOf (frameP a l))).length = 4 := rfl
    show (frameP a l).length + (four (crcOf (frameP a l))).length < 140737488355328
    omega
  · have h' : ¬ (0 ≤ a ∧ a ≤ 255 ∧ l.length ≤ 8000) := fun g => h (decide_eq_true g)
    rw [if_neg h']; exact ev_now _
theorem laws_toByteS_l0 (xs : List Int) (hm : xs.length ≤ 140737488355328) : ∀ (d n : Nat) (out : List Int), n + d = xs.length → out.length = xs.length → (∀ j, j < n → out[j]? = xs[j]?) → Ev (fun k => laws_toByteS.l0 k xs out (n : Int)) xs := by
  intro d
  induction d with
  | zero =>
    intro n out hn hl ho
    refine Ev.step (fun k => by rw [laws_toByteS.l0]) ?_
    refine ev_neg (by omega) (ev_now' ?_)
    apply List.ext_getElem? ; intro j
    by_cases hj : j < n
    · exact ho j hj
    · rw [List.getElem?_eq_none (by omega), List.getElem?_eq_none (by omega)]
  | succ d ih =>
    intro n out hn hl ho
    refine Ev.step (fun k => by rw [laws_toByteS.l0]) ?_
    refine ev_pos (by omega) (ev_pos (by omega) (ev_pos (by omega) ?_))
    rw [w64 (by omega) (by omega)]
    refine ih (n + 1) _ (by omega) (by simp [hl]) ?_
    intro j hj
    rw [Int.toNat_natCast, List.getElem?_set, rd_lt (by omega)]
    by_cases e : n = j
    · subst e; rw [if_pos rfl, if_pos (by omega), List.getElem?_eq_getElem (by omega)]
    · rw [if_neg e]; exact ho j (by omega)
theorem laws_toByteS_ev (xs : List Int) (hm : xs.length ≤ 140737488355328) : Ev (fun k => laws_toByteS.f k xs) xs := by
  unfold laws_toByteS.f
  refine ev_pos (by omega) (ev_pos (by omega) ?_)
  exact laws_toByteS_l0 xs hm xs.length 0 _ (by omega) (by simp) (by simp)
theorem laws_toFrame_ev (a : Int) (l : List Int) (hm : l.length ≤ 35184372088832) : Ev (fun k => laws_toFrame.f k a l) (a, l) := by
  unfold laws_toFrame.f
  exact ev_bind (laws_toByteS_ev l (by omega)) (ev_now _)
theorem impl_within_f (a b c : Int) : impl_within.f a b c = some (decide (b ≤ a ∧ a ≤ c)) := by
  unfold impl_within.f
  by_cases h : b ≤ a <;> simp [h]
theorem impl_FrameOk_f (a : Int) (l : List Int) : impl_FrameOk.f a l = some (decide (0 ≤ a ∧ a ≤ 255 ∧ l.length ≤ 8000)) := by
  unfold impl_FrameOk.f
  rw [impl_within_f, Option.bind_some]
  by_cases h : 0 ≤ a ∧ a ≤ 255
  · rw [if_pos (by simp [h])]; congr 1; simp [h]; omega
  · rw [if_neg (by simp; omega)]; congr 1; exact (decide_eq_false (by omega)).symm
theorem impl_VarOf_l0 : ∀ (f n : Nat) (acc : List Int), n < 128 ^ (f + 1) → f ≤ 8 → acc.length + f ≤ 100 → Ev (fun k => impl_VarOf.l0 k (n : Int) acc) (acc ++ varB f n) := by
  intro f
  induction f with
  | zero =>
    intro n acc hn hf hl
    refine Ev.step (fun k => by rw [impl_VarOf.l0]) ?_
    refine ev_neg (by omega) (ev_pos (by omega) (ev_now' rfl))
  | succ f ih =>
    intro n acc hn hf hl
    refine Ev.step (fun k => by rw [impl_VarOf.l0]) ?_
    have hp : 128 ^ (f + 1) ≤ 128 ^ 8 := Nat.pow_le_pow_right (by decide) (by omega)
    have hpp : 128 ^ (f + 1 + 1) = 128 ^ (f + 1) * 128 := Nat.pow_succ ..
    have hq : n / 128 < 128 ^ (f + 1) := by rw [Nat.div_lt_iff_lt_mul (by decide)]; omega
    by_cases h : 128 ≤ n
    · refine ev_pos (by omega) (ev_pos (by omega) ?_)
      have e1 : (n : Int) / 128 = ((n / 128 : Nat) : Int) := by omega
      have e2 : Go.bits .or .i64 (Go.bits .and .i64 (n : Int) 127) 128 = ((128 + n % 128 : Nat) : Int) := by
        rw [i64_and127, show (n : Int) % 128 = ((n % 128 : Nat) : Int) by omega, show (128 : Int) = ((128 : Nat) : Int) from rfl, or_i64 _ _ (by omega) (by decide)]
        congr 1
        have := Nat.two_pow_add_eq_or_of_lt (i := 7) (b := n % 128) (by omega) 1
        rw [Nat.or_comm]
        simpa using this.symm
      rw [e1, e2]
      refine ev_eq (ih (n / 128) _ hq (by omega) (by simp; omega)) ?_
      rw [varB, if_pos h, List.append_assoc, List.singleton_append]
      congr 2
      omega
    · refine ev_neg (by omega) (ev_pos (by omega) (ev_now' ?_))
      rw [varB, if_neg h]
theorem impl_VarOf_ev (n : Nat) (h : n ≤ 4294967295) : Ev (fun k => impl_VarOf.f k (n : Int)) (varB 4 n) := by
  unfold impl_VarOf.f
  refine ev_some (impl_within_f _ _ _) (ev_pos (by simp; omega) ?_)
  exact impl_VarOf_l0 4 n [] (by omega) (by omega) (by simp)
theorem impl_VarOf_bad (a : Int) (h : a < 0 ∨ 4294967295 < a) : Ev (fun k => impl_VarOf.f k a) [] := by
  unfold impl_VarOf.f
  exact ev_some (impl_within_f _ _ _) (ev_neg (by simp; omega) (ev_now _))
theorem impl_crc_l1 (xs : List Int) (m : Int) (i : Nat) (r : Int) : ∀ (d j c : Nat), j + d = 8 → c < 2 ^ 32 → Ev (fun k => impl_crc.l0 k ((crcIter d c : Nat) : Int) xs m (wrap64 ((i : Int) + 1))) r → Ev (fun k => impl_crc.l1 k (c : Int) xs m (i : Int) (j : Int)) r := by
  intro d
  induction d with
  | zero =>
    intro j c hj hc h
    refine Ev.step (fun k => by rw [impl_crc.l1]) ?_
    exact ev_neg (by omega) h
  | succ d ih =>
    intro j c hj hc h
    refine Ev.step (fun k => by rw [impl_crc.l1]) ?_
    have e2 : (c : Int) / 2 = ((c / 2 : Nat) : Int) := by omega
    have hs := crcStep_lt hc
    have e3 : (((c % 2 : Nat) : Int) * 3988292384) % 4294967296 = ((c % 2 * 3988292384 : Nat) : Int) := by omega
    rw [and1_u32 c hc, e2, e3, xor_u32 _ _ (by omega) (by omega), w64 (n := (j : Int) + 1) (by omega) (by omega)]
    refine ev_pos (by omega) ?_
    have e : crcStep c = (c / 2) ^^^ (c % 2 * 3988292384) := by
      unfold crcStep
      split
      · rename_i o; rw [o]
      · have o : c % 2 = 0 := by omega
        rw [o]; simp
    rw [← e]
    exact ih (j + 1) _ (by omega) hs h
theorem impl_crc_l0 (xs : List Int) (hm : xs.length ≤ 1099511627776) (hb : ∀ b ∈ xs, 0 ≤ b ∧ b < 256) : ∀ (d n c : Nat), n + d = xs.length → c < 2 ^ 32 → Ev (fun k => impl_crc.l0 k (c : Int) xs (xs.length : Int) (n : Int)) ((crcAll ((xs.drop n).map Int.toNat) c ^^^ 4294967295 : Nat) : Int) := by
  intro d
  induction d with
  | zero =>
    intro n c hn hc
    refine Ev.step (fun k => by rw [impl_crc.l0]) ?_
    refine ev_neg (by omega) (ev_now' ?_)
    have hlt : c ^^^ 4294967295 < 2 ^ 32 := Nat.xor_lt_two_pow hc (by decide)
    rw [List.drop_eq_nil_of_le (by omega), show (4294967295 : Int) = ((4294967295 : Nat) : Int) from rfl, xor_u32 _ _ (by omega) (by decide), w64 (by omega) (by omega)]
    rfl
  | succ d ih =>
    intro n c hn hc
    refine Ev.step (fun k => by rw [impl_crc.l0]) ?_
    refine ev_pos (by omega) (ev_pos (by omega) (ev_pos (by omega) ?_))
    have hx := hb _ (List.getElem_mem (show n < xs.length by omega))
    rw [rd_lt (show n < xs.length by omega)]
    have e : xs[n] % 4294967296 = ((xs[n].toNat : Nat) : Int) := by omega
    rw [e, xor_u32 _ _ (by omega) (by omega)]
    have hlt : c ^^^ xs[n].toNat < 2 ^ 32 := Nat.xor_lt_two_pow hc (by omega)
    refine impl_crc_l1 xs _ n _ 8 0 _ (by omega) hlt ?_
    rw [w64 (n := (n : Int) + 1) (by omega) (by omega)]
    refine ev_eq (ih (n + 1) _ (by omega) (crcIter_lt hlt)) ?_
    rw [List.drop_eq_getElem_cons (show n < xs.length by omega), List.map_cons, crcAll]
theorem impl_crc_ev (xs : List Int) (hm : xs.length ≤ 1099511627776) (hb : ∀ b ∈ xs, 0 ≤ b ∧ b < 256) : Ev (fun k => impl_crc.f k xs) ((crcOf xs : Nat) : Int) := by
  unfold impl_crc.f
  exact impl_crc_l0 xs hm hb xs.length 0 4294967295 (by omega) (by decide)
theorem impl_FrameOf_l0 (p : List Int) (c : Nat) (hp : p.length ≤ 1000000) : ∀ (d i : Nat), i + d = 4 → Ev (fun k => impl_FrameOf.l0 k (p ++ tab i fun i => ((c / 2 ^ (8 * i) % 256 : Nat) : Int)) (c : Int) (i : Int)) (p ++ four c) := by
  intro d
  induction d with
  | zero =>
    intro i hi
    have e : i = 4 := by omega
    subst e
    refine Ev.step (fun k => by rw [impl_FrameOf.l0]) ?_
    exact ev_neg (by omega) (ev_now _)
  | succ d ih =>
    intro i hi
    refine Ev.step (fun k => by rw [impl_FrameOf.l0]) ?_
    have e1 : wrap64 (8 * (i : Int)) = ((8 * i : Nat) : Int) := by rw [w64 (by omega) (by omega)]; omega
    have e2 : shr .i64 (c : Int) ((8 * i : Nat) : Int) % 256 = ((c / 2 ^ (8 * i) % 256 : Nat) : Int) := by
      unfold shr
      rw [Int.toNat_natCast, Nat.min_eq_left (by simp [IntKind.bits]; omega), show ((2 : Int) ^ (8 * i)) = ((2 ^ (8 * i) : Nat) : Int) by simp]
      rfl
    rw [e1, e2, w64 (by omega) (by omega), List.append_assoc, ← tab_succ (f := fun i => ((c / 2 ^ (8 * i) % 256 : Nat) : Int))]
    refine ev_pos (by omega) (ev_pos (by omega) (ev_pos (by rw [List.length_append, tab_length]; omega) ?_))
    exact ih (i + 1) (by omega)
theorem impl_FrameOf_ev (a : Int) (l : List Int) (hb : ∀ b ∈ l, 0 ≤ b ∧ b < 256) : Ev (fun k => impl_FrameOf.f k a l) (frameR a l) := by
  unfold impl_FrameOf.f frameR
  refine ev_some (impl_FrameOk_f a l) (ev_ite (fun h => ?_) (fun h => ?_))
  · have h' := of_decide_eq_true h
    rw [if_pos h']
    have hv := (varB_length 4 l.length).2
    have hp := frameP_length a l
    refine ev_some rfl (ev_bind (impl_VarOf_ev l.length (by omega)) (ev_pos (by simp; omega) (ev_some rfl (ev_pos (by simp; omega) (ev_some rfl ?_)))))
    refine ev_bind (impl_crc_ev (frameP a l) (by omega) (frameP_mem a l hb)) ?_
    have h := impl_FrameOf_l0 (frameP a l) (crcOf (frameP a l)) (by omega) 4 0 (by omega)
    rw [show (tab 0 fun i => ((crcOf (frameP a l) / 2 ^ (8 * i) % 256 : Nat) : Int)) = [] from rfl, List.append_nil] at h
    exact h
  · have h' : ¬ (0 ≤ a ∧ a ≤ 255 ∧ l.length ≤ 8000) := fun g => h (decide_eq_true g)
    rw [if_neg h']; exact ev_now _
theorem laws_eqByteS_l0 (xs ys : List Int) (hl : xs.length = ys.length) (hm : xs.length ≤ 140737488355328) : ∀ (d n : Nat), n + d = xs.length → Ev (fun k => laws_eqByteS.l0 k xs ys (n : Int)) (decide (xs.drop n = ys.drop n)) := by
  intro d
  induction d with
  | zero =>
    intro n hn
    refine Ev.step (fun k => by rw [laws_eqByteS.l0]) ?_
    refine ev_neg (by omega) (ev_now' ?_)
    rw [List.drop_eq_nil_of_le (by omega), List.drop_eq_nil_of_le (by omega)]; rfl
  | succ d ih =>
    intro n hn
    refine Ev.step (fun k => by rw [laws_eqByteS.l0]) ?_
    refine ev_pos (by omega) (ev_pos (by omega) (ev_pos (by omega) ?_))
    rw [rd_lt (by omega), rd_lt (by omega), w64 (by omega) (by omega)]
    rw [List.drop_eq_getElem_cons (show n < xs.length by omega), List.drop_eq_getElem_cons (show n < ys.length by omega)]
    refine ev_ite (fun h => ev_eq (ih (n + 1) (by omega)) ?_) (fun h => ev_now' ?_)
    · simp only [List.cons.injEq, h, true_and]
    · exact (decide_eq_false (fun e => h (List.cons.inj e).1)).symm
theorem laws_eqByteS_ev (xs ys : List Int) (hm : xs.length ≤ 140737488355328) : Ev (fun k => laws_eqByteS.f k xs ys) (decide (xs = ys)) := by
  unfold laws_eqByteS.f
  refine ev_ite (fun h => ?_) (fun h => ev_now' ?_)
  · exact laws_eqByteS_l0 xs ys (by omega) hm xs.length 0 (by omega)
  · exact (decide_eq_false (fun e => h (by rw [e]))).symm
theorem laws_eqFrame_ev (a : Int) (l : List Int) (b : Int) (m : List Int) (hm : l.length ≤ 140737488355328) : Ev (fun k => laws_eqFrame.f k a l b m) (decide (a = b ∧ l = m)) := by
  unfold laws_eqFrame.f
  refine ev_ite (fun h => ev_bind (laws_eqByteS_ev l m hm) (ev_ite (fun h' => ev_now' ?_) (fun h' => ev_now' ?_))) (fun h => ev_now' ?_)
  · simp at h'; simp [h, h']
  · simp at h'; simp [h']
  · simp [h]
theorem laws_markByteS_l0 (xs : List Int) (a : Nat) (hm : a + xs.length ≤ 1099511627776) : ∀ (d n : Nat), n + d = xs.length → Ev (fun k => laws_markByteS.l0 k (marked (fun x => x % 256) n a ++ xs.drop n) ((a + n : Nat) : Int) (n : Int)) (((a + xs.length : Nat) : Int), marked (fun x => x % 256) xs.length a) := by
  intro d
  induction d with
  | zero =>
    intro n hn
    have e : n = xs.length := by omega
    subst e
    refine Ev.step (fun k => by rw [laws_markByteS.l0]) ?_
    refine ev_neg (by simp [marked_length]) (ev_now' ?_)
    rw [List.drop_length, List.append_nil]
  | succ d ih =>
    intro n hn
    refine Ev.step (fun k => by rw [laws_markByteS.l0]) ?_
    refine ev_pos (by simp [marked_length]; omega) (ev_pos (by omega) ?_)
    rw [w64 (by omega) (by omega), w64 (by omega) (by omega), Int.toNat_natCast]
    have e := set_mark (c := (fun x => x % 256)) (a := a) (show n < xs.length by omega)
    rw [show (((a + n : Nat) : Int) % 256) = (fun x => x % 256) ((a + n : Nat) : Int) from rfl, e]
    exact ih (n + 1) (by omega)
theorem laws_markByteS_ev (xs : List Int) (a : Nat) (hm : a + xs.length ≤ 1099511627776) : Ev (fun k => laws_markByteS.f k xs (a : Int)) (((a + xs.length : Nat) : Int), marked (fun x => x % 256) xs.length a) := by
  unfold laws_markByteS.f
  have h := laws_markByteS_l0 xs a hm xs.length 0 (by omega)
  simpa [marked] using h
theorem laws_markFrame_ev (x : Int) (xs : List Int) (a : Nat) (hm : a + xs.length ≤ 1099511627776) : Ev (fun k => laws_markFrame.f k x xs (a : Int)) (((a + xs.length : Nat) : Int), marked (fun x => x % 256) xs.length a) := by
  unfold laws_markFrame.f
  exact ev_bind (laws_markByteS_ev xs a hm) (ev_now _)
theorem laws_heldByteS_l0 (m a : Nat) (hm : a + m ≤ 1099511627776) : ∀ (d n : Nat), n + d = m → Ev (fun k => laws_heldByteS.l0 k (marked (fun x => x % 256) m a) ((a + n : Nat) : Int) (n : Int)) ((a + m : Nat) : Int) := by
  intro d
  induction d with
  | zero =>
    intro n hn
    have e : n = m := by omega
    subst e
    refine Ev.step (fun k => by rw [laws_heldByteS.l0]) ?_
    exact ev_neg (by simp [marked_length]) (ev_now _)
  | succ d ih =>
    intro n hn
    refine Ev.step (fun k => by rw [laws_heldByteS.l0]) ?_
    refine ev_pos (by rw [marked_length]; omega) (ev_pos (by omega) ?_)
    rw [rd_lt (by rw [marked_length]; omega), marked_get _ _ _ _ (by omega), w64 (by omega) (by omega), w64 (by omega) (by omega)]
    exact ev_pos rfl (ih (n + 1) (by omega))
theorem laws_heldByteS_ev (m a : Nat) (hm : a + m ≤ 1099511627776) : Ev (fun k => laws_heldByteS.f k (marked (fun x => x % 256) m a) (a : Int)) ((a + m : Nat) : Int) := by
  unfold laws_heldByteS.f
  exact laws_heldByteS_l0 m a hm m 0 (by omega)

theorem FnExactFrameOf : laws_FnExactFrameOf.Pure := by
  intro a l ha hl hw
  refine Ev.rounds ?_
  unfold laws_FnExactFrameOf.f
  refine ev_some (laws_szFrame_f a l 1048576 hl (by omega)) (ev_ite (fun _ => ev_now _) (fun h => ?_))
  have hm : l.length ≤ 1048576 := by
    by_cases h' : 1048576 < l.length
    · rw [if_pos h'] at h; omega
    · omega
  have hb : ∀ b ∈ l, 0 ≤ b ∧ b < 256 := fun x hx => wf_u8 (hw x hx)
  have ht := laws_toFrame_ev a l (by omega)
  have hs := spec_FrameOf_ev a l hb
  have hi := impl_FrameOf_ev a l hb
  have ho := frameR_length a l
  generalize frameR a l = out at *
  have hml : (1 : Nat) + l.length ≤ 1099511627776 := by omega
  have hmo : (1 : Nat) + out.length ≤ 1099511627776 := by omega
  have hq := laws_eqByteS_ev out out (by omega)
  have hj : Ev (fun k => laws_FnExactFrameOf.j0 k out out false a l) true := by
    refine Ev.step (fun k => by rw [laws_FnExactFrameOf.j0]) (ev_neg (by decide) ?_)
    refine ev_bind (laws_markByteS_ev out 1 hmo) (ev_bind (laws_heldByteS_ev out.length 1 hmo) (ev_neg (by omega) (ev_pos rfl ?_)))
    refine ev_bind ht (ev_bind hi (ev_bind hq (ev_pos (by simp) ?_)))
    exact ev_bind (laws_heldByteS_ev out.length 1 hmo) (ev_neg (by omega) (ev_pos rfl (ev_now _)))
  refine ev_bind ht (ev_bind hs (ev_bind ht (ev_bind hi (ev_bind hq (ev_pos (by simp) ?_)))))
  refine ev_bind ht (ev_bind (laws_eqFrame_ev a l a l (by omega)) (ev_pos (by simp) ?_))
  refine ev_bind (laws_markFrame_ev a l 1 hml) (ev_neg (by omega) (ev_bind hq ?_))
  rw [show (!decide (out = out)) = false by simp]
  exact hj

end Go.Proofs.Ytebdjkdmmdninaa.Pure
