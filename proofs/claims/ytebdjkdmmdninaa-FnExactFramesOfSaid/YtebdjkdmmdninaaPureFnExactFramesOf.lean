/- The pure statement of the law FnExactFramesOf: the program's bytes of frames equal the reference's, for all rows of frames. -/
import Derived.Test.YtebdjkdmmdninaaQFnExactFramesOfx5
import Derived.Test.YtebdjkdmmdninaaLib
namespace Go.Proofs.Ytebdjkdmmdninaa.Pure
open Go.RowKit Go.Proofs.Ytebdjkdmmdninaa.QFnExactFramesOf Go.Proofs.Ytebdjkdmmdninaa.Lib Go.Proofs.YtebdjkdmmdninaaW.PrintWords Go.Proofs.YtebdjkdmmdninaaW.PrintLast Go.Proofs.YtebdjkdmmdninaaW.PrintMore
set_option linter.unusedVariables false
set_option linter.unusedSimpArgs false

theorem laws_eqByteS_l0 (xs ys : List Int) (hl : xs.length = ys.length) (hm : xs.length ≤ 140737488355328) : ∀ (d n : Nat), n + d = xs.length → Ev (fun k => laws_eqByteS.l0 k xs ys (n : Int)) (decide (xs.drop n = ys.drop n)) := by
  intro d
  induction d with
  | zero =>
    intro n hn
    refine Ev.step (fun k => by rw [laws_eqByteS.l0]) ?_
    refine ev_neg (by omega) (ev_now' ?_)
    rw [List.drop_eq_nil_of_le (by omega), List.drop_eq_nil_of_le (by omega)]; rfl
  | succ d ih =>
    intro n hn
    refine Ev.step (fun k => by rw [laws_eqByteS.l0]) ?_
    refine ev_pos (by omega) (ev_pos (by omega) (ev_pos (by omega) ?_))
    rw [rd_lt (by omega), rd_lt (by omega), w64 (by omega) (by omega)]
    rw [List.drop_eq_getElem_cons (show n < xs.length by omega), List.drop_eq_getElem_cons (show n < ys.length by omega)]
    refine ev_ite (fun h => ev_eq (ih (n + 1) (by omega)) ?_) (fun h => ev_now' ?_)
    · simp only [List.cons.injEq, h, true_and]
    · exact (decide_eq_false (fun e => h (List.cons.inj e).1)).symm
theorem laws_eqByteS_ev (xs ys : List Int) (hm : xs.length ≤ 140737488355328) : Ev (fun k => laws_eqByteS.f k xs ys) (decide (xs = ys)) := by
  unfold laws_eqByteS.f
  refine ev_ite (fun h => ?_) (fun h => ev_now' ?_)
  · exact laws_eqByteS_l0 xs ys (by omega) hm xs.length 0 (by omega)
  · exact (decide_eq_false (fun e => h (by rw [e]))).symm
theorem laws_markByteS_l0 (xs : List Int) (a : Nat) (hm : a + xs.length ≤ 1099511627776) : ∀ (d n : Nat), n + d = xs.length → Ev (fun k => laws_markByteS.l0 k (marked (fun x => x % 256) n a ++ xs.drop n) ((a + n : Nat) : Int) (n : Int)) (((a + xs.length : Nat) : Int), marked (fun x => x % 256) xs.length a) := by
  intro d
  induction d with
  | zero =>
    intro n hn
    have e : n = xs.length := by omega
    subst e
    refine Ev.step (fun k => by rw [laws_markByteS.l0]) ?_
    refine ev_neg (by simp [marked_length]) (ev_now' ?_)
    rw [List.drop_length, List.append_nil]
  | succ d ih =>
    intro n hn
    refine Ev.step (fun k => by rw [laws_markByteS.l0]) ?_
    refine ev_pos (by simp [marked_length]; omega) (ev_pos (by omega) ?_)
    rw [w64 (by omega) (by omega), w64 (by omega) (by omega), Int.toNat_natCast]
    have e := set_mark (c := (fun x => x % 256)) (a := a) (show n < xs.length by omega)
    rw [show (((a + n : Nat) : Int) % 256) = (fun x => x % 256) ((a + n : Nat) : Int) from rfl, e]
    exact ih (n + 1) (by omega)
theorem laws_markByteS_ev (xs : List Int) (a : Nat) (hm : a + xs.length ≤ 1099511627776) : Ev (fun k => laws_markByteS.f k xs (a : Int)) (((a + xs.length : Nat) : Int), marked (fun x => x % 256) xs.length a) := by
  unfold laws_markByteS.f
  have h := laws_markByteS_l0 xs a hm xs.length 0 (by omega)
  simpa [marked] using h
theorem laws_heldByteS_l0 (m a : Nat) (hm : a + m ≤ 1099511627776) : ∀ (d n : Nat), n + d = m → Ev (fun k => laws_heldByteS.l0 k (marked (fun x => x % 256) m a) ((a + n : Nat) : Int) (n : Int)) ((a + m : Nat) : Int) := by
  intro d
  induction d with
  | zero =>
    intro n hn
    have e : n = m := by omega
    subst e
    refine Ev.step (fun k => by rw [laws_heldByteS.l0]) ?_
    exact ev_neg (by simp [marked_length]) (ev_now _)
  | succ d ih =>
    intro n hn
    refine Ev.step (fun k => by rw [laws_heldByteS.l0]) ?_
    refine ev_pos (by rw [marked_length]; omega) (ev_pos (by omega) ?_)
    rw [rd_lt (by rw [marked_length]; omega), marked_get _ _ _ _ (by omega), w64 (by omega) (by omega), w64 (by omega) (by omega)]
    exact ev_pos rfl (ih (n + 1) (by omega))
theorem laws_heldByteS_ev (m a : Nat) (hm : a + m ≤ 1099511627776) : Ev (fun k => laws_heldByteS.f k (marked (fun x => x % 256) m a) (a : Int)) ((a + m : Nat) : Int) := by
  unfold laws_heldByteS.f
  exact laws_heldByteS_l0 m a hm m 0 (by omega)
theorem laws_szByteS_f (l : List Int) (a : Nat) (hl : l.length ≤ maxLen) (ha : a ≤ 1099511627776) : laws_szByteS.f l (a : Int) = some (if a < l.length then -1 else ((a - l.length : Nat) : Int)) := by
  unfold maxLen at hl
  unfold laws_szByteS.f
  rw [w64 (by omega) (by omega)]
  by_cases h : a < l.length
  · rw [if_pos (by omega), if_pos h]
  · rw [if_neg (by omega), if_neg h]; congr 1; omega
theorem laws_szFrame_f (x : Int) (l : List Int) (a : Nat) (hl : l.length ≤ maxLen) (ha : a ≤ 1099511627776) : laws_szFrame.f x l (a : Int) = some (if a < l.length then -1 else ((a - l.length : Nat) : Int)) := by
  unfold laws_szFrame.f
  rw [laws_szByteS_f l a hl ha, Option.bind_some]
  by_cases h : a < l.length
  · rw [if_pos h]; rfl
  · rw [if_neg h, if_neg (by omega)]
theorem spec_FrameOk_f (a : Int) (l : List Int) : spec_FrameOk.f a l = some (decide (0 ≤ a ∧ a ≤ 255 ∧ l.length ≤ 8000)) := by
  unfold spec_FrameOk.f
  by_cases h : 0 ≤ a
  · rw [if_pos (by omega)]
    by_cases h' : a ≤ 255
    · rw [if_pos h']; congr 1; simp [h, h']; omega
    · rw [if_neg h']; simp [h']
  · rw [if_neg (by omega)]; simp [h]
theorem spec_VarOf_l0 : ∀ (f n : Nat) (acc : List Int), n < 128 ^ (f + 1) → f ≤ 8 → acc.length + f ≤ 100 → Ev (fun k => spec_VarOf.l0 k (n : Int) acc) (acc ++ varB f n) := by
  intro f
  induction f with
  | zero =>
    intro n acc hn hf hl
    refine Ev.step (fun k => by rw [spec_VarOf.l0]) ?_
    refine ev_neg (by omega) (ev_pos (by omega) (ev_now' rfl))
  | succ f ih =>
    intro n acc hn hf hl
    refine Ev.step (fun k => by rw [spec_VarOf.l0]) ?_
    have hp : 128 ^ (f + 1) ≤ 128 ^ 8 := Nat.pow_le_pow_right (by decide) (by omega)
    have hpp : 128 ^ (f + 1 + 1) = 128 ^ (f + 1) * 128 := Nat.pow_succ ..
    have hq : n / 128 < 128 ^ (f + 1) := by rw [Nat.div_lt_iff_lt_mul (by decide)]; omega
    by_cases h : 128 ≤ n
    · refine ev_pos (by omega) (ev_pos (by omega) ?_)
      have e1 : Int.tdiv (n : Int) 128 = ((n / 128 : Nat) : Int) := tdiv_nat n 128
      have e2 : Int.tmod (n : Int) 128 = ((n % 128 : Nat) : Int) := tmod_nat n 128
      rw [e1, e2, w64 (by omega) (by omega), w64 (by omega) (by omega)]
      refine ev_eq (ih (n / 128) _ hq (by omega) (by simp; omega)) ?_
      rw [varB, if_pos h, List.append_assoc, List.singleton_append]
      congr 2
      omega
    · refine ev_neg (by omega) (ev_pos (by omega) (ev_now' ?_))
      rw [varB, if_neg h]
theorem spec_VarOf_ev (n : Nat) (h : n ≤ 4294967295) : Ev (fun k => spec_VarOf.f k (n : Int)) (varB 4 n) := by
  unfold spec_VarOf.f
  refine ev_neg (by omega) (Ev.step (fun k => by rw [spec_VarOf.j0]) (ev_neg (by simp; omega) ?_))
  exact spec_VarOf_l0 4 n [] (by omega) (by omega) (by simp)
theorem spec_VarOf_bad (a : Int) (h : a < 0 ∨ 4294967295 < a) : Ev (fun k => spec_VarOf.f k a) [] := by
  unfold spec_VarOf.f
  refine ev_ite (fun _ => Ev.step (fun k => by rw [spec_VarOf.j0]) (ev_pos rfl (ev_now _))) (fun _ => Ev.step (fun k => by rw [spec_VarOf.j0]) (ev_pos (by simp; omega) (ev_now _)))
def four (c : Nat) : List Int := tab 4 fun i => ((c / 2 ^ (8 * i) % 256 : Nat) : Int)
theorem spec_l04Four_f (c : Nat) (h : c < 2 ^ 32) : spec_l04Four.f (c : Int) = some (four c) := by
  unfold spec_l04Four.f
  congr 1
  rw [show Int.tmod (c : Int) 256 = ((c % 256 : Nat) : Int) from tmod_nat c 256]
  rw [show Int.tdiv (c : Int) 256 = ((c / 256 : Nat) : Int) from tdiv_nat c 256, w64 (n := ((c / 256 : Nat) : Int)) (by omega) (by omega), show Int.tmod ((c / 256 : Nat) : Int) 256 = ((c / 256 % 256 : Nat) : Int) from tmod_nat (c / 256) 256]
  rw [show Int.tdiv (c : Int) 65536 = ((c / 65536 : Nat) : Int) from tdiv_nat c 65536, w64 (n := ((c / 65536 : Nat) : Int)) (by omega) (by omega), show Int.tmod ((c / 65536 : Nat) : Int) 256 = ((c / 65536 % 256 : Nat) : Int) from tmod_nat (c / 65536) 256]
  rw [show Int.tdiv (c : Int) 16777216 = ((c / 16777216 : Nat) : Int) from tdiv_nat c 16777216, w64 (n := ((c / 16777216 : Nat) : Int)) (by omega) (by omega), show Int.tmod ((c / 16777216 : Nat) : Int) 256 = ((c / 16777216 % 256 : Nat) : Int) from tmod_nat (c / 16777216) 256]
  have e : four c = [((c / 1 % 256 : Nat) : Int), ((c / 256 % 256 : Nat) : Int), ((c / 65536 % 256 : Nat) : Int), ((c / 16777216 % 256 : Nat) : Int)] := rfl
  rw [e]
  simp
theorem spec_Crc_l1 (xs : List Int) (i : Nat) (r : Int) : ∀ (d j c : Nat), j + d = 8 → c < 2 ^ 32 → Ev (fun k => spec_Crc.l0 k xs ((crcIter d c : Nat) : Int) (wrap64 ((i : Int) + 1))) r → Ev (fun k => spec_Crc.l1 k xs (c : Int) (i : Int) (j : Int)) r := by
  intro d
  induction d with
  | zero =>
    intro j c hj hc h
    refine Ev.step (fun k => by rw [spec_Crc.l1]) ?_
    exact ev_neg (by omega) h
  | succ d ih =>
    intro j c hj hc h
    refine Ev.step (fun k => by rw [spec_Crc.l1]) ?_
    have e1 : Int.tmod (c : Int) 2 = ((c % 2 : Nat) : Int) := tmod_nat c 2
    have e2 : Int.tdiv (c : Int) 2 = ((c / 2 : Nat) : Int) := tdiv_nat c 2
    rw [e1, e2, w64 (n := (j : Int) + 1) (by omega) (by omega), w64 (n := ((c / 2 : Nat) : Int)) (by omega) (by omega), show (3988292384 : Int) = ((3988292384 : Nat) : Int) from rfl, xor_i64 _ _ (by omega) (by decide)]
    have hs := crcStep_lt hc
    refine ev_pos (by omega) (ev_ite (fun o => ?_) (fun o => ?_))
    · have e : crcStep c = (c / 2) ^^^ 3988292384 := by unfold crcStep; rw [if_pos (by omega)]
      rw [← e]
      exact ih (j + 1) _ (by omega) hs h
    · have e : crcStep c = c / 2 := by unfold crcStep; rw [if_neg (by omega)]
      rw [← e]
      exact ih (j + 1) _ (by omega) hs h
theorem spec_Crc_l0 (xs : List Int) (hm : xs.length ≤ 16000) (hb : ∀ b ∈ xs, 0 ≤ b ∧ b < 256) : ∀ (d n c : Nat), n + d = xs.length → c < 2 ^ 32 → Ev (fun k => spec_Crc.l0 k xs (c : Int) (n : Int)) ((crcAll ((xs.drop n).map Int.toNat) c ^^^ 4294967295 : Nat) : Int) := by
  intro d
  induction d with
  | zero =>
    intro n c hn hc
    refine Ev.step (fun k => by rw [spec_Crc.l0]) ?_
    refine ev_neg (by omega) (ev_now' ?_)
    rw [List.drop_eq_nil_of_le (by omega), show (4294967295 : Int) = ((4294967295 : Nat) : Int) from rfl, xor_i64 _ _ (by omega) (by decide)]
    rfl
  | succ d ih =>
    intro n c hn hc
    refine Ev.step (fun k => by rw [spec_Crc.l0]) ?_
    refine ev_pos (by omega) (ev_pos (by omega) ?_)
    have hx := hb _ (List.getElem_mem (show n < xs.length by omega))
    rw [rd_lt (show n < xs.length by omega), w64 (n := xs[n]) (by omega) (by omega)]
    have e : xs[n] = ((xs[n].toNat : Nat) : Int) := by omega
    rw [e, xor_i64 _ _ (by omega) (by omega)]
    have hlt : c ^^^ xs[n].toNat < 2 ^ 32 := Nat.xor_lt_two_pow hc (by omega)
    refine spec_Crc_l1 xs n _ 8 0 _ (by omega) hlt ?_
    rw [w64 (n := (n : Int) + 1) (by omega) (by omega)]
    refine ev_eq (ih (n + 1) _ (by omega) (crcIter_lt hlt)) ?_
    rw [List.drop_eq_getElem_cons (show n < xs.length by omega), List.map_cons, crcAll]
theorem spec_Crc_ev (xs : List Int) (hm : xs.length ≤ 16000) (hb : ∀ b ∈ xs, 0 ≤ b ∧ b < 256) : Ev (fun k => spec_Crc.f k xs) ((crcOf xs : Nat) : Int) := by
  unfold spec_Crc.f
  refine ev_neg (by omega) ?_
  exact spec_Crc_l0 xs hm hb xs.length 0 4294967295 (by omega) (by decide)
theorem spec_Crc_bad (xs : List Int) (hm : 16000 < xs.length) : Ev (fun k => spec_Crc.f k xs) (-1) := by
  unfold spec_Crc.f
  exact ev_pos (by omega) (ev_now _)
def frameP (a : Int) (l : List Int) : List Int := ([90, a % 256] ++ varB 4 l.length) ++ l
def frameL (a : Int) (l : List Int) : List Int := frameP a l ++ four (crcOf (frameP a l))
def frameR (a : Int) (l : List Int) : List Int := if 0 ≤ a ∧ a ≤ 255 ∧ l.length ≤ 8000 then frameL a l else []
theorem frameP_mem (a : Int) (l : List Int) (hb : ∀ b ∈ l, 0 ≤ b ∧ b < 256) : ∀ b ∈ frameP a l, 0 ≤ b ∧ b < 256 := by
  intro b h
  rcases List.mem_append.1 h with h | h
  · rcases List.mem_append.1 h with h | h
    · simp at h; omega
    · exact varB_mem _ _ b h
  · exact hb b h
theorem frameP_length (a : Int) (l : List Int) : (frameP a l).length = 2 + (varB 4 l.length).length + l.length := by
  unfold frameP; simp; omega
theorem four_mem (c : Nat) : ∀ b ∈ four c, 0 ≤ b ∧ b < 256 := by
  intro b h
  unfold four tab at h
  obtain ⟨i, _, rfl⟩ := List.mem_map.1 h
  omega
theorem frameL_mem (a : Int) (l : List Int) (hb : ∀ b ∈ l, 0 ≤ b ∧ b < 256) : ∀ b ∈ frameL a l, 0 ≤ b ∧ b < 256 := by
  intro b h
  rcases List.mem_append.1 h with h | h
  · exact frameP_mem a l hb b h
  · exact four_mem _ b h
theorem frameL_length (a : Int) (l : List Int) : (frameL a l).length = 2 + (varB 4 l.length).length + l.length + 4 := by
  unfold frameL; rw [List.length_append, frameP_length]; rfl
theorem frameR_length (a : Int) (l : List Int) : (frameR a l).length ≤ 8011 := by
  unfold frameR
  split
  · rename_i h
    have := (varB_length 4 l.length).2
    rw [frameL_length]; omega
  · simp
theorem spec_FrameOf_ev (a : Int) (l : List Int) (hb : ∀ b ∈ l, 0 ≤ b ∧ b < 256) : Ev (fun k => spec_FrameOf.f k a l) (frameR a l) := by
  unfold spec_FrameOf.f frameR
  refine ev_some (spec_FrameOk_f a l) (ev_ite (fun h => ?_) (fun h => ?_))
  · have h' := of_decide_eq_true h
    rw [if_pos h']
    have hv := (varB_length 4 l.length).2
    have hp := frameP_length a l
    refine ev_some rfl (ev_bind (spec_VarOf_ev l.length (by omega)) (ev_pos (by simp; omega) (ev_some rfl (ev_pos (by simp; omega) (ev_some rfl ?_)))))
    refine ev_bind (spec_Crc_ev (frameP a l) (by omega) (frameP_mem a l hb)) (ev_some (spec_l04Four_f _ (crcOf_lt (frameP_mem a l hb))) ?_)
    refine ev_pos ?_ (ev_now _)
    have e4 : (four (crcOf (frameP a l))).length = 4 := rfl
    show (frameP a l).length + (four (crcOf (frameP a l))).length < 140737488355328
    omega
  · have h' : ¬ (0 ≤ a ∧ a ≤ 255 ∧ l.length ≤ 8000) := fun g => h (decide_eq_true g)
    rw [if_neg h']; exact ev_now _
def framesGo (out : List Int) : List S27 → List Int × Bool
  | [] => (out, true)
  | x :: xs => if (frameR x.f0 x.f1).length = 0 ∨ 8000 < out.length + (frameR x.f0 x.f1).length then ([], false) else framesGo (out ++ frameR x.f0 x.f1) xs
def bodiesOk (l : List S27) : Prop := ∀ x ∈ l, ∀ b ∈ x.f1, 0 ≤ b ∧ b < 256
theorem rd_T27_lt {xs : List S27} {n : Nat} (h : n < xs.length) : rd_T27 xs (n : Int) = xs[n] := by simp [rd_T27, h]
theorem framesGo_length : ∀ (l : List S27) (out : List Int), out.length ≤ 8000 → (framesGo out l).1.length ≤ 8000
  | [], out, h => h
  | x :: xs, out, h => by
    rw [framesGo]
    split
    · simp
    · rename_i g
      exact framesGo_length xs _ (by rw [List.length_append]; omega)
theorem spec_FramesOf_l0 (l : List S27) (hb : bodiesOk l) (hm : l.length ≤ 1048576) : ∀ (d n : Nat) (out : List Int), n + d = l.length → out.length ≤ 8000 → Ev (fun k => spec_FramesOf.l0 k l out (n : Int)) (framesGo out (l.drop n)) := by
  intro d
  induction d with
  | zero =>
    intro n out hn ho
    rw [List.drop_eq_nil_of_le (by omega), framesGo]
    exact Ev.step (fun k => by rw [spec_FramesOf.l0]) (ev_neg (by omega) (ev_now _))
  | succ d ih =>
    intro n out hn ho
    have hlt : n < l.length := by omega
    rw [List.drop_eq_getElem_cons hlt, framesGo]
    refine Ev.step (fun k => by rw [spec_FramesOf.l0]) (ev_pos (by omega) (ev_pos (by omega) ?_))
    rw [rd_T27_lt hlt]
    have hf := frameR_length l[n].f0 l[n].f1
    refine ev_bind (spec_FrameOf_ev _ _ (hb _ (List.getElem_mem hlt))) ?_
    generalize frameR l[n].f0 l[n].f1 = t at *
    rw [w64 (n := 8000 - (out.length : Int)) (by omega) (by omega), w64 (n := (n : Int) + 1) (by omega) (by omega)]
    refine ev_ite (fun h => ?_) (fun h => ev_ite (fun h1 => ?_) (fun h1 => ev_pos (by omega) ?_))
    · rw [if_pos (by omega)]; exact ev_now _
    · rw [if_pos (by omega)]; exact ev_now _
    · rw [if_neg (by omega)]
      exact ih (n + 1) _ (by omega) (by rw [List.length_append]; omega)
theorem spec_FramesOf_ev (l : List S27) (hb : bodiesOk l) (hm : l.length ≤ 1048576) : Ev (fun k => spec_FramesOf.f k l) (framesGo [] l) := by
  have h := spec_FramesOf_l0 l hb hm l.length 0 [] (by omega) (by simp)
  rw [List.drop_zero] at h
  exact h
theorem laws_toByteS_l0 (xs : List Int) (hm : xs.length ≤ 140737488355328) : ∀ (d n : Nat) (out : List Int), n + d = xs.length → out.length = xs.length → (∀ j, j < n → out[j]? = xs[j]?) → Ev (fun k => laws_toByteS.l0 k xs out (n : Int)) xs := by
  intro d
  induction d with
  | zero =>
    intro n out hn hl ho
    refine Ev.step (fun k => by rw [laws_toByteS.l0]) ?_
    refine ev_neg (by omega) (ev_now' ?_)
    apply List.ext_getElem? ; intro j
    by_cases hj : j < n
    · exact ho j hj
    · rw [List.getElem?_eq_none (by omega), List.getElem?_eq_none (by omega)]
  | succ d ih =>
    intro n out hn hl ho
    refine Ev.step (fun k => by rw [laws_toByteS.l0]) ?_
    refine ev_pos (by omega) (ev_pos (by omega) (ev_pos (by omega) ?_))
    rw [w64 (by omega) (by omega)]
    refine ih (n + 1) _ (by omega) (by simp [hl]) ?_
    intro j hj
    rw [Int.toNat_natCast, List.getElem?_set, rd_lt (by omega)]
    by_cases e : n = j
    · subst e; rw [if_pos rfl, if_pos (by omega), List.getElem?_eq_getElem (by omega)]
    · rw [if_neg e]; exact ho j (by omega)
theorem laws_toByteS_ev (xs : List Int) (hm : xs.length ≤ 140737488355328) : Ev (fun k => laws_toByteS.f k xs) xs := by
  unfold laws_toByteS.f
  refine ev_pos (by omega) (ev_pos (by omega) ?_)
  exact laws_toByteS_l0 xs hm xs.length 0 _ (by omega) (by simp) (by simp)
theorem laws_toFrame_ev (a : Int) (l : List Int) (hm : l.length ≤ 35184372088832) : Ev (fun k => laws_toFrame.f k a l) (a, l) := by
  unfold laws_toFrame.f
  exact ev_bind (laws_toByteS_ev l (by omega)) (ev_now _)
theorem impl_within_f (a b c : Int) : impl_within.f a b c = some (decide (b ≤ a ∧ a ≤ c)) := by
  unfold impl_within.f
  by_cases h : b ≤ a <;> simp [h]
theorem impl_FrameOk_f (a : Int) (l : List Int) : impl_FrameOk.f a l = some (decide (0 ≤ a ∧ a ≤ 255 ∧ l.length ≤ 8000)) := by
  unfold impl_FrameOk.f
  rw [impl_within_f, Option.bind_some]
  by_cases h : 0 ≤ a ∧ a ≤ 255
  · rw [if_pos (by simp [h])]; congr 1; simp [h]; omega
  · rw [if_neg (by simp; omega)]; congr 1; exact (decide_eq_false (by omega)).symm
theorem impl_VarOf_l0 : ∀ (f n : Nat) (acc : List Int), n < 128 ^ (f + 1) → f ≤ 8 → acc.length + f ≤ 100 → Ev (fun k => impl_VarOf.l0 k (n : Int) acc) (acc ++ varB f n) := by
  intro f
  induction f with
  | zero =>
    intro n acc hn hf hl
    refine Ev.step (fun k => by rw [impl_VarOf.l0]) ?_
    refine ev_neg (by omega) (ev_pos (by omega) (ev_now' rfl))
  | succ f ih =>
    intro n acc hn hf hl
    refine Ev.step (fun k => by rw [impl_VarOf.l0]) ?_
    have hp : 128 ^ (f + 1) ≤ 128 ^ 8 := Nat.pow_le_pow_right (by decide) (by omega)
    have hpp : 128 ^ (f + 1 + 1) = 128 ^ (f + 1) * 128 := Nat.pow_succ ..
    have hq : n / 128 < 128 ^ (f + 1) := by rw [Nat.div_lt_iff_lt_mul (by decide)]; omega
    by_cases h : 128 ≤ n
    · refine ev_pos (by omega) (ev_pos (by omega) ?_)
      have e1 : (n : Int) / 128 = ((n / 128 : Nat) : Int) := by omega
      have e2 : Go.bits .or .i64 (Go.bits .and .i64 (n : Int) 127) 128 = ((128 + n % 128 : Nat) : Int) := by
        rw [i64_and127, show (n : Int) % 128 = ((n % 128 : Nat) : Int) by omega, show (128 : Int) = ((128 : Nat) : Int) from rfl, or_i64 _ _ (by omega) (by decide)]
        congr 1
        have := Nat.two_pow_add_eq_or_of_lt (i := 7) (b := n % 128) (by omega) 1
        rw [Nat.or_comm]
        simpa using this.symm
      rw [e1, e2]
      refine ev_eq (ih (n / 128) _ hq (by omega) (by simp; omega)) ?_
      rw [varB, if_pos h, List.append_assoc, List.singleton_append]
      congr 2
      omega
    · refine ev_neg (by omega) (ev_pos (by omega) (ev_now' ?_))
      rw [varB, if_neg h]
theorem impl_VarOf_ev (n : Nat) (h : n ≤ 4294967295) : Ev (fun k => impl_VarOf.f k (n : Int)) (varB 4 n) := by
  unfold impl_VarOf.f
  refine ev_some (impl_within_f _ _ _) (ev_pos (by simp; omega) ?_)
  exact impl_VarOf_l0 4 n [] (by omega) (by omega) (by simp)
theorem impl_VarOf_bad (a : Int) (h : a < 0 ∨ 4294967295 < a) : Ev (fun k => impl_VarOf.f k a) [] := by
  unfold impl_VarOf.f
  exact ev_some (impl_within_f _ _ _) (ev_neg (by simp; omega) (ev_now _))
theorem impl_crc_l1 (xs : List Int) (m : Int) (i : Nat) (r : Int) : ∀ (d j c : Nat), j + d = 8 → c < 2 ^ 32 → Ev (fun k => impl_crc.l0 k ((crcIter d c : Nat) : Int) xs m (wrap64 ((i : Int) + 1))) r → Ev (fun k => impl_crc.l1 k (c : Int) xs m (i : Int) (j : Int)) r := by
  intro d
  induction d with
  | zero =>
    intro j c hj hc h
    refine Ev.step (fun k => by rw [impl_crc.l1]) ?_
    exact ev_neg (by omega) h
  | succ d ih =>
    intro j c hj hc h
    refine Ev.step (fun k => by rw [impl_crc.l1]) ?_
    have e2 : (c : Int) / 2 = ((c / 2 : Nat) : Int) := by omega
    have hs := crcStep_lt hc
    have e3 : (((c % 2 : Nat) : Int) * 3988292384) % 4294967296 = ((c % 2 * 3988292384 : Nat) : Int) := by omega
    rw [and1_u32 c hc, e2, e3, xor_u32 _ _ (by omega) (by omega), w64 (n := (j : Int) + 1) (by omega) (by omega)]
    refine ev_pos (by omega) ?_
    have e : crcStep c = (c / 2) ^^^ (c % 2 * 3988292384) := by
      unfold crcStep
      split
      · rename_i o; rw [o]
      · have o : c % 2 = 0 := by omega
        rw [o]; simp
    rw [← e]
    exact ih (j + 1) _ (by omega) hs h
theorem impl_crc_l0 (xs : List Int) (hm : xs.length ≤ 1099511627776) (hb : ∀ b ∈ xs, 0 ≤ b ∧ b < 256) : ∀ (d n c : Nat), n + d = xs.length → c < 2 ^ 32 → Ev (fun k => impl_crc.l0 k (c : Int) xs (xs.length : Int) (n : Int)) ((crcAll ((xs.drop n).map Int.toNat) c ^^^ 4294967295 : Nat) : Int) := by
  intro d
  induction d with
  | zero =>
    intro n c hn hc
    refine Ev.step (fun k => by rw [impl_crc.l0]) ?_
    refine ev_neg (by omega) (ev_now' ?_)
    have hlt : c ^^^ 4294967295 < 2 ^ 32 := Nat.xor_lt_two_pow hc (by decide)
    rw [List.drop_eq_nil_of_le (by omega), show (4294967295 : Int) = ((4294967295 : Nat) : Int) from rfl, xor_u32 _ _ (by omega) (by decide), w64 (by omega) (by omega)]
    rfl
  | succ d ih =>
    intro n c hn hc
    refine Ev.step (fun k => by rw [impl_crc.l0]) ?_
    refine ev_pos (by omega) (ev_pos (by omega) (ev_pos (by omega) ?_))
    have hx := hb _ (List.getElem_mem (show n < xs.length by omega))
    rw [rd_lt (show n < xs.length by omega)]
    have e : xs[n] % 4294967296 = ((xs[n].toNat : Nat) : Int) := by omega
    rw [e, xor_u32 _ _ (by omega) (by omega)]
    have hlt : c ^^^ xs[n].toNat < 2 ^ 32 := Nat.xor_lt_two_pow hc (by omega)
    refine impl_crc_l1 xs _ n _ 8 0 _ (by omega) hlt ?_
    rw [w64 (n := (n : Int) + 1) (by omega) (by omega)]
    refine ev_eq (ih (n + 1) _ (by omega) (crcIter_lt hlt)) ?_
    rw [List.drop_eq_getElem_cons (show n < xs.length by omega), List.map_cons, crcAll]
theorem impl_crc_ev (xs : List Int) (hm : xs.length ≤ 1099511627776) (hb : ∀ b ∈ xs, 0 ≤ b ∧ b < 256) : Ev (fun k => impl_crc.f k xs) ((crcOf xs : Nat) : Int) := by
  unfold impl_crc.f
  exact impl_crc_l0 xs hm hb xs.length 0 4294967295 (by omega) (by decide)
theorem impl_FrameOf_l0 (p : List Int) (c : Nat) (hp : p.length ≤ 1000000) : ∀ (d i : Nat), i + d = 4 → Ev (fun k => impl_FrameOf.l0 k (p ++ tab i fun i => ((c / 2 ^ (8 * i) % 256 : Nat) : Int)) (c : Int) (i : Int)) (p ++ four c) := by
  intro d
  induction d with
  | zero =>
    intro i hi
    have e : i = 4 := by omega
    subst e
    refine Ev.step (fun k => by rw [impl_FrameOf.l0]) ?_
    exact ev_neg (by omega) (ev_now _)
  | succ d ih =>
    intro i hi
    refine Ev.step (fun k => by rw [impl_FrameOf.l0]) ?_
    have e1 : wrap64 (8 * (i : Int)) = ((8 * i : Nat) : Int) := by rw [w64 (by omega) (by omega)]; omega
    have e2 : shr .i64 (c : Int) ((8 * i : Nat) : Int) % 256 = ((c / 2 ^ (8 * i) % 256 : Nat) : Int) := by
      unfold shr
      rw [Int.toNat_natCast, Nat.min_eq_left (by simp [IntKind.bits]; omega), show ((2 : Int) ^ (8 * i)) = ((2 ^ (8 * i) : Nat) : Int) by simp]
      rfl
    rw [e1, e2, w64 (by omega) (by omega), List.append_assoc, ← tab_succ (f := fun i => ((c / 2 ^ (8 * i) % 256 : Nat) : Int))]
    refine ev_pos (by omega) (ev_pos (by omega) (ev_pos (by rw [List.length_append, tab_length]; omega) ?_))
    exact ih (i + 1) (by omega)
theorem impl_FrameOf_ev (a : Int) (l : List Int) (hb : ∀ b ∈ l, 0 ≤ b ∧ b < 256) : Ev (fun k => impl_FrameOf.f k a l) (frameR a l) := by
  unfold impl_FrameOf.f frameR
  refine ev_some (impl_FrameOk_f a l) (ev_ite (fun h => ?_) (fun h => ?_))
  · have h' := of_decide_eq_true h
    rw [if_pos h']
    have hv := (varB_length 4 l.length).2
    have hp := frameP_length a l
    refine ev_some rfl (ev_bind (impl_VarOf_ev l.length (by omega)) (ev_pos (by simp; omega) (ev_some rfl (ev_pos (by simp; omega) (ev_some rfl ?_)))))
    refine ev_bind (impl_crc_ev (frameP a l) (by omega) (frameP_mem a l hb)) ?_
    have h := impl_FrameOf_l0 (frameP a l) (crcOf (frameP a l)) (by omega) 4 0 (by omega)
    rw [show (tab 0 fun i => ((crcOf (frameP a l) / 2 ^ (8 * i) % 256 : Nat) : Int)) = [] from rfl, List.append_nil] at h
    exact h
  · have h' : ¬ (0 ≤ a ∧ a ≤ 255 ∧ l.length ≤ 8000) := fun g => h (decide_eq_true g)
    rw [if_neg h']; exact ev_now _
theorem impl_FramesOf_l0 (l : List S27) (hb : bodiesOk l) (hm : l.length ≤ 1048576) : ∀ (d n : Nat) (out : List Int), n + d = l.length → out.length ≤ 8000 → Ev (fun k => impl_FramesOf.l0 k out l (l.length : Int) (n : Int)) (framesGo out (l.drop n)) := by
  intro d
  induction d with
  | zero =>
    intro n out hn ho
    rw [List.drop_eq_nil_of_le (by omega), framesGo]
    exact Ev.step (fun k => by rw [impl_FramesOf.l0]) (ev_neg (by omega) (ev_now _))
  | succ d ih =>
    intro n out hn ho
    have hlt : n < l.length := by omega
    rw [List.drop_eq_getElem_cons hlt, framesGo]
    refine Ev.step (fun k => by rw [impl_FramesOf.l0]) (ev_pos (by omega) (ev_pos (by omega) (ev_pos (by omega) ?_)))
    rw [rd_T27_lt hlt]
    have hf := frameR_length l[n].f0 l[n].f1
    refine ev_bind (impl_FrameOf_ev _ _ (hb _ (List.getElem_mem hlt))) ?_
    generalize frameR l[n].f0 l[n].f1 = t at *
    rw [w64 (n := (out.length : Int) + (t.length : Int)) (by omega) (by omega), w64 (n := (n : Int) + 1) (by omega) (by omega)]
    refine ev_ite (fun h => ?_) (fun h => ev_ite (fun h1 => ?_) (fun h1 => ev_pos (by omega) ?_))
    · rw [if_pos (by omega)]; exact ev_now _
    · rw [if_pos (by omega)]; exact ev_now _
    · rw [if_neg (by omega)]
      exact ih (n + 1) _ (by omega) (by rw [List.length_append]; omega)
theorem impl_FramesOf_ev (l : List S27) (hb : bodiesOk l) (hm : l.length ≤ 1048576) : Ev (fun k => impl_FramesOf.f k l) (framesGo [] l) := by
  have h := impl_FramesOf_l0 l hb hm l.length 0 [] (by omega) (by simp)
  rw [List.drop_zero] at h
  exact h
theorem laws_eqFrame_ev (a : Int) (l : List Int) (b : Int) (m : List Int) (hm : l.length ≤ 140737488355328) : Ev (fun k => laws_eqFrame.f k a l b m) (decide (a = b ∧ l = m)) := by
  unfold laws_eqFrame.f
  refine ev_ite (fun h => ev_bind (laws_eqByteS_ev l m hm) (ev_ite (fun h' => ev_now' ?_) (fun h' => ev_now' ?_))) (fun h => ev_now' ?_)
  · simp at h'; simp [h, h']
  · simp at h'; simp [h']
  · simp [h]
def sizeF : List S27 → Nat
  | [] => 0
  | x :: xs => 1 + x.f1.length + sizeF xs
theorem sizeF_append : ∀ a b : List S27, sizeF (a ++ b) = sizeF a + sizeF b
  | [], b => by rw [List.nil_append, sizeF, Nat.zero_add]
  | x :: xs, b => by rw [List.cons_append, sizeF, sizeF, sizeF_append xs b]; omega
theorem sizeF_mem : ∀ (l : List S27) (x : S27), x ∈ l → x.f1.length < sizeF l
  | y :: ys, x, h => by
    rw [sizeF]
    rcases List.mem_cons.1 h with g | g
    · subst g; omega
    · have := sizeF_mem ys x g; omega
theorem sizeF_len : ∀ l : List S27, l.length ≤ sizeF l
  | [] => Nat.le_refl _
  | x :: xs => by have := sizeF_len xs; rw [sizeF, List.length_cons]; omega
theorem rdT_lt {xs : List S27} {n : Nat} (h : n < xs.length) : rd_T27 xs (n : Int) = xs[n] := by simp [rd_T27, h]
theorem rdT_mid (pre : List S27) (x : S27) (xs : List S27) : rd_T27 (pre ++ x :: xs) (pre.length : Int) = x := by rw [rdT_lt (by simp)]; simp
theorem laws_eqFrameS_l0 (l : List S27) (hm : sizeF l ≤ 1099511627776) : ∀ (d n : Nat), n + d = l.length → Ev (fun k => laws_eqFrameS.l0 k l l (n : Int)) true := by
  have hl := sizeF_len l
  intro d
  induction d with
  | zero => intro n hn; exact Ev.step (fun k => by rw [laws_eqFrameS.l0]) (ev_neg (by omega) (ev_now _))
  | succ d ih =>
    intro n hn
    have hlt : n < l.length := by omega
    refine Ev.step (fun k => by rw [laws_eqFrameS.l0]) (ev_pos (by omega) (ev_pos (by omega) (ev_pos (by omega) ?_)))
    rw [rdT_lt hlt]
    have hs := sizeF_mem l l[n] (List.getElem_mem hlt)
    refine ev_bind (laws_eqFrame_ev l[n].f0 l[n].f1 l[n].f0 l[n].f1 (by omega)) (ev_pos (by simp) ?_)
    rw [w64 (n := (n : Int) + 1) (by omega) (by omega)]
    exact ih (n + 1) (by omega)
theorem laws_eqFrameS_ev (l : List S27) (hm : sizeF l ≤ 1099511627776) : Ev (fun k => laws_eqFrameS.f k l l) true := by
  unfold laws_eqFrameS.f
  exact ev_pos rfl (laws_eqFrameS_l0 l hm l.length 0 (by omega))
def markFL : Nat → List S27 → List S27
  | _, [] => []
  | a, x :: xs => ⟨(a : Int), marked (fun x => x % 256) x.f1.length (a + 1)⟩ :: markFL (a + 1 + x.f1.length) xs
theorem laws_markFrameS_l0 : ∀ (rest pre : List S27) (a : Nat), a + sizeF rest ≤ 1099511627776 → pre.length ≤ a → Ev (fun k => laws_markFrameS.l0 k (pre ++ rest) (a : Int) (pre.length : Int)) (((a + sizeF rest : Nat) : Int), pre ++ markFL a rest)
  | [], pre, a, _, _ => by
    rw [markFL, sizeF, Nat.add_zero, List.append_nil]
    exact Ev.step (fun k => by rw [laws_markFrameS.l0]) (ev_neg (by omega) (ev_now _))
  | x :: xs, pre, a, h, hp => by
    rw [sizeF] at h
    have hx := sizeF_len xs
    refine Ev.step (fun k => by rw [laws_markFrameS.l0]) (ev_pos (by simp; omega) (ev_pos (by omega) ?_))
    rw [rdT_mid, w64 (n := (a : Int) + 1) (by omega) (by omega), show (a : Int) + 1 = ((a + 1 : Nat) : Int) by omega]
    refine ev_bind (laws_markByteS_ev x.f1 (a + 1) (by omega)) ?_
    rw [w64 (n := (pre.length : Int) + 1) (by omega) (by omega), Int.toNat_natCast]
    have e : (pre ++ x :: xs).set pre.length (⟨(a : Int), marked (fun x => x % 256) x.f1.length (a + 1)⟩ : S27) = (pre ++ [⟨(a : Int), marked (fun x => x % 256) x.f1.length (a + 1)⟩]) ++ xs := by
      rw [List.set_append_right _ _ (Nat.le_refl _), Nat.sub_self, List.set_cons_zero, List.append_assoc]; rfl
    have ih := laws_markFrameS_l0 xs (pre ++ [⟨(a : Int), marked (fun x => x % 256) x.f1.length (a + 1)⟩]) (a + 1 + x.f1.length) (by omega) (by rw [List.length_append, List.length_singleton]; omega)
    rw [List.length_append, List.length_singleton, List.append_assoc _ _ (markFL _ _)] at ih
    refine ev_eq (s := (((a + 1 + x.f1.length + sizeF xs : Nat) : Int), pre ++ markFL a (x :: xs))) ?_ (by rw [sizeF, show a + 1 + x.f1.length + sizeF xs = a + (1 + x.f1.length + sizeF xs) by omega])
    show Ev (fun k => laws_markFrameS.l0 k ((pre ++ x :: xs).set pre.length (⟨(a : Int), marked (fun x => x % 256) x.f1.length (a + 1)⟩ : S27)) ((a + 1 + x.f1.length : Nat) : Int) ((pre.length : Int) + 1)) _
    rw [e]
    exact ih
theorem laws_markFrameS_ev (l : List S27) (a : Nat) (h : a + sizeF l ≤ 1099511627776) : Ev (fun k => laws_markFrameS.f k l (a : Int)) (((a + sizeF l : Nat) : Int), markFL a l) := laws_markFrameS_l0 l [] a h (by simp)

def toF (l : List S24) : List S27 := l.map fun x => ⟨x.f0, x.f1⟩
def sizeB : List S24 → Nat
  | [] => 0
  | x :: xs => x.f1.length + sizeB xs
theorem rd_T24_lt {xs : List S24} {n : Nat} (h : n < xs.length) : rd_T24 xs (n : Int) = xs[n] := by simp [rd_T24, h]
theorem sizeB_mem : ∀ (l : List S24) (x : S24), x ∈ l → x.f1.length ≤ sizeB l
  | y :: ys, x, h => by
    rw [sizeB]
    rcases List.mem_cons.1 h with g | g
    · subst g; omega
    · have := sizeB_mem ys x g; omega
theorem toF_length (l : List S24) : (toF l).length = l.length := by unfold toF; rw [List.length_map]
theorem sizeF_toF : ∀ l : List S24, sizeF (toF l) = l.length + sizeB l
  | [] => rfl
  | x :: xs => by
    have := sizeF_toF xs
    show 1 + x.f1.length + sizeF (toF xs) = _
    rw [this, sizeB, List.length_cons]; omega
theorem laws_szFrameS_l0 (l : List S24) (hl : ∀ x ∈ l, x.f1.length ≤ maxLen) (hm : l.length ≤ maxLen) : ∀ (d n a : Nat), n + d = l.length → a ≤ 1048576 → Ev (fun k => laws_szFrameS.l0 k l (a : Int) (n : Int)) (if a < sizeB (l.drop n) then -1 else ((a - sizeB (l.drop n) : Nat) : Int)) := by
  unfold maxLen at hm
  intro d
  induction d with
  | zero =>
    intro n a hn ha
    rw [List.drop_eq_nil_of_le (by omega), sizeB]
    refine Ev.step (fun k => by rw [laws_szFrameS.l0]) ?_
    refine ev_neg (by omega) (ev_now' ?_)
    rw [if_neg (by omega), Nat.sub_zero]
  | succ d ih =>
    intro n a hn ha
    have hlt : n < l.length := by omega
    rw [List.drop_eq_getElem_cons hlt, sizeB]
    refine Ev.step (fun k => by rw [laws_szFrameS.l0]) ?_
    rw [rd_T24_lt hlt, w64 (n := (n : Int) + 1) (by omega) (by omega), show (n : Int) + 1 = ((n + 1 : Nat) : Int) by omega]
    refine ev_pos (by omega) (ev_pos (by omega) (ev_some (laws_szFrame_f _ _ a (hl _ (List.getElem_mem hlt)) (by omega)) ?_))
    by_cases h : a < l[n].f1.length
    · rw [if_pos h, if_pos (by omega)]
      exact ev_pos (by omega) (ev_now _)
    · rw [if_neg h]
      refine ev_neg (by omega) ?_
      have := ih (n + 1) (a - l[n].f1.length) (by omega) (by omega)
      refine ev_eq this ?_
      by_cases g : a - l[n].f1.length < sizeB (l.drop (n + 1))
      · rw [if_pos g, if_pos (by omega)]
      · rw [if_neg g, if_neg (by omega)]
        congr 1; omega
theorem laws_szFrameS_ev (l : List S24) (hl : ∀ x ∈ l, x.f1.length ≤ maxLen) (hm : l.length ≤ maxLen) : Ev (fun k => laws_szFrameS.f k l 1048576) (if 1048576 < l.length + sizeB l then -1 else ((1048576 - (l.length + sizeB l) : Nat) : Int)) := by
  have hm' := hm
  unfold maxLen at hm'
  unfold laws_szFrameS.f
  rw [w64 (by omega) (by omega)]
  refine ev_ite (fun h => ev_now' (by rw [if_pos (by omega)])) (fun h => ?_)
  rw [show (1048576 : Int) - (l.length : Int) = ((1048576 - l.length : Nat) : Int) by omega]
  have := laws_szFrameS_l0 l hl hm l.length 0 (1048576 - l.length) (by omega) (by omega)
  refine ev_eq this ?_
  rw [List.drop_zero]
  by_cases g : 1048576 - l.length < sizeB l
  · rw [if_pos g, if_pos (by omega)]
  · rw [if_neg g, if_neg (by omega)]
    congr 1; omega
theorem toF_get (l : List S24) (n : Nat) (h : n < l.length) : (toF l)[n]'(by rw [toF_length]; exact h) = ⟨l[n].f0, l[n].f1⟩ := by simp [toF]
theorem laws_toFrameS_l0 (l : List S24) (hm : l.length ≤ 1048576) (hb : sizeB l ≤ 1048576) : ∀ (d n : Nat), n + d = l.length → Ev (fun k => laws_toFrameS.l0 k l ((toF l).take n ++ List.replicate d z27) (n : Int)) (toF l) := by
  have hlf := toF_length l
  intro d
  induction d with
  | zero =>
    intro n hn
    refine Ev.step (fun k => by rw [laws_toFrameS.l0]) ?_
    refine ev_neg (by omega) (ev_now' ?_)
    rw [List.take_of_length_le (by omega), List.replicate_zero, List.append_nil]
  | succ d ih =>
    intro n hn
    have hlt : n < l.length := by omega
    have htl : ((toF l).take n).length = n := by rw [List.length_take]; omega
    refine Ev.step (fun k => by rw [laws_toFrameS.l0]) ?_
    rw [rd_T24_lt hlt, w64 (n := (n : Int) + 1) (by omega) (by omega), show (n : Int) + 1 = ((n + 1 : Nat) : Int) by omega]
    have hs := sizeB_mem l l[n] (List.getElem_mem hlt)
    refine ev_pos (by omega) (ev_pos (by omega) (ev_bind (laws_toFrame_ev l[n].f0 l[n].f1 (by omega)) (ev_pos (by rw [List.length_append, htl, List.length_replicate]; omega) ?_)))
    rw [Int.toNat_natCast]
    have e : ((toF l).take n ++ List.replicate (d + 1) z27).set n (⟨l[n].f0, l[n].f1⟩ : S27) = (toF l).take (n + 1) ++ List.replicate d z27 := by
      rw [List.set_append_right _ _ (by rw [htl]; exact Nat.le_refl _), htl, Nat.sub_self, List.replicate_succ, List.set_cons_zero, List.take_succ_eq_append_getElem (by omega), toF_get l n hlt, List.append_assoc, List.singleton_append]
    show Ev (fun k => laws_toFrameS.l0 k l (((toF l).take n ++ List.replicate (d + 1) z27).set n (⟨l[n].f0, l[n].f1⟩ : S27)) ((n + 1 : Nat) : Int)) (toF l)
    rw [e]
    exact ih (n + 1) (by omega)
theorem laws_toFrameS_ev (l : List S24) (hm : l.length ≤ 1048576) (hb : sizeB l ≤ 1048576) : Ev (fun k => laws_toFrameS.f k l) (toF l) := by
  unfold laws_toFrameS.f
  refine ev_pos (by omega) (ev_pos (by omega) ?_)
  have := laws_toFrameS_l0 l hm hb l.length 0 (by omega)
  rw [List.take_zero, List.nil_append] at this
  rw [Int.toNat_natCast]
  exact this
theorem FnExactFramesOf : laws_FnExactFramesOf.Pure := by
  intro l hl hw
  refine Ev.rounds ?_
  unfold laws_FnExactFramesOf.f
  have hz := laws_szFrameS_ev l (fun x hx => (hw x hx).1) hl
  refine ev_bind hz ?_
  by_cases hbig : 1048576 < l.length + sizeB l
  · rw [if_pos hbig]
    exact ev_pos (by omega) (ev_now _)
  rw [if_neg hbig]
  refine ev_neg (by omega) ?_
  have hm : l.length ≤ 1048576 := by omega
  have ht := laws_toFrameS_ev l hm (by omega)
  have hsz := sizeF_toF l
  have hbo : bodiesOk (toF l) := by
    intro x hx b hb
    obtain ⟨y, hy, rfl⟩ := List.mem_map.1 hx
    exact wf_u8 ((hw y hy).2 b hb)
  have hfl : (toF l).length ≤ 1048576 := by rw [toF_length]; exact hm
  have hs := spec_FramesOf_ev (toF l) hbo hfl
  have hi := impl_FramesOf_ev (toF l) hbo hfl
  have hr := framesGo_length (toF l) [] (by simp)
  have hq := laws_eqFrameS_ev (toF l) (by omega)
  have hk := laws_markFrameS_ev (toF l) 1 (by omega)
  generalize framesGo [] (toF l) = R at *
  obtain ⟨B, okb⟩ := R
  have hr : B.length ≤ 8000 := hr
  have hn : (okb != okb) = false := by simp
  have hqB := laws_eqByteS_ev B B (by omega)
  have k2 : Ev (fun k => laws_FnExactFramesOf.j2 k (marked (fun x => x % 256) B.length 1) ((1 + B.length : Nat) : Int) false) true := by
    refine Ev.step (fun k => by rw [laws_FnExactFramesOf.j2]) (ev_neg (by decide) ?_)
    exact ev_bind (laws_heldByteS_ev B.length 1 (by omega)) (ev_neg (by omega) (ev_pos rfl (ev_now _)))
  have k1 : Ev (fun k => laws_FnExactFramesOf.j1 k l B okb B false) true := by
    refine Ev.step (fun k => by rw [laws_FnExactFramesOf.j1]) (ev_neg (by decide) ?_)
    refine ev_bind (laws_markByteS_ev B 1 (by omega)) (ev_bind (laws_heldByteS_ev B.length 1 (by omega)) (ev_neg (by omega) (ev_pos rfl ?_)))
    refine ev_bind ht (ev_bind hi (ev_bind hqB (ev_pos (by simp) ?_)))
    rw [hn]
    exact k2
  have k0 : Ev (fun k => laws_FnExactFramesOf.j0 k l B okb (toF l) B okb false) true := by
    refine Ev.step (fun k => by rw [laws_FnExactFramesOf.j0]) (ev_neg (by decide) ?_)
    refine ev_bind ht (ev_bind hq (ev_pos rfl ?_))
    refine ev_bind hk (ev_neg (by omega) (ev_bind hqB (ev_pos (by simp) ?_)))
    rw [hn]
    exact k1
  refine ev_bind ht (ev_bind hs (ev_bind ht (ev_bind hi (ev_bind hqB (ev_pos (by simp) ?_)))))
  rw [hn]
  exact k0

end Go.Proofs.Ytebdjkdmmdninaa.Pure
