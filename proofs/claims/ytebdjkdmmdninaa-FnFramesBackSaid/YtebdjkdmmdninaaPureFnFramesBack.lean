/- The pure statement of the law FnFramesBack: the program's answers equal the reference's, for all arguments within the row's bounds. -/
import Derived.Test.YtebdjkdmmdninaaQFnFramesBackx7
import Derived.Test.YtebdjkdmmdninaaLib
namespace Go.Proofs.Ytebdjkdmmdninaa.Pure
open Go.RowKit Go.Proofs.Ytebdjkdmmdninaa.QFnFramesBack Go.Proofs.Ytebdjkdmmdninaa.Lib Go.Proofs.YtebdjkdmmdninaaW.PrintWords Go.Proofs.YtebdjkdmmdninaaW.PrintLast Go.Proofs.YtebdjkdmmdninaaW.PrintMore
set_option linter.unusedVariables false
set_option linter.unusedSimpArgs false

theorem spec_FrameOk_f (a : Int) (l : List Int) : spec_FrameOk.f a l = some (decide (0 ≤ a ∧ a ≤ 255 ∧ l.length ≤ 8000)) := by
  unfold spec_FrameOk.f
  by_cases h : 0 ≤ a
  · rw [if_pos (by omega)]
    by_cases h' : a ≤ 255
    · rw [if_pos h']; congr 1; simp [h, h']; omega
    · rw [if_neg h']; simp [h']
  · rw [if_neg (by omega)]; simp [h]
theorem spec_VarOf_l0 : ∀ (f n : Nat) (acc : List Int), n < 128 ^ (f + 1) → f ≤ 8 → acc.length + f ≤ 100 → Ev (fun k => spec_VarOf.l0 k (n : Int) acc) (acc ++ varB f n) := by
  intro f
  induction f with
  | zero =>
    intro n acc hn hf hl
    refine Ev.step (fun k => by rw [spec_VarOf.l0]) ?_
    refine ev_neg (by omega) (ev_pos (by omega) (ev_now' rfl))
  | succ f ih =>
    intro n acc hn hf hl
    refine Ev.step (fun k => by rw [spec_VarOf.l0]) ?_
    have hp : 128 ^ (f + 1) ≤ 128 ^ 8 := Nat.pow_le_pow_right (by decide) (by omega)
    have hpp : 128 ^ (f + 1 + 1) = 128 ^ (f + 1) * 128 := Nat.pow_succ ..
    have hq : n / 128 < 128 ^ (f + 1) := by rw [Nat.div_lt_iff_lt_mul (by decide)]; omega
    by_cases h : 128 ≤ n
    · refine ev_pos (by omega) (ev_pos (by omega) ?_)
      have e1 : Int.tdiv (n : Int) 128 = ((n / 128 : Nat) : Int) := tdiv_nat n 128
      have e2 : Int.tmod (n : Int) 128 = ((n % 128 : Nat) : Int) := tmod_nat n 128
      rw [e1, e2, w64 (by omega) (by omega), w64 (by omega) (by omega)]
      refine ev_eq (ih (n / 128) _ hq (by omega) (by simp; omega)) ?_
      rw [varB, if_pos h, List.append_assoc, List.singleton_append]
      congr 2
      omega
    · refine ev_neg (by omega) (ev_pos (by omega) (ev_now' ?_))
      rw [varB, if_neg h]
theorem spec_VarOf_ev (n : Nat) (h : n ≤ 4294967295) : Ev (fun k => spec_VarOf.f k (n : Int)) (varB 4 n) := by
  unfold spec_VarOf.f
  refine ev_neg (by omega) (Ev.step (fun k => by rw [spec_VarOf.j0]) (ev_neg (by simp; omega) ?_))
  exact spec_VarOf_l0 4 n [] (by omega) (by omega) (by simp)
theorem spec_VarOf_bad (a : Int) (h : a < 0 ∨ 4294967295 < a) : Ev (fun k => spec_VarOf.f k a) [] := by
  unfold spec_VarOf.f
  refine ev_ite (fun _ => Ev.step (fun k => by rw [spec_VarOf.j0]) (ev_pos rfl (ev_now _))) (fun _ => Ev.step (fun k => by rw [spec_VarOf.j0]) (ev_pos (by simp; omega) (ev_now _)))
def four (c : Nat) : List Int := tab 4 fun i => ((c / 2 ^ (8 * i) % 256 : Nat) : Int)
theorem spec_l04Four_f (c : Nat) (h : c < 2 ^ 32) : spec_l04Four.f (c : Int) = some (four c) := by
  unfold spec_l04Four.f
  congr 1
  rw [show Int.tmod (c : Int) 256 = ((c % 256 : Nat) : Int) from tmod_nat c 256]
  rw [show Int.tdiv (c : Int) 256 = ((c / 256 : Nat) : Int) from tdiv_nat c 256, w64 (n := ((c / 256 : Nat) : Int)) (by omega) (by omega), show Int.tmod ((c / 256 : Nat) : Int) 256 = ((c / 256 % 256 : Nat) : Int) from tmod_nat (c / 256) 256]
  rw [show Int.tdiv (c : Int) 65536 = ((c / 65536 : Nat) : Int) from tdiv_nat c 65536, w64 (n := ((c / 65536 : Nat) : Int)) (by omega) (by omega), show Int.tmod ((c / 65536 : Nat) : Int) 256 = ((c / 65536 % 256 : Nat) : Int) from tmod_nat (c / 65536) 256]
  rw [show Int.tdiv (c : Int) 16777216 = ((c / 16777216 : Nat) : Int) from tdiv_nat c 16777216, w64 (n := ((c / 16777216 : Nat) : Int)) (by omega) (by omega), show Int.tmod ((c / 16777216 : Nat) : Int) 256 = ((c / 16777216 % 256 : Nat) : Int) from tmod_nat (c / 16777216) 256]
  have e : four c = [((c / 1 % 256 : Nat) : Int), ((c / 256 % 256 : Nat) : Int), ((c / 65536 % 256 : Nat) : Int), ((c / 16777216 % 256 : Nat) : Int)] := rfl
  rw [e]
  simp
theorem spec_Crc_l1 (xs : List Int) (i : Nat) (r : Int) : ∀ (d j c : Nat), j + d = 8 → c < 2 ^ 32 → Ev (fun k => spec_Crc.l0 k xs ((crcIter d c : Nat) : Int) (wrap64 ((i : Int) + 1))) r → Ev (fun k => spec_Crc.l1 k xs (c : Int) (i : Int) (j : Int)) r := by
  intro d
  induction d with
  | zero =>
    intro j c hj hc h
    refine Ev.step (fun k => by rw [spec_Crc.l1]) ?_
    exact ev_neg (by omega) h
  | succ d ih =>
    intro j c hj hc h
    refine Ev.step (fun k => by rw [spec_Crc.l1]) ?_
    have e1 : Int.tmod (c : Int) 2 = ((c % 2 : Nat) : Int) := tmod_nat c 2
    have e2 : Int.tdiv (c : Int) 2 = ((c / 2 : Nat) : Int) := tdiv_nat c 2
    rw [e1, e2, w64 (n := (j : Int) + 1) (by omega) (by omega), w64 (n := ((c / 2 : Nat) : Int)) (by omega) (by omega), show (3988292384 : Int) = ((3988292384 : Nat) : Int) from rfl, xor_i64 _ _ (by omega) (by decide)]
    have hs := crcStep_lt hc
    refine ev_pos (by omega) (ev_ite (fun o => ?_) (fun o => ?_))
    · have e : crcStep c = (c / 2) ^^^ 3988292384 := by unfold crcStep; rw [if_pos (by omega)]
      rw [← e]
      exact ih (j + 1) _ (by omega) hs h
    · have e : crcStep c = c / 2 := by unfold crcStep; rw [if_neg (by omega)]
      rw [← e]
      exact ih (j + 1) _ (by omega) hs h
theorem spec_Crc_l0 (xs : List Int) (hm : xs.length ≤ 16000) (hb : ∀ b ∈ xs, 0 ≤ b ∧ b < 256) : ∀ (d n c : Nat), n + d = xs.length → c < 2 ^ 32 → Ev (fun k => spec_Crc.l0 k xs (c : Int) (n : Int)) ((crcAll ((xs.drop n).map Int.toNat) c ^^^ 4294967295 : Nat) : Int) := by
  intro d
  induction d with
  | zero =>
    intro n c hn hc
    refine Ev.step (fun k => by rw [spec_Crc.l0]) ?_
    refine ev_neg (by omega) (ev_now' ?_)
    rw [List.drop_eq_nil_of_le (by omega), show (4294967295 : Int) = ((4294967295 : Nat) : Int) from rfl, xor_i64 _ _ (by omega) (by decide)]
    rfl
  | succ d ih =>
    intro n c hn hc
    refine Ev.step (fun k => by rw [spec_Crc.l0]) ?_
    refine ev_pos (by omega) (ev_pos (by omega) ?_)
    have hx := hb _ (List.getElem_mem (show n < xs.length by omega))
    rw [rd_lt (show n < xs.length by omega), w64 (n := xs[n]) (by omega) (by omega)]
    have e : xs[n] = ((xs[n].toNat : Nat) : Int) := by omega
    rw [e, xor_i64 _ _ (by omega) (by omega)]
    have hlt : c ^^^ xs[n].toNat < 2 ^ 32 := Nat.xor_lt_two_pow hc (by omega)
    refine spec_Crc_l1 xs n _ 8 0 _ (by omega) hlt ?_
    rw [w64 (n := (n : Int) + 1) (by omega) (by omega)]
    refine ev_eq (ih (n + 1) _ (by omega) (crcIter_lt hlt)) ?_
    rw [List.drop_eq_getElem_cons (show n < xs.length by omega), List.map_cons, crcAll]
theorem spec_Crc_ev (xs : List Int) (hm : xs.length ≤ 16000) (hb : ∀ b ∈ xs, 0 ≤ b ∧ b < 256) : Ev (fun k => spec_Crc.f k xs) ((crcOf xs : Nat) : Int) := by
  unfold spec_Crc.f
  refine ev_neg (by omega) ?_
  exact spec_Crc_l0 xs hm hb xs.length 0 4294967295 (by omega) (by decide)
theorem spec_Crc_bad (xs : List Int) (hm : 16000 < xs.length) : Ev (fun k => spec_Crc.f k xs) (-1) := by
  unfold spec_Crc.f
  exact ev_pos (by omega) (ev_now _)
def frameP (a : Int) (l : List Int) : List Int := ([90, a % 256] ++ varB 4 l.length) ++ l
def frameL (a : Int) (l : List Int) : List Int := frameP a l ++ four (crcOf (frameP a l))
def frameR (a : Int) (l : List Int) : List Int := if 0 ≤ a ∧ a ≤ 255 ∧ l.length ≤ 8000 then frameL a l else []
theorem frameP_mem (a : Int) (l : List Int) (hb : ∀ b ∈ l, 0 ≤ b ∧ b < 256) : ∀ b ∈ frameP a l, 0 ≤ b ∧ b < 256 := by
  intro b h
  rcases List.mem_append.1 h with h | h
  · rcases List.mem_append.1 h with h | h
    · simp at h; omega
    · exact varB_mem _ _ b h
  · exact hb b h
theorem frameP_length (a : Int) (l : List Int) : (frameP a l).length = 2 + (varB 4 l.length).length + l.length := by
  unfold frameP; simp; omega
theorem four_mem (c : Nat) : ∀ b ∈ four c, 0 ≤ b ∧ b < 256 := by
  intro b h
  unfold four tab at h
  obtain ⟨i, _, rfl⟩ := List.mem_map.1 h
  omega
theorem frameL_mem (a : Int) (l : List Int) (hb : ∀ b ∈ l, 0 ≤ b ∧ b < 256) : ∀ b ∈ frameL a l, 0 ≤ b ∧ b < 256 := by
  intro b h
  rcases List.mem_append.1 h with h | h
  · exact frameP_mem a l hb b h
  · exact four_mem _ b h
theorem frameL_length (a : Int) (l : List Int) : (frameL a l).length = 2 + (varB 4 l.length).length + l.length + 4 := by
  unfold frameL; rw [List.length_append, frameP_length]; rfl
theorem frameR_length (a : Int) (l : List Int) : (frameR a l).length ≤ 8011 := by
  unfold frameR
  split
  · rename_i h
    have := (varB_length 4 l.length).2
    rw [frameL_length]; omega
  · simp
theorem spec_FrameOf_ev (a : Int) (l : List Int) (hb : ∀ b ∈ l, 0 ≤ b ∧ b < 256) : Ev (fun k => spec_FrameOf.f k a l) (frameR a l) := by
  unfold spec_FrameOf.f frameR
  refine ev_some (spec_FrameOk_f a l) (ev_ite (fun h => ?_) (fun h => ?_))
  · have h' := of_decide_eq_true h
    rw [if_pos h']
    have hv := (varB_length 4 l.length).2
    have hp := frameP_length a l
    refine ev_some rfl (ev_bind (spec_VarOf_ev l.length (by omega)) (ev_pos (by simp; omega) (ev_some rfl (ev_pos (by simp; omega) (ev_some rfl ?_)))))
    refine ev_bind (spec_Crc_ev (frameP a l) (by omega) (frameP_mem a l hb)) (ev_some (spec_l04Four_f _ (crcOf_lt (frameP_mem a l hb))) ?_)
    refine ev_pos ?_ (ev_now _)
    have e4 : (four (crcOf (frameP a l))).length = 4 := rfl
    show (frameP a l).length + (four (crcOf (frameP a l))).length < 140737488355328
    omega
  · have h' : ¬ (0 ≤ a ∧ a ≤ 255 ∧ l.length ≤ 8000) := fun g => h (decide_eq_true g)
    rw [if_neg h']; exact ev_now _
def framesGo (out : List Int) : List S27 → List Int × Bool
  | [] => (out, true)
  | x :: xs => if (frameR x.f0 x.f1).length = 0 ∨ 8000 < out.length + (frameR x.f0 x.f1).length then ([], false) else framesGo (out ++ frameR x.f0 x.f1) xs
def bodiesOk (l : List S27) : Prop := ∀ x ∈ l, ∀ b ∈ x.f1, 0 ≤ b ∧ b < 256
theorem rd_T27_lt {xs : List S27} {n : Nat} (h : n < xs.length) : rd_T27 xs (n : Int) = xs[n] := by simp [rd_T27, h]
theorem framesGo_length : ∀ (l : List S27) (out : List Int), out.length ≤ 8000 → (framesGo out l).1.length ≤ 8000
  | [], out, h => h
  | x :: xs, out, h => by
    rw [framesGo]
    split
    · simp
    · rename_i g
      exact framesGo_length xs _ (by rw [List.length_append]; omega)
theorem spec_FramesOf_l0 (l : List S27) (hb : bodiesOk l) (hm : l.length ≤ 1048576) : ∀ (d n : Nat) (out : List Int), n + d = l.length → out.length ≤ 8000 → Ev (fun k => spec_FramesOf.l0 k l out (n : Int)) (framesGo out (l.drop n)) := by
  intro d
  induction d with
  | zero =>
    intro n out hn ho
    rw [List.drop_eq_nil_of_le (by omega), framesGo]
    exact Ev.step (fun k => by rw [spec_FramesOf.l0]) (ev_neg (by omega) (ev_now _))
  | succ d ih =>
    intro n out hn ho
    have hlt : n < l.length := by omega
    rw [List.drop_eq_getElem_cons hlt, framesGo]
    refine Ev.step (fun k => by rw [spec_FramesOf.l0]) (ev_pos (by omega) (ev_pos (by omega) ?_))
    rw [rd_T27_lt hlt]
    have hf := frameR_length l[n].f0 l[n].f1
    refine ev_bind (spec_FrameOf_ev _ _ (hb _ (List.getElem_mem hlt))) ?_
    generalize frameR l[n].f0 l[n].f1 = t at *
    rw [w64 (n := 8000 - (out.length : Int)) (by omega) (by omega), w64 (n := (n : Int) + 1) (by omega) (by omega)]
    refine ev_ite (fun h => ?_) (fun h => ev_ite (fun h1 => ?_) (fun h1 => ev_pos (by omega) ?_))
    · rw [if_pos (by omega)]; exact ev_now _
    · rw [if_pos (by omega)]; exact ev_now _
    · rw [if_neg (by omega)]
      exact ih (n + 1) _ (by omega) (by rw [List.length_append]; omega)
theorem spec_FramesOf_ev (l : List S27) (hb : bodiesOk l) (hm : l.length ≤ 1048576) : Ev (fun k => spec_FramesOf.f k l) (framesGo [] l) := by
  have h := spec_FramesOf_l0 l hb hm l.length 0 [] (by omega) (by simp)
  rw [List.drop_zero] at h
  exact h
theorem rd_all {l : List Int} {P : Int → Prop} (h : ∀ x ∈ l, P x) {v : Int} (h0 : 0 ≤ v) (h1 : v < l.length) : P (rd l v) := by
  rw [rd_of h0 h1]; exact h _ (List.getElem_mem _)
/-- what a drawing keeps of its state: the place, the seed -/
def drawOk (p s : Int) : Prop := 0 ≤ p ∧ p ≤ 1000000000000 ∧ 0 ≤ s ∧ s < 70000
theorem pick_ok (code : List Int) (hb : ∀ b ∈ code, 0 ≤ b ∧ b < 256) (p s a : Int) (h : drawOk p s) : ∃ v q s', spec_l01Cur_pick.f code p s a = some (v, q, s') ∧ p ≤ q ∧ q ≤ p + 1 ∧ 0 ≤ s' ∧ s' < 70000 ∧ 0 ≤ v ∧ (v < a ∨ v = 0) := by
  obtain ⟨h1, h2, h3, h4⟩ := h
  unfold spec_l01Cur_pick.f
  by_cases c1 : a < 2
  · rw [if_pos c1]
    exact ⟨0, p, s, rfl, by omega, by omega, h3, h4, by omega, Or.inr rfl⟩
  · rw [if_neg c1]
    have e3 : wrap64 (s * 1103) = s * 1103 := w64 (by omega) (by omega)
    have e4 : wrap64 (s * 1103 + 12345) = s * 1103 + 12345 := w64 (by omega) (by omega)
    have e5 : Int.tmod (s * 1103 + 12345) 65521 = (s * 1103 + 12345) % 65521 := Int.tmod_eq_emod_of_nonneg (by omega)
    have e2 : wrap64 (p + 1) = p + 1 := w64 (by omega) (by omega)
    by_cases c2 : p < (code.length : Int)
    · rw [if_pos c2, if_pos h1, if_neg (by omega), e2]
      have hx : 0 ≤ rd code p ∧ rd code p < 256 := by rw [rd_of h1 c2]; exact hb _ (List.getElem_mem _)
      rw [w64 (by omega) (by omega), Int.tmod_eq_emod_of_nonneg (by omega)]
      exact ⟨_, _, _, rfl, by omega, by omega, h3, h4, Int.emod_nonneg _ (by omega), Or.inl (Int.emod_lt_of_pos _ (by omega))⟩
    · rw [if_neg c2, e2, e3, e4, e5]
      by_cases c3 : (code.length : Int) > 0
      · have e6 : Int.tmod p (code.length : Int) = p % (code.length : Int) := Int.tmod_eq_emod_of_nonneg h1
        have m1 := Int.emod_nonneg p (b := (code.length : Int)) (by omega)
        have m2 := Int.emod_lt_of_pos p c3
        rw [if_pos c3, if_neg (by omega), e6, if_pos m1, if_pos m2, if_neg (by omega)]
        have hx : 0 ≤ rd code (p % (code.length : Int)) ∧ rd code (p % (code.length : Int)) < 256 := by rw [rd_of m1 m2]; exact hb _ (List.getElem_mem _)
        have e7 : Int.tdiv ((s * 1103 + 12345) % 65521) 7 = (s * 1103 + 12345) % 65521 / 7 := Int.tdiv_eq_ediv_of_nonneg (by omega)
        rw [e7, w64 (n := (s * 1103 + 12345) % 65521 / 7) (by omega) (by omega), w64 (n := rd code (p % (code.length : Int))) (by omega) (by omega), w64 (by omega) (by omega), Int.tmod_eq_emod_of_nonneg (by omega)]
        exact ⟨_, _, _, rfl, by omega, by omega, by omega, by omega, Int.emod_nonneg _ (by omega), Or.inl (Int.emod_lt_of_pos _ (by omega))⟩
      · rw [if_neg c3, if_neg (by omega), Int.zero_emod]
        exact ⟨_, _, _, rfl, by omega, by omega, by omega, by omega, by omega, Or.inr rfl⟩
theorem size_ok (code : List Int) (hb : ∀ b ∈ code, 0 ≤ b ∧ b < 256) (hm : code.length ≤ 1048576) (p s a : Int) (ha : 0 ≤ a ∧ a ≤ 1000000) (h : drawOk p s) : ∃ v q s', spec_l01Cur_size.f code p s a = some (v, q, s') ∧ p ≤ q ∧ q ≤ p + 1 ∧ 0 ≤ s' ∧ s' < 70000 ∧ 0 ≤ v ∧ v ≤ a := by
  unfold spec_l01Cur_size.f
  have e1 : wrap64 ((code.length : Int) / 8) = (code.length : Int) / 8 := w64 (by omega) (by omega)
  have e2 : wrap64 (1 + (code.length : Int) / 8) = 1 + (code.length : Int) / 8 := w64 (by omega) (by omega)
  have e3 : 0 ≤ mn a (1 + (code.length : Int) / 8) ∧ mn a (1 + (code.length : Int) / 8) ≤ a := by unfold mn; split <;> omega
  rw [e1, e2, w64 (by omega) (by omega)]
  obtain ⟨v1, q1, s1, e1, a1, b1, c1, d1, f1, g1⟩ := pick_ok code hb p s (mn a (1 + (code.length : Int) / 8) + 1) h
  rw [e1]
  exact ⟨_, _, _, rfl, a1, b1, c1, d1, f1, by rcases g1 with g | g <;> (show v1 ≤ a; omega)⟩
theorem bytes_l0_ok (code : List Int) (hb : ∀ b ∈ code, 0 ≤ b ∧ b < 256) : ∀ (d : Nat) (l : List Int) (p s : Int), d + l.length ≤ 1000 → drawOk p s → p + d ≤ 900000000000 → (∀ b ∈ l, 0 ≤ b ∧ b < 256) → ∃ l' q s', Ev (fun k => spec_l01Cur_bytes.l0 k l (d : Int) code p s) (l', q, s') ∧ p ≤ q ∧ q ≤ p + d ∧ 0 ≤ s' ∧ s' < 70000 ∧ l'.length ≤ l.length + d ∧ (∀ b ∈ l', 0 ≤ b ∧ b < 256) := by
  intro d
  induction d with
  | zero =>
    intro l p s hd h hp hw
    refine ⟨l, p, s, ?_, by omega, by omega, h.2.2.1, h.2.2.2, by omega, hw⟩
    exact Ev.step (fun k => by rw [spec_l01Cur_bytes.l0]) (ev_neg (by omega) (ev_now _))
  | succ d ih =>
    intro l p s hd h hp hw
    have hh := h.1
    obtain ⟨v1, q1, s1, e1, a1, b1, c1, d1, f1, g1⟩ := pick_ok code hb p s 256 h
    obtain ⟨l', q, s', k1, k2, k3, k4, k5, k6, k7⟩ := ih (l ++ [v1 % 256]) q1 s1 (by rw [List.length_append, List.length_singleton]; omega) ⟨by omega, by omega, c1, d1⟩ (by omega) (fun b hb2 => by
      rcases List.mem_append.1 hb2 with e | e
      · exact hw b e
      · rw [List.mem_singleton] at e; omega)
    rw [List.length_append, List.length_singleton] at k6
    refine ⟨l', q, s', ?_, by omega, by omega, k4, k5, by omega, k7⟩
    refine Ev.step (fun k => by rw [spec_l01Cur_bytes.l0]) (ev_pos (by omega) (ev_some e1 (ev_pos (by show l.length < 140737488355328; omega) ?_)))
    rw [w64 (by omega) (by omega), show ((d + 1 : Nat) : Int) - 1 = (d : Int) by omega]
    exact k1
theorem bytes_ok (code : List Int) (hb : ∀ b ∈ code, 0 ≤ b ∧ b < 256) (hm : code.length ≤ 1048576) (p s : Int) (a : Int) (ha : 0 ≤ a ∧ a ≤ 900) (h : drawOk p s) (hp : p ≤ 800000000000) : ∃ l q s', Ev (fun k => spec_l01Cur_bytes.f k code p s a) (l, q, s') ∧ p ≤ q ∧ q ≤ p + 1 + a ∧ 0 ≤ s' ∧ s' < 70000 ∧ (l.length : Int) ≤ a ∧ (∀ b ∈ l, 0 ≤ b ∧ b < 256) := by
  have hh := h.1
  unfold spec_l01Cur_bytes.f
  obtain ⟨v1, q1, s1, e1, a1, b1, c1, d1, f1, g1⟩ := size_ok code hb hm p s a (by omega) h
  obtain ⟨l', q, s', k1, k2, k3, k4, k5, k6, k7⟩ := bytes_l0_ok code hb v1.toNat [] q1 s1 (by simp; omega) ⟨by omega, by omega, c1, d1⟩ (by omega) (fun b hb2 => by simp at hb2)
  rw [show ((v1.toNat : Nat) : Int) = v1 by omega] at k1
  refine ⟨l', q, s', ev_some e1 k1, by omega, by omega, k4, k5, ?_, k7⟩
  rw [List.length_nil] at k6
  omega
def i64r (v : Int) : Prop := -9223372036854775808 ≤ v ∧ v ≤ 9223372036854775807
theorem wrap_i64r (v : Int) : i64r (wrap64 v) := by unfold i64r wrap64; omega
theorem raw_ok (code : List Int) (hb : ∀ b ∈ code, 0 ≤ b ∧ b < 256) (p s : Int) (h : drawOk p s) (h2 : p ≤ 900000000000) : ∃ v q s', spec_l01Cur_raw.f code p s = some (v, q, s') ∧ p ≤ q ∧ q ≤ p + 2 ∧ 0 ≤ s' ∧ s' < 70000 ∧ i64r v := by
  unfold spec_l01Cur_raw.f
  obtain ⟨v1, q1, s1, e1, a1, b1, c1, d1, _, _⟩ := pick_ok code hb p s 8 h
  have k1 : drawOk q1 s1 := ⟨by have := h.1; omega, by omega, c1, d1⟩
  rw [e1, Option.bind_some]
  simp only
  by_cases g0 : v1 = 0
  · rw [if_pos g0]
    obtain ⟨v2, q2, s2, e2, a2, b2, c2, d2, _, _⟩ := pick_ok code hb q1 s1 256 k1
    rw [e2]
    exact ⟨wrap64 (v2 - 128), q2, s2, rfl, by omega, by omega, c2, d2, wrap_i64r _⟩
  · rw [if_neg g0]
    by_cases g1 : v1 = 1
    · rw [if_pos g1, Option.bind_some]
      obtain ⟨v2, q2, s2, e2, a2, b2, c2, d2, f2, f3⟩ := pick_ok code hb q1 s1 8 k1
      rw [e2, Option.bind_some]
      simp only
      rw [if_pos f2, if_pos (by simp; omega)]
      refine ⟨_, _, _, rfl, by omega, by omega, c2, d2, ?_⟩
      have hv : v2 < 8 := by omega
      obtain ⟨n, rfl⟩ : ∃ n : Nat, v2 = (n : Int) := ⟨v2.toNat, by omega⟩
      rw [rd_nat]
      have hn : n < 8 := by omega
      unfold i64r
      match n, hn with
      | 0, _ => decide
      | 1, _ => decide
      | 2, _ => decide
      | 3, _ => decide
      | 4, _ => decide
      | 5, _ => decide
      | 6, _ => decide
      | 7, _ => decide
    · rw [if_neg g1]
      obtain ⟨v2, q2, s2, e2, a2, b2, c2, d2, _, _⟩ := pick_ok code hb q1 s1 14 k1
      rw [e2]
      exact ⟨wrap64 (v2 - 3), q2, s2, rfl, by omega, by omega, c2, d2, wrap_i64r _⟩
theorem frameOf_ok (code : List Int) (hb : ∀ b ∈ code, 0 ≤ b ∧ b < 256) (hm : code.length ≤ 1048576) (p s : Int) (h : drawOk p s) (hp : p ≤ 700000000000) : ∃ a l q s', Ev (fun k => spec_l01Cur_frameOf.f k code p s) (a, l, q, s') ∧ p ≤ q ∧ q ≤ p + 40 ∧ 0 ≤ s' ∧ s' < 70000 ∧ l.length ≤ 8001 ∧ (∀ b ∈ l, 0 ≤ b ∧ b < 256) ∧ i64r a := by
  have hh := h.1
  unfold spec_l01Cur_frameOf.f
  obtain ⟨v1, q1, s1, e1, a1, b1, c1, d1, f1, g1⟩ := pick_ok code hb p s 5 h
  obtain ⟨l2, q2, s2, e2, a2, b2, c2, d2, f2, g2⟩ := bytes_ok code hb hm q1 s1 20 (by omega) ⟨by omega, by omega, c1, d1⟩ (by omega)
  obtain ⟨v3, q3, s3, e3, a3, b3, c3, d3, f3, g3⟩ := pick_ok code hb q2 s2 14 ⟨by omega, by omega, c2, d2⟩
  by_cases w0 : v3 = 0
  · obtain ⟨v4, q4, s4, e4, a4, b4, c4, d4, f4⟩ := raw_ok code hb q3 s3 ⟨by omega, by omega, c3, d3⟩ (by omega)
    obtain ⟨v5, q5, s5, e5, a5, b5, c5, d5, f5, g5⟩ := pick_ok code hb q4 s4 3 ⟨by omega, by omega, c4, d4⟩
    refine ⟨rd [v4, 255, 256] v5, l2, q5, s5, ?_, by omega, by omega, c5, d5, by omega, g2, ?_⟩
    · exact ev_some e1 (ev_bind e2 (ev_some e3 (ev_pos w0 (ev_some e4 (ev_some rfl (ev_some e5 (ev_pos f5 (ev_pos (by simp; omega) (ev_now _)))))))))
    · obtain ⟨n, rfl⟩ : ∃ n : Nat, v5 = (n : Int) := ⟨v5.toNat, by omega⟩
      rw [rd_nat]
      have hn : n < 3 := by omega
      match n, hn with
      | 0, _ => exact f4
      | 1, _ => exact (show i64r 255 from by unfold i64r; decide)
      | 2, _ => exact (show i64r 256 from by unfold i64r; decide)
  · by_cases w1 : v3 = 1
    · obtain ⟨v5, q5, s5, e5, a5, b5, c5, d5, f5, g5⟩ := pick_ok code hb q3 s3 5 ⟨by omega, by omega, c3, d3⟩
      obtain ⟨n, rfl⟩ : ∃ n : Nat, v5 = (n : Int) := ⟨v5.toNat, by omega⟩
      have hn : n < 5 := by omega
      have hr : 0 ≤ rd [127, 128, 200, 8000, 8001] (n : Int) ∧ rd [127, 128, 200, 8000, 8001] (n : Int) ≤ 8001 := by
        rw [rd_nat]
        match n, hn with
        | 0, _ => decide
        | 1, _ => decide
        | 2, _ => decide
        | 3, _ => decide
        | 4, _ => decide
      refine ⟨v1, List.replicate (rd [127, 128, 200, 8000, 8001] (n : Int)).toNat 0, q5, s5, ?_, by omega, by omega, c5, d5, by rw [List.length_replicate]; omega, fun b hb2 => ?_, by unfold i64r; omega⟩
      · exact ev_some e1 (ev_bind e2 (ev_some e3 (ev_neg w0 (ev_pos w1 (ev_some rfl (ev_some e5 (ev_pos f5 (ev_pos (by simp; omega) (ev_pos hr.1 (ev_pos (by show (rd [127, 128, 200, 8000, 8001] (n : Int)).toNat ≤ 281474976710656; omega) (ev_now _)))))))))))
      · have := List.eq_of_mem_replicate hb2
        omega
    · refine ⟨v1, l2, q3, s3, ?_, by omega, by omega, c3, d3, by omega, g2, by unfold i64r; omega⟩
      exact ev_some e1 (ev_bind e2 (ev_some e3 (ev_neg w0 (ev_neg w1 (ev_now _)))))
theorem drawFramesOf_l0 (code : List Int) (hb : ∀ b ∈ code, 0 ≤ b ∧ b < 256) (hm : code.length ≤ 1048576) : ∀ (d : Nat) (acc : List S27) (p s : Int), acc.length + d ≤ 1000 → drawOk p s → p + 40 * d ≤ 700000000000 → bodiesOk acc → (∀ x ∈ acc, x.f1.length ≤ 8001) → ∃ L, Ev (fun k => spec_DrawFramesOf.l0 k acc (d : Int) code p s) L ∧ L.length = acc.length + d ∧ bodiesOk L ∧ (∀ x ∈ L, x.f1.length ≤ 8001) := by
  intro d
  induction d with
  | zero =>
    intro acc p s _ _ _ h1 h2
    exact ⟨acc, Ev.step (fun k => by rw [spec_DrawFramesOf.l0]) (ev_neg (by omega) (ev_now _)), rfl, h1, h2⟩
  | succ d ih =>
    intro acc p s hl hd hp h1 h2
    obtain ⟨a, l, q, s', k1, k2, k3, k4, k5, k6, k7, k8⟩ := frameOf_ok code hb hm p s hd (by omega)
    have hdo : drawOk q s' := by unfold drawOk at *; omega
    obtain ⟨L, e1, e2, e3, e4⟩ := ih (acc ++ [⟨a, l⟩]) q s' (by rw [List.length_append, List.length_singleton]; omega) hdo (by omega) (by
      intro x hx
      rcases List.mem_append.1 hx with g | g
      · exact h1 x g
      · rw [List.mem_singleton.1 g]; exact k7) (by
      intro x hx
      rcases List.mem_append.1 hx with g | g
      · exact h2 x g
      · rw [List.mem_singleton.1 g]; exact k6)
    refine ⟨L, ?_, by rw [e2, List.length_append, List.length_singleton]; omega, e3, e4⟩
    refine Ev.step (fun k => by rw [spec_DrawFramesOf.l0]) (ev_pos (by omega) (ev_bind k1 ?_))
    refine ev_pos (show acc.length < 4398046511104 by omega) ?_
    rw [show wrap64 (((d + 1 : Nat) : Int) - 1) = (d : Int) by rw [w64 (by omega) (by omega)]; omega]
    exact e1
theorem drawFramesOf_ok (code : List Int) (hb : ∀ b ∈ code, 0 ≤ b ∧ b < 256) (hm : code.length ≤ 1048576) : ∃ L, Ev (fun k => spec_DrawFramesOf.f k code) L ∧ L.length ≤ 1000 ∧ bodiesOk L ∧ (∀ x ∈ L, x.f1.length ≤ 8001) := by
  unfold spec_DrawFramesOf.f
  obtain ⟨v, q, s', h1, h2, h3, h4, h5, h6, h7⟩ := pick_ok code hb 0 (89 + ((code.length : Int) % 1000)) 5 ⟨by omega, by omega, by omega, by omega⟩
  obtain ⟨n, rfl⟩ : ∃ n : Nat, v = (n : Int) := ⟨v.toNat, by omega⟩
  obtain ⟨L, e1, e2, e3, e4⟩ := drawFramesOf_l0 code hb hm n [] q s' (by simp; omega) (by unfold drawOk at *; omega) (by omega) (fun x hx => by cases hx) (fun x hx => by cases hx)
  refine ⟨L, ev_some (show spec_l01Open.f code = some (code, 0, 89 + ((code.length : Int) % 1000)) from rfl) (ev_some h1 e1), ?_, e3, e4⟩
  rw [e2, List.length_nil]; omega
def varOfR (v : Nat) : List Int := if v ≤ 4294967295 then varB 4 v else []
/-- reading on from byte i, of five at most -/
def varL (xs : List Int) (a : Nat) : Nat → Nat → Nat → Int × Int × Bool
  | 0, _, _ => (0, 0, false)
  | d + 1, i, acc =>
    if a + i < xs.length then
      (if xs.getD (a + i) 0 < 128 then
        (if (strOfNums (varOfR (acc + 128 ^ i * ((xs.getD (a + i) 0).toNat % 128)))).toList = (strOfNums ((xs.take (a + i + 1)).drop a)).toList then (((acc + 128 ^ i * ((xs.getD (a + i) 0).toNat % 128) : Nat) : Int), ((a + i + 1 : Nat) : Int), true) else (0, 0, false))
       else varL xs a d (i + 1) (acc + 128 ^ i * ((xs.getD (a + i) 0).toNat % 128)))
    else (0, 0, false)
theorem varL_step {i acc b : Nat} (h : acc < 128 ^ i) (hb : b < 128) : acc + 128 ^ i * b < 128 ^ (i + 1) := by
  have h1 : 128 ^ i * b ≤ 128 ^ i * 127 := Nat.mul_le_mul_left _ (by omega)
  rw [Nat.pow_succ]
  omega
def varReadR (xs : List Int) (a : Int) : Int × Int × Bool := if 0 ≤ a ∧ a < xs.length then varL xs a.toNat 5 0 0 else (0, 0, false)
theorem varL_ok (xs : List Int) (a : Nat) : ∀ (d i acc : Nat), (varL xs a d i acc).2.2 = true → ∃ n r : Nat, varL xs a d i acc = ((n : Int), (r : Int), true) ∧ a < r ∧ r ≤ xs.length ∧ (varOfR n).length = r - a := by
  intro d
  induction d with
  | zero => intro i acc h; rw [varL] at h; cases h
  | succ d ih =>
    intro i acc h
    rw [varL] at h ⊢
    by_cases h1 : a + i < xs.length
    · rw [if_pos h1] at h ⊢
      by_cases h2 : xs.getD (a + i) 0 < 128
      · rw [if_pos h2] at h ⊢
        by_cases h3 : (strOfNums (varOfR (acc + 128 ^ i * ((xs.getD (a + i) 0).toNat % 128)))).toList = (strOfNums ((xs.take (a + i + 1)).drop a)).toList
        · rw [if_pos h3]
          refine ⟨_, _, rfl, by omega, by omega, ?_⟩
          rw [strs_length h3, List.length_drop, List.length_take]; omega
        · rw [if_neg h3] at h; cases h
      · rw [if_neg h2] at h ⊢
        exact ih _ _ h
    · rw [if_neg h1] at h; cases h
theorem varReadR_ok (xs : List Int) (a : Nat) (h : (varReadR xs a).2.2 = true) : ∃ n r : Nat, varReadR xs a = ((n : Int), (r : Int), true) ∧ a < r ∧ r ≤ xs.length ∧ (varOfR n).length = r - a := by
  unfold varReadR at h ⊢
  by_cases h1 : 0 ≤ (a : Int) ∧ (a : Int) < xs.length
  · rw [if_pos h1] at h ⊢
    exact varL_ok xs a 5 0 0 h
  · rw [if_neg h1] at h; cases h
def frameAt (xs : List Int) (a n r : Nat) : Int × List Int × Int × Bool :=
  if xs.getD a 0 = 90 ∧ n ≤ 8000 ∧ r + n + 4 ≤ xs.length ∧ (strOfNums (frameR (xs.getD (a + 1) 0) ((xs.take (r + n)).drop r))).toList = (strOfNums ((xs.take (r + n + 4)).drop a)).toList then
    (xs.getD (a + 1) 0, (xs.take (r + n)).drop r, ((r + n + 4 : Nat) : Int), true)
  else (0, [], 0, false)
def frameReadR (xs : List Int) (a : Int) : Int × List Int × Int × Bool :=
  if 0 ≤ a ∧ a ≤ (xs.length : Int) - 2 ∧ (varReadR xs (a + 2)).2.2 = true then frameAt xs a.toNat (varReadR xs (a + 2)).1.toNat (varReadR xs (a + 2)).2.1.toNat else (0, [], 0, false)
theorem cut_mem {xs : List Int} (hb : ∀ b ∈ xs, 0 ≤ b ∧ b < 256) (i j : Nat) : ∀ b ∈ (xs.take i).drop j, 0 ≤ b ∧ b < 256 := fun b h => hb b (List.mem_of_mem_take (List.mem_of_mem_drop h))
theorem getD_byte {xs : List Int} (hb : ∀ b ∈ xs, 0 ≤ b ∧ b < 256) (i : Nat) : 0 ≤ xs.getD i 0 ∧ xs.getD i 0 < 256 := by
  by_cases h : i < xs.length
  · rw [List.getD_eq_getElem?_getD, List.getElem?_eq_getElem h, Option.getD_some]; exact hb _ (List.getElem_mem h)
  · rw [List.getD_eq_getElem?_getD, List.getElem?_eq_none (by omega), Option.getD_none]; omega
theorem rd_getD (xs : List Int) (n : Nat) : rd xs (n : Int) = xs.getD n 0 := rd_nat xs n
theorem frameR_len {xs : List Int} (hb : ∀ b ∈ xs, 0 ≤ b ∧ b < 256) {a n r : Nat} (hn : n ≤ 8000) (hr : r + n ≤ xs.length) (har : a + 2 < r) (hv : (varOfR n).length = r - (a + 2)) : (frameR (xs.getD (a + 1) 0) ((xs.take (r + n)).drop r)).length = r - a + n + 4 := by
  have h1 := getD_byte hb (a + 1)
  have h2 : ((xs.take (r + n)).drop r).length = n := by rw [List.length_drop, List.length_take]; omega
  unfold frameR
  rw [if_pos ⟨by omega, by omega, by omega⟩, frameL_length, h2]
  unfold varOfR at hv
  rw [if_pos (by omega)] at hv
  omega
/-! ### a number is read back -/
theorem varL_back (xs : List Int) (a n : Nat) (suf : List Int) (hx : xs.drop a = varB 4 n ++ suf) (hn : n ≤ 4294967295) : ∀ (f d i acc q : Nat), f + 1 ≤ d → q < 128 ^ (f + 1) → n = acc + 128 ^ i * q → xs.drop (a + i) = varB f q ++ suf →
    varL xs a d i acc = ((n : Int), ((a + (varB 4 n).length : Nat) : Int), true) := by
  have hlen : xs.length = a + (varB 4 n).length + suf.length := by
    have h := congrArg List.length hx
    have h1 := (varB_length 4 n).1
    rw [List.length_drop, List.length_append] at h
    omega
  have stop : ∀ (f d i acc q : Nat), q < 128 → n = acc + 128 ^ i * q → xs.drop (a + i) = [(((q : Nat)) : Int) % 256] ++ suf → varL xs a (d + 1) i acc = ((n : Int), ((a + (varB 4 n).length : Nat) : Int), true) := by
    intro f d i acc q hq hnq hd
    have h := congrArg List.length hd
    rw [List.length_drop, List.length_append, List.length_singleton] at h
    have hl : (varB 4 n).length = i + 1 := by omega
    have hg : xs.getD (a + i) 0 = (q : Int) := by
      have h2 : (xs.drop (a + i)).getD 0 0 = (q : Int) % 256 := by rw [hd]; rfl
      rw [List.getD_eq_getElem?_getD, List.getElem?_drop, Nat.add_zero, ← List.getD_eq_getElem?_getD] at h2
      omega
    rw [varL, if_pos (by omega), hg, Int.toNat_natCast, if_pos (by omega), show q % 128 = q by omega, ← hnq]
    have hc : (xs.take (a + i + 1)).drop a = varB 4 n := by
      rw [List.drop_take, hx, show a + i + 1 - a = (varB 4 n).length by omega, List.take_left]
    rw [hc, if_pos (by unfold varOfR; rw [if_pos hn]), hl]
    rfl
  intro f
  induction f with
  | zero =>
    intro d i acc q hd hq hnq hx'
    obtain ⟨d, rfl⟩ : ∃ d', d = d' + 1 := ⟨d - 1, by omega⟩
    exact stop 0 d i acc q (by simpa using hq) hnq hx'
  | succ f ih =>
    intro d i acc q hd hq hnq hx'
    obtain ⟨d, rfl⟩ : ∃ d', d = d' + 1 := ⟨d - 1, by omega⟩
    rw [varB] at hx'
    by_cases h128 : 128 ≤ q
    · rw [if_pos h128, List.cons_append] at hx'
      have h := congrArg List.length hx'
      rw [List.length_drop, List.length_cons] at h
      have hlt : a + i < xs.length := by omega
      have hg : xs.getD (a + i) 0 = ((128 + q % 128 : Nat) : Int) := by
        have h2 : (xs.drop (a + i)).getD 0 0 = ((128 + q % 128 : Nat) : Int) := by rw [hx']; rfl
        rw [List.getD_eq_getElem?_getD, List.getElem?_drop, Nat.add_zero, ← List.getD_eq_getElem?_getD] at h2
        exact h2
      rw [varL, if_pos hlt, hg, Int.toNat_natCast, if_neg (by omega), show (128 + q % 128) % 128 = q % 128 by omega]
      refine ih d (i + 1) _ (q / 128) (by omega) ?_ ?_ ?_
      · rw [Nat.div_lt_iff_lt_mul (by decide), ← Nat.pow_succ]; exact hq
      · rw [hnq, Nat.pow_succ]
        have e : 128 ^ i * q = 128 ^ i * (q % 128) + 128 ^ i * 128 * (q / 128) := by
          rw [Nat.mul_assoc, ← Nat.mul_add]
          congr 1
          omega
        omega
      · have h3 : xs.drop (a + (i + 1)) = (xs.drop (a + i)).drop 1 := by rw [List.drop_drop]; rfl
        rw [h3, hx']; rfl
    · rw [if_neg h128] at hx'
      exact stop (f + 1) d i acc q (by omega) hnq hx'
theorem varRead_back (pre suf : List Int) (n : Nat) (hn : n ≤ 4294967295) : varReadR (pre ++ varB 4 n ++ suf) (pre.length : Int) = ((n : Int), ((pre.length + (varB 4 n).length : Nat) : Int), true) := by
  have h1 := (varB_length 4 n).1
  unfold varReadR
  rw [if_pos ⟨by omega, by rw [List.length_append, List.length_append]; omega⟩, Int.toNat_natCast]
  have hd : (pre ++ varB 4 n ++ suf).drop pre.length = varB 4 n ++ suf := by rw [List.append_assoc, List.drop_left]
  refine varL_back _ _ n suf hd hn 4 5 0 0 n (by omega) (by omega) (by omega) ?_
  rw [Nat.add_zero]; exact hd
/-! ### the checksum tells one changed byte -/
theorem crcStep_inj {a b : Nat} (ha : a < 2 ^ 32) (hb : b < 2 ^ 32) (h : crcStep a = crcStep b) : a = b := by
  have top : ∀ c, c < 2 ^ 32 → (crcStep c).testBit 31 = decide (c % 2 = 1) := by
    intro c hc
    unfold crcStep
    have h1 : (c / 2).testBit 31 = false := Nat.testBit_lt_two_pow (by omega)
    split
    · rename_i o
      rw [Nat.testBit_xor, h1, decide_eq_true o]; decide
    · rename_i o
      rw [h1, decide_eq_false o]
  have e := top a ha
  rw [h, top b hb] at e
  have e' : (b % 2 = 1) ↔ (a % 2 = 1) := by simpa using e
  unfold crcStep at h
  by_cases o : a % 2 = 1
  · rw [if_pos o, if_pos (e'.2 o)] at h
    have h2 := congrArg (fun x => x ^^^ 3988292384) h
    simp only [Nat.xor_assoc, Nat.xor_self, Nat.xor_zero] at h2
    have := e'.2 o
    omega
  · rw [if_neg o, if_neg (fun g => o (e'.1 g))] at h
    have : ¬ b % 2 = 1 := fun g => o (e'.1 g)
    omega
theorem crcIter_inj : ∀ (d : Nat) {a b : Nat}, a < 2 ^ 32 → b < 2 ^ 32 → crcIter d a = crcIter d b → a = b
  | 0, _, _, _, _, h => h
  | d + 1, _, _, ha, hb, h => crcStep_inj ha hb (crcIter_inj d (crcStep_lt ha) (crcStep_lt hb) h)
theorem xor_inj_r {a b c : Nat} (h : a ^^^ c = b ^^^ c) : a = b := by
  have h2 := congrArg (fun x => x ^^^ c) h
  simpa only [Nat.xor_assoc, Nat.xor_self, Nat.xor_zero] using h2
theorem crcAll_inj : ∀ (l : List Nat), (∀ b ∈ l, b < 256) → ∀ {a b : Nat}, a < 2 ^ 32 → b < 2 ^ 32 → crcAll l a = crcAll l b → a = b := by
  intro l
  induction l with
  | nil => intro _ a b _ _ h; exact h
  | cons x l ih =>
    intro hl a b ha hb h
    have hx := hl x (by simp)
    have := ih (fun y hy => hl y (by simp [hy])) (crcIter_lt (Nat.xor_lt_two_pow ha (by omega))) (crcIter_lt (Nat.xor_lt_two_pow hb (by omega))) h
    exact xor_inj_r (crcIter_inj 8 (Nat.xor_lt_two_pow ha (by omega)) (Nat.xor_lt_two_pow hb (by omega)) this)
theorem crcAll_append : ∀ (l m : List Nat) (c : Nat), crcAll (l ++ m) c = crcAll m (crcAll l c)
  | [], _, _ => rfl
  | b :: l, m, c => crcAll_append l m (crcIter 8 (c ^^^ b))
theorem crcOf_one {u v : List Int} {x y : Int} (hu : ∀ b ∈ u, 0 ≤ b ∧ b < 256) (hv : ∀ b ∈ v, 0 ≤ b ∧ b < 256) (hx : 0 ≤ x ∧ x < 256) (hy : 0 ≤ y ∧ y < 256) (h : crcOf (u ++ x :: v) = crcOf (u ++ y :: v)) : x = y := by
  unfold crcOf at h
  have h1 := xor_inj_r h
  rw [List.map_append, List.map_append, List.map_cons, List.map_cons, crcAll_append, crcAll_append, crcAll, crcAll] at h1
  have hn : ∀ l : List Int, (∀ b ∈ l, 0 ≤ b ∧ b < 256) → ∀ b ∈ l.map Int.toNat, b < 256 := by
    intro l hl b hb
    obtain ⟨z, hz, rfl⟩ := List.mem_map.1 hb
    have := hl z hz
    omega
  have hc := crcAll_lt (l := u.map Int.toNat) (c := 4294967295) (by decide) (hn u hu)
  have h2 := crcAll_inj _ (hn v hv) (crcIter_lt (Nat.xor_lt_two_pow hc (by omega))) (crcIter_lt (Nat.xor_lt_two_pow hc (by omega))) h1
  have h3 := crcIter_inj 8 (Nat.xor_lt_two_pow hc (by omega)) (Nat.xor_lt_two_pow hc (by omega)) h2
  rw [Nat.xor_comm _ x.toNat, Nat.xor_comm _ y.toNat] at h3
  have := xor_inj_r h3
  omega
theorem four_inj {a b : Nat} (ha : a < 2 ^ 32) (hb : b < 2 ^ 32) (h : four a = four b) : a = b := by
  have e : ∀ c, four c = [((c / 1 % 256 : Nat) : Int), ((c / 256 % 256 : Nat) : Int), ((c / 65536 % 256 : Nat) : Int), ((c / 16777216 % 256 : Nat) : Int)] := fun c => rfl
  rw [e, e] at h
  simp only [List.cons.injEq] at h
  omega
theorem four_length (c : Nat) : (four c).length = 4 := rfl
/-! ### a frame is read back, whatever surrounds it; what is read as a frame is one -/
theorem frameRead_back (pre suf : List Int) (a : Int) (l : List Int) (hb : ∀ b ∈ l, 0 ≤ b ∧ b < 256) (ha : 0 ≤ a ∧ a ≤ 255) (hl : l.length ≤ 8000) :
    frameReadR (pre ++ frameL a l ++ suf) (pre.length : Int) = (a, l, ((pre.length + (frameL a l).length : Nat) : Int), true) := by
  have hv1 := (varB_length 4 l.length).1
  have hfl := frameL_length a l
  have e1 : pre ++ frameL a l ++ suf = (pre ++ [90, a % 256]) ++ varB 4 l.length ++ (l ++ four (crcOf (frameP a l)) ++ suf) := by
    unfold frameL frameP
    simp only [List.append_assoc]
  have hread := varRead_back (pre ++ [90, a % 256]) (l ++ four (crcOf (frameP a l)) ++ suf) l.length (by omega)
  rw [← e1, List.length_append, show ([90, a % 256] : List Int).length = 2 from rfl] at hread
  have hlen : (pre ++ frameL a l ++ suf).length = pre.length + (frameL a l).length + suf.length := by simp only [List.length_append]
  unfold frameReadR
  rw [show ((pre.length : Nat) : Int) + 2 = ((pre.length + 2 : Nat) : Int) by omega, hread]
  rw [if_pos ⟨by omega, by omega, rfl⟩]
  simp only [Int.toNat_natCast]
  unfold frameAt
  have g0 : (pre ++ frameL a l ++ suf).getD pre.length 0 = 90 := by
    rw [e1, List.getD_eq_getElem?_getD, List.append_assoc, List.append_assoc, List.getElem?_append_right (Nat.le_refl _), Nat.sub_self]; rfl
  have g1 : (pre ++ frameL a l ++ suf).getD (pre.length + 1) 0 = a := by
    rw [e1, List.getD_eq_getElem?_getD, List.append_assoc, List.append_assoc, List.getElem?_append_right (by omega), show pre.length + 1 - pre.length = 1 by omega]
    show a % 256 = a
    omega
  have hcut : ((pre ++ frameL a l ++ suf).take (pre.length + 2 + (varB 4 l.length).length + l.length)).drop (pre.length + 2 + (varB 4 l.length).length) = l := by
    rw [List.drop_take, e1]
    have e2 : pre.length + 2 + (varB 4 l.length).length = ((pre ++ [90, a % 256]) ++ varB 4 l.length).length := by simp only [List.length_append]; rfl
    rw [e2, List.drop_left, Nat.add_sub_cancel_left, List.append_assoc, List.take_left]
  have hcut2 : ((pre ++ frameL a l ++ suf).take (pre.length + 2 + (varB 4 l.length).length + l.length + 4)).drop pre.length = frameL a l := by
    rw [List.drop_take, List.append_assoc, List.drop_left, show pre.length + 2 + (varB 4 l.length).length + l.length + 4 - pre.length = (frameL a l).length by omega, List.take_left]
  rw [g0, g1, hcut, hcut2]
  have hR : frameR a l = frameL a l := by unfold frameR; rw [if_pos ⟨ha.1, ha.2, hl⟩]
  rw [if_pos ⟨rfl, hl, by omega, by rw [hR]⟩]
  refine Prod.ext rfl (Prod.ext rfl (Prod.ext ?_ rfl))
  show ((pre.length + 2 + (varB 4 l.length).length + l.length + 4 : Nat) : Int) = ((pre.length + (frameL a l).length : Nat) : Int)
  omega
theorem frameRead_is (xs : List Int) (hb : ∀ b ∈ xs, 0 ≤ b ∧ b < 256) (a : Nat) (k : Int) (l : List Int) (e : Int) (h : frameReadR xs (a : Int) = (k, l, e, true)) :
    (0 ≤ k ∧ k ≤ 255) ∧ l.length ≤ 8000 ∧ (∀ b ∈ l, 0 ≤ b ∧ b < 256) ∧ ∃ n : Nat, e = (n : Int) ∧ n ≤ xs.length ∧ a < n ∧ (xs.take n).drop a = frameL k l := by
  unfold frameReadR at h
  by_cases c : 0 ≤ (a : Int) ∧ (a : Int) ≤ (xs.length : Int) - 2 ∧ (varReadR xs ((a : Int) + 2)).2.2 = true
  · rw [if_pos c] at h
    obtain ⟨c1, c2, c3⟩ := c
    rw [show (a : Int) + 2 = ((a + 2 : Nat) : Int) by omega] at c3 h
    obtain ⟨n, r, e1, har, hrl, hv⟩ := varReadR_ok xs (a + 2) c3
    rw [e1] at h
    simp only [Int.toNat_natCast] at h
    unfold frameAt at h
    by_cases d : xs.getD a 0 = 90 ∧ n ≤ 8000 ∧ r + n + 4 ≤ xs.length ∧ (strOfNums (frameR (xs.getD (a + 1) 0) ((xs.take (r + n)).drop r))).toList = (strOfNums ((xs.take (r + n + 4)).drop a)).toList
    · rw [if_pos d] at h
      injection h with h1 h2
      injection h2 with h2 h3
      injection h3 with h3 _
      obtain ⟨_, d2, d3, d4⟩ := d
      have hk := getD_byte hb (a + 1)
      have hll : ((xs.take (r + n)).drop r).length = n := by rw [List.length_drop, List.length_take]; omega
      have hR : frameR (xs.getD (a + 1) 0) ((xs.take (r + n)).drop r) = frameL (xs.getD (a + 1) 0) ((xs.take (r + n)).drop r) := by
        unfold frameR; rw [if_pos ⟨by omega, by omega, by omega⟩]
      rw [hR] at d4
      have hcut := strs_inj (frameL_mem _ _ (cut_mem hb _ _)) (cut_mem hb _ _) d4
      subst h1
      subst h2
      exact ⟨by omega, by omega, cut_mem hb _ _, r + n + 4, h3.symm, d3, by omega, hcut.symm⟩
    · rw [if_neg d] at h
      injection h with _ h2
      injection h2 with _ h3
      injection h3 with _ h4
      cases h4
  · rw [if_neg c] at h
    injection h with _ h2
    injection h2 with _ h3
    injection h3 with _ h4
    cases h4
/-- a frame with one byte changed is no frame of the same length -/
theorem frame_told {a a' : Int} {l l' : List Int} (hb : ∀ b ∈ l, 0 ≤ b ∧ b < 256) (hb' : ∀ b ∈ l', 0 ≤ b ∧ b < 256) (i : Nat) (hi : i < (frameL a l).length) (v : Int) (hv : 0 ≤ v ∧ v < 256) (hne : v ≠ (frameL a l)[i]) (h : (frameL a l).set i v = frameL a' l') : False := by
  have h1 := frameP_mem a l hb
  have h2 := frameP_mem a' l' hb'
  have hl := congrArg List.length h
  rw [List.length_set] at hl
  have hF : frameL a l = frameP a l ++ four (crcOf (frameP a l)) := rfl
  have hne : some v ≠ (frameP a l ++ four (crcOf (frameP a l)))[i]? := by
    rw [← hF, List.getElem?_eq_getElem hi]
    intro e
    injection e with e
    exact hne e
  rw [hF] at hi
  unfold frameL at hl h
  rw [List.length_append, List.length_append, four_length, four_length] at hl
  by_cases c : i < (frameP a l).length
  · rw [List.set_append_left _ _ c] at h
    obtain ⟨e1, e2⟩ := List.append_inj h (by rw [List.length_set]; omega)
    have e3 := four_inj (crcOf_lt h1) (crcOf_lt h2) e2
    rw [← e1] at e3
    have t1 : frameP a l = (frameP a l).take i ++ (frameP a l)[i] :: (frameP a l).drop (i + 1) := by rw [← List.drop_eq_getElem_cons c, List.take_append_drop]
    have t2 : (frameP a l).set i v = (frameP a l).take i ++ v :: (frameP a l).drop (i + 1) := List.set_eq_take_append_cons_drop.trans (if_pos c)
    have e4 : crcOf ((frameP a l).take i ++ (frameP a l)[i] :: (frameP a l).drop (i + 1)) = crcOf ((frameP a l).take i ++ v :: (frameP a l).drop (i + 1)) := by rw [← t1, ← t2]; exact e3
    have e5 := crcOf_one (fun b hb => h1 b (List.mem_of_mem_take hb)) (fun b hb => h1 b (List.mem_of_mem_drop hb)) (h1 _ (List.getElem_mem c)) hv e4
    apply hne
    rw [List.getElem?_append_left c, List.getElem?_eq_getElem c, e5]
  · rw [List.set_append_right _ _ (by omega)] at h
    obtain ⟨e1, e2⟩ := List.append_inj h (by omega)
    rw [← e1] at e2
    have hi2 : i - (frameP a l).length < (four (crcOf (frameP a l))).length := by
      rw [List.length_append] at hi; omega
    apply hne
    rw [List.getElem?_append_right (by omega), ← e2, List.getElem?_set_self hi2]
theorem impl_within_f (a b c : Int) : impl_within.f a b c = some (decide (b ≤ a ∧ a ≤ c)) := by
  unfold impl_within.f
  by_cases h : b ≤ a <;> simp [h]
theorem impl_FrameOk_f (a : Int) (l : List Int) : impl_FrameOk.f a l = some (decide (0 ≤ a ∧ a ≤ 255 ∧ l.length ≤ 8000)) := by
  unfold impl_FrameOk.f
  rw [impl_within_f, Option.bind_some]
  by_cases h : 0 ≤ a ∧ a ≤ 255
  · rw [if_pos (by simp [h])]; congr 1; simp [h]; omega
  · rw [if_neg (by simp; omega)]; congr 1; exact (decide_eq_false (by omega)).symm
theorem impl_VarOf_l0 : ∀ (f n : Nat) (acc : List Int), n < 128 ^ (f + 1) → f ≤ 8 → acc.length + f ≤ 100 → Ev (fun k => impl_VarOf.l0 k (n : Int) acc) (acc ++ varB f n) := by
  intro f
  induction f with
  | zero =>
    intro n acc hn hf hl
    refine Ev.step (fun k => by rw [impl_VarOf.l0]) ?_
    refine ev_neg (by omega) (ev_pos (by omega) (ev_now' rfl))
  | succ f ih =>
    intro n acc hn hf hl
    refine Ev.step (fun k => by rw [impl_VarOf.l0]) ?_
    have hp : 128 ^ (f + 1) ≤ 128 ^ 8 := Nat.pow_le_pow_right (by decide) (by omega)
    have hpp : 128 ^ (f + 1 + 1) = 128 ^ (f + 1) * 128 := Nat.pow_succ ..
    have hq : n / 128 < 128 ^ (f + 1) := by rw [Nat.div_lt_iff_lt_mul (by decide)]; omega
    by_cases h : 128 ≤ n
    · refine ev_pos (by omega) (ev_pos (by omega) ?_)
      have e1 : (n : Int) / 128 = ((n / 128 : Nat) : Int) := by omega
      have e2 : Go.bits .or .i64 (Go.bits .and .i64 (n : Int) 127) 128 = ((128 + n % 128 : Nat) : Int) := by
        rw [i64_and127, show (n : Int) % 128 = ((n % 128 : Nat) : Int) by omega, show (128 : Int) = ((128 : Nat) : Int) from rfl, or_i64 _ _ (by omega) (by decide)]
        congr 1
        have := Nat.two_pow_add_eq_or_of_lt (i := 7) (b := n % 128) (by omega) 1
        rw [Nat.or_comm]
        simpa using this.symm
      rw [e1, e2]
      refine ev_eq (ih (n / 128) _ hq (by omega) (by simp; omega)) ?_
      rw [varB, if_pos h, List.append_assoc, List.singleton_append]
      congr 2
      omega
    · refine ev_neg (by omega) (ev_pos (by omega) (ev_now' ?_))
      rw [varB, if_neg h]
theorem impl_VarOf_ev (n : Nat) (h : n ≤ 4294967295) : Ev (fun k => impl_VarOf.f k (n : Int)) (varB 4 n) := by
  unfold impl_VarOf.f
  refine ev_some (impl_within_f _ _ _) (ev_pos (by simp; omega) ?_)
  exact impl_VarOf_l0 4 n [] (by omega) (by omega) (by simp)
theorem impl_VarOf_bad (a : Int) (h : a < 0 ∨ 4294967295 < a) : Ev (fun k => impl_VarOf.f k a) [] := by
  unfold impl_VarOf.f
  exact ev_some (impl_within_f _ _ _) (ev_neg (by simp; omega) (ev_now _))
theorem impl_crc_l1 (xs : List Int) (m : Int) (i : Nat) (r : Int) : ∀ (d j c : Nat), j + d = 8 → c < 2 ^ 32 → Ev (fun k => impl_crc.l0 k ((crcIter d c : Nat) : Int) xs m (wrap64 ((i : Int) + 1))) r → Ev (fun k => impl_crc.l1 k (c : Int) xs m (i : Int) (j : Int)) r := by
  intro d
  induction d with
  | zero =>
    intro j c hj hc h
    refine Ev.step (fun k => by rw [impl_crc.l1]) ?_
    exact ev_neg (by omega) h
  | succ d ih =>
    intro j c hj hc h
    refine Ev.step (fun k => by rw [impl_crc.l1]) ?_
    have e2 : (c : Int) / 2 = ((c / 2 : Nat) : Int) := by omega
    have hs := crcStep_lt hc
    have e3 : (((c % 2 : Nat) : Int) * 3988292384) % 4294967296 = ((c % 2 * 3988292384 : Nat) : Int) := by omega
    rw [and1_u32 c hc, e2, e3, xor_u32 _ _ (by omega) (by omega), w64 (n := (j : Int) + 1) (by omega) (by omega)]
    refine ev_pos (by omega) ?_
    have e : crcStep c = (c / 2) ^^^ (c % 2 * 3988292384) := by
      unfold crcStep
      split
      · rename_i o; rw [o]
      · have o : c % 2 = 0 := by omega
        rw [o]; simp
    rw [← e]
    exact ih (j + 1) _ (by omega) hs h
theorem impl_crc_l0 (xs : List Int) (hm : xs.length ≤ 1099511627776) (hb : ∀ b ∈ xs, 0 ≤ b ∧ b < 256) : ∀ (d n c : Nat), n + d = xs.length → c < 2 ^ 32 → Ev (fun k => impl_crc.l0 k (c : Int) xs (xs.length : Int) (n : Int)) ((crcAll ((xs.drop n).map Int.toNat) c ^^^ 4294967295 : Nat) : Int) := by
  intro d
  induction d with
  | zero =>
    intro n c hn hc
    refine Ev.step (fun k => by rw [impl_crc.l0]) ?_
    refine ev_neg (by omega) (ev_now' ?_)
    have hlt : c ^^^ 4294967295 < 2 ^ 32 := Nat.xor_lt_two_pow hc (by decide)
    rw [List.drop_eq_nil_of_le (by omega), show (4294967295 : Int) = ((4294967295 : Nat) : Int) from rfl, xor_u32 _ _ (by omega) (by decide), w64 (by omega) (by omega)]
    rfl
  | succ d ih =>
    intro n c hn hc
    refine Ev.step (fun k => by rw [impl_crc.l0]) ?_
    refine ev_pos (by omega) (ev_pos (by omega) (ev_pos (by omega) ?_))
    have hx := hb _ (List.getElem_mem (show n < xs.length by omega))
    rw [rd_lt (show n < xs.length by omega)]
    have e : xs[n] % 4294967296 = ((xs[n].toNat : Nat) : Int) := by omega
    rw [e, xor_u32 _ _ (by omega) (by omega)]
    have hlt : c ^^^ xs[n].toNat < 2 ^ 32 := Nat.xor_lt_two_pow hc (by omega)
    refine impl_crc_l1 xs _ n _ 8 0 _ (by omega) hlt ?_
    rw [w64 (n := (n : Int) + 1) (by omega) (by omega)]
    refine ev_eq (ih (n + 1) _ (by omega) (crcIter_lt hlt)) ?_
    rw [List.drop_eq_getElem_cons (show n < xs.length by omega), List.map_cons, crcAll]
theorem impl_crc_ev (xs : List Int) (hm : xs.length ≤ 1099511627776) (hb : ∀ b ∈ xs, 0 ≤ b ∧ b < 256) : Ev (fun k => impl_crc.f k xs) ((crcOf xs : Nat) : Int) := by
  unfold impl_crc.f
  exact impl_crc_l0 xs hm hb xs.length 0 4294967295 (by omega) (by decide)
theorem impl_FrameOf_l0 (p : List Int) (c : Nat) (hp : p.length ≤ 1000000) : ∀ (d i : Nat), i + d = 4 → Ev (fun k => impl_FrameOf.l0 k (p ++ tab i fun i => ((c / 2 ^ (8 * i) % 256 : Nat) : Int)) (c : Int) (i : Int)) (p ++ four c) := by
  intro d
  induction d with
  | zero =>
    intro i hi
    have e : i = 4 := by omega
    subst e
    refine Ev.step (fun k => by rw [impl_FrameOf.l0]) ?_
    exact ev_neg (by omega) (ev_now _)
  | succ d ih =>
    intro i hi
    refine Ev.step (fun k => by rw [impl_FrameOf.l0]) ?_
    have e1 : wrap64 (8 * (i : Int)) = ((8 * i : Nat) : Int) := by rw [w64 (by omega) (by omega)]; omega
    have e2 : shr .i64 (c : Int) ((8 * i : Nat) : Int) % 256 = ((c / 2 ^ (8 * i) % 256 : Nat) : Int) := by
      unfold shr
      rw [Int.toNat_natCast, Nat.min_eq_left (by simp [IntKind.bits]; omega), show ((2 : Int) ^ (8 * i)) = ((2 ^ (8 * i) : Nat) : Int) by simp]
      rfl
    rw [e1, e2, w64 (by omega) (by omega), List.append_assoc, ← tab_succ (f := fun i => ((c / 2 ^ (8 * i) % 256 : Nat) : Int))]
    refine ev_pos (by omega) (ev_pos (by omega) (ev_pos (by rw [List.length_append, tab_length]; omega) ?_))
    exact ih (i + 1) (by omega)
theorem impl_FrameOf_ev (a : Int) (l : List Int) (hb : ∀ b ∈ l, 0 ≤ b ∧ b < 256) : Ev (fun k => impl_FrameOf.f k a l) (frameR a l) := by
  unfold impl_FrameOf.f frameR
  refine ev_some (impl_FrameOk_f a l) (ev_ite (fun h => ?_) (fun h => ?_))
  · have h' := of_decide_eq_true h
    rw [if_pos h']
    have hv := (varB_length 4 l.length).2
    have hp := frameP_length a l
    refine ev_some rfl (ev_bind (impl_VarOf_ev l.length (by omega)) (ev_pos (by simp; omega) (ev_some rfl (ev_pos (by simp; omega) (ev_some rfl ?_)))))
    refine ev_bind (impl_crc_ev (frameP a l) (by omega) (frameP_mem a l hb)) ?_
    have h := impl_FrameOf_l0 (frameP a l) (crcOf (frameP a l)) (by omega) 4 0 (by omega)
    rw [show (tab 0 fun i => ((crcOf (frameP a l) / 2 ^ (8 * i) % 256 : Nat) : Int)) = [] from rfl, List.append_nil] at h
    exact h
  · have h' : ¬ (0 ≤ a ∧ a ≤ 255 ∧ l.length ≤ 8000) := fun g => h (decide_eq_true g)
    rw [if_neg h']; exact ev_now _
theorem impl_FramesOf_l0 (l : List S27) (hb : bodiesOk l) (hm : l.length ≤ 1048576) : ∀ (d n : Nat) (out : List Int), n + d = l.length → out.length ≤ 8000 → Ev (fun k => impl_FramesOf.l0 k out l (l.length : Int) (n : Int)) (framesGo out (l.drop n)) := by
  intro d
  induction d with
  | zero =>
    intro n out hn ho
    rw [List.drop_eq_nil_of_le (by omega), framesGo]
    exact Ev.step (fun k => by rw [impl_FramesOf.l0]) (ev_neg (by omega) (ev_now _))
  | succ d ih =>
    intro n out hn ho
    have hlt : n < l.length := by omega
    rw [List.drop_eq_getElem_cons hlt, framesGo]
    refine Ev.step (fun k => by rw [impl_FramesOf.l0]) (ev_pos (by omega) (ev_pos (by omega) (ev_pos (by omega) ?_)))
    rw [rd_T27_lt hlt]
    have hf := frameR_length l[n].f0 l[n].f1
    refine ev_bind (impl_FrameOf_ev _ _ (hb _ (List.getElem_mem hlt))) ?_
    generalize frameR l[n].f0 l[n].f1 = t at *
    rw [w64 (n := (out.length : Int) + (t.length : Int)) (by omega) (by omega), w64 (n := (n : Int) + 1) (by omega) (by omega)]
    refine ev_ite (fun h => ?_) (fun h => ev_ite (fun h1 => ?_) (fun h1 => ev_pos (by omega) ?_))
    · rw [if_pos (by omega)]; exact ev_now _
    · rw [if_pos (by omega)]; exact ev_now _
    · rw [if_neg (by omega)]
      exact ih (n + 1) _ (by omega) (by rw [List.length_append]; omega)
theorem impl_FramesOf_ev (l : List S27) (hb : bodiesOk l) (hm : l.length ≤ 1048576) : Ev (fun k => impl_FramesOf.f k l) (framesGo [] l) := by
  have h := impl_FramesOf_l0 l hb hm l.length 0 [] (by omega) (by simp)
  rw [List.drop_zero] at h
  exact h
theorem impl_VarOf_R (v : Nat) : Ev (fun k => impl_VarOf.f k (v : Int)) (varOfR v) := by
  unfold varOfR
  split
  · rename_i h; exact impl_VarOf_ev v h
  · exact impl_VarOf_bad _ (by omega)
theorem wraps_u8 (n : Int) (h₀ : 0 ≤ n) (h₁ : n < 2 ^ 8) : IntKind.u8.wrap n = n := by rw [IntKind.wrap_u8']; omega
theorem impl_VarRead_l0 (xs : List Int) (a : Nat) (hm : xs.length ≤ 1048576) (ha : a ≤ xs.length) (hw : ∀ x ∈ xs, 0 ≤ x ∧ x < 256) : ∀ (d i acc : Nat), i + d = 5 → acc < 128 ^ i → Ev (fun k => impl_VarRead.l0 k xs (a : Int) (acc : Int) (xs.drop a) ((xs.drop a).length : Int) (i : Int)) (varL xs a d i acc) := by
  intro d
  induction d with
  | zero =>
    intro i acc hi hacc
    refine Ev.step (fun k => by rw [impl_VarRead.l0]) ?_
    rw [varL]
    exact ev_ite (fun _ => ev_pos (by omega) (ev_pos (by omega) (ev_pos (by omega) (ev_now _)))) (fun _ => ev_now _)
  | succ d ih =>
    intro i acc hi hacc
    refine Ev.step (fun k => by rw [impl_VarRead.l0]) ?_
    rw [varL]
    have hdl : (xs.drop a).length = xs.length - a := List.length_drop ..
    by_cases hlt : a + i < xs.length
    · have hx := hw _ (List.getElem_mem hlt)
      have hlt' : i < (xs.drop a).length := by omega
      obtain ⟨b, e⟩ : ∃ b : Nat, xs[a + i] = (b : Int) := ⟨xs[a + i].toNat, by omega⟩
      have hv := varL_step (b := b % 128) hacc (by omega)
      have hp5 : 128 ^ (i + 1) ≤ 128 ^ 5 := Nat.pow_le_pow_right (by decide) (by omega)
      have hpp : 128 ^ (i + 1) = 128 ^ i * 128 := Nat.pow_succ ..
      have e7 : wrap64 (7 * (i : Int)) = ((7 * i : Nat) : Int) := by rw [w64 (by omega) (by omega)]; omega
      have h27 : 2 ^ (7 * i) = 128 ^ i := by rw [Nat.pow_mul]
      have ev : Go.bits .or .i64 (acc : Int) (shl .i64 (wrap64 (Go.bits .and .u8 (b : Int) 127)) ((7 * i : Nat) : Int)) = ((acc + 128 ^ i * (b % 128) : Nat) : Int) := by
        have h := bits_mask .u8 8 (by decide) wraps_u8 7 (by decide) (b : Int) (by omega) (by omega)
        rw [show ((2 : Int) ^ 7 - 1) = 127 by decide, show (b : Int) % 2 ^ 7 = ((b % 128 : Nat) : Int) by omega] at h
        rw [h, w64 (by omega) (by omega), shl_i64 _ _ (by omega), ← Int.natCast_mul, h27, Nat.mul_comm (b % 128), w64 (by omega) (by omega), or_i64 _ _ (by omega) (by omega)]
        congr 1
        rw [← h27, Nat.or_comm, ← Nat.two_pow_add_eq_or_of_lt (by rw [h27]; exact hacc), Nat.add_comm]
      rw [if_pos hlt, rd_lt hlt', List.getElem_drop, List.getD_eq_getElem?_getD, List.getElem?_eq_getElem hlt, Option.getD_some, e, Int.toNat_natCast, e7, ev, w64 (n := (i : Int) + 1) (by omega) (by omega)]
      refine ev_pos (by omega) (ev_pos (by omega) (ev_pos (by omega) (ev_neg (by omega) (ev_pos (by omega) ?_))))
      refine ev_ite (fun h => ?_) (fun h => ?_)
      · rw [if_neg (by omega)]
        exact ih (i + 1) _ (by omega) hv
      · rw [if_pos (by omega)]
        refine ev_bind (impl_VarOf_R _) ?_
        rw [w64 (n := (a : Int) + (i : Int)) (by omega) (by omega), w64 (n := (a : Int) + (i : Int) + 1) (by omega) (by omega), show (a : Int) + (i : Int) + 1 = ((a + i + 1 : Nat) : Int) by omega, Int.toNat_natCast, Int.toNat_natCast]
        refine ev_pos (by omega) (ev_pos (by omega) (ev_pos (by omega) (ev_some rfl ?_)))
        by_cases h : (strOfNums (varOfR (acc + 128 ^ i * (b % 128)))).toList = (strOfNums ((xs.take (a + i + 1)).drop a)).toList
        · rw [if_pos h]; exact ev_pos (by rw [beq_iff_eq]; exact h) (ev_now _)
        · rw [if_neg h]; exact ev_neg (by rw [beq_iff_eq]; exact h) (ev_now _)
    · rw [if_neg hlt]
      exact ev_neg (by omega) (ev_now _)
theorem impl_VarRead_ev (xs : List Int) (a : Int) (hm : xs.length ≤ 1048576) (hw : ∀ x ∈ xs, 0 ≤ x ∧ x < 256) : Ev (fun k => impl_VarRead.f k xs a) (varReadR xs a) := by
  unfold impl_VarRead.f varReadR
  refine ev_some (impl_within_f a 0 _) ?_
  by_cases h : 0 ≤ a ∧ a ≤ xs.length
  · rw [decide_eq_true h]
    obtain ⟨a, rfl⟩ : ∃ a' : Nat, a = (a' : Int) := ⟨a.toNat, by omega⟩
    rw [Int.toNat_natCast]
    refine ev_pos rfl (ev_pos (by omega) (ev_pos (by omega) (ev_some rfl ?_)))
    have key := impl_VarRead_l0 xs a hm (by omega) hw 5 0 0 (by omega) (by decide)
    by_cases h1 : (a : Int) < xs.length
    · rw [if_pos ⟨by omega, h1⟩]; exact key
    · rw [if_neg (by omega)]
      rw [varL, if_neg (by omega)] at key
      exact key
  · rw [decide_eq_false h, if_neg (by omega)]
    exact ev_neg (by decide) (ev_now _)
theorem impl_FrameRead_ev (xs : List Int) (a : Int) (hm : xs.length ≤ 1048576) (hb : ∀ b ∈ xs, 0 ≤ b ∧ b < 256) (ha : -9223372036854775808 ≤ a ∧ a ≤ 9223372036854775807) : Ev (fun k => impl_FrameRead.f k xs a) (frameReadR xs a) := by
  unfold impl_FrameRead.f frameReadR
  have bad1 : ∀ n r : Int, Ev (fun k => impl_FrameRead.j0 k xs a n r true) (0, [], 0, false) := by
    intro n r
    refine Ev.step (fun k => by rw [impl_FrameRead.j0]) ?_
    exact ev_pos rfl (ev_now _)
  rw [w64 (n := (xs.length : Int) - 2) (by omega) (by omega)]
  refine ev_some (impl_within_f a 0 _) (ev_ite (fun h => ?_) (fun h => ?_))
  · have h := of_decide_eq_true h
    obtain ⟨a, rfl⟩ : ∃ a' : Nat, a = (a' : Int) := ⟨a.toNat, by omega⟩
    rw [w64 (n := (a : Int) + 2) (by omega) (by omega), show (a : Int) + 2 = ((a + 2 : Nat) : Int) by omega]
    refine ev_bind (impl_VarRead_ev xs _ hm hb) (ev_ite (fun hok => ?_) (fun hok => ?_))
    · rw [if_pos ⟨by omega, by omega, hok⟩]
      obtain ⟨n, r, e, har, hrl, hv⟩ := varReadR_ok xs (a + 2) hok
      rw [e]
      simp only [Int.toNat_natCast]
      refine ev_ite (fun h => ?_) (fun h => ?_)
      · unfold frameAt
        rw [if_neg (by omega)]; exact bad1 _ _
      · rw [w64 (n := (xs.length : Int) - (r : Int)) (by omega) (by omega), w64 (n := (n : Int) + 4) (by omega) (by omega)]
        by_cases hn : (n : Int) + 4 > (xs.length : Int) - (r : Int)
        · rw [decide_eq_true hn]
          unfold frameAt
          rw [if_neg (by omega)]; exact bad1 _ _
        · rw [decide_eq_false hn]
          refine Ev.step (fun k => by rw [impl_FrameRead.j0]) (ev_neg (by decide) ?_)
          have hlen := frameR_len hb (a := a) (n := n) (r := r) (by omega) (by omega) (by omega) hv
          have hby := getD_byte hb (a + 1)
          rw [w64 (n := (a : Int) + 1) (by omega) (by omega), w64 (n := (r : Int) + (n : Int)) (by omega) (by omega), show (a : Int) + 1 = ((a + 1 : Nat) : Int) by omega, rd_getD, w64 (n := xs.getD (a + 1) 0) (by omega) (by omega), w64 (n := (r : Int) + (n : Int) + 4) (by omega) (by omega), show (r : Int) + (n : Int) + 4 = ((r + n + 4 : Nat) : Int) by omega, show (r : Int) + (n : Int) = ((r + n : Nat) : Int) by omega, Int.toNat_natCast, Int.toNat_natCast, Int.toNat_natCast, Int.toNat_natCast]
          have hcl : ((xs.take (r + n)).drop r).length ≤ 8000 := by rw [List.length_drop, List.length_take]; omega
          have hclone : bytes_Clone.f ((xs.take (r + n)).drop r) = some ((xs.take (r + n)).drop r) := by
            unfold bytes_Clone.f
            rw [Option.bind_some, if_pos (by rw [List.length_nil]; omega), List.nil_append]
          refine ev_pos (by omega) (ev_pos (by omega) (ev_pos (by omega) (ev_pos (by omega) (ev_pos (by omega) (ev_some hclone (ev_bind (impl_FrameOf_ev _ _ (cut_mem hb _ _)) ?_))))))
          refine ev_pos (by omega) (ev_pos (by omega) (ev_pos (by omega) (ev_some rfl ?_)))
          unfold frameAt
          by_cases g : (strOfNums (frameR (xs.getD (a + 1) 0) ((xs.take (r + n)).drop r))).toList = (strOfNums ((xs.take (r + n + 4)).drop a)).toList
          · have h90 : xs.getD a 0 = 90 := by
              have hlt : a < xs.length := by omega
              have hmem : ∀ b ∈ frameR (xs.getD (a + 1) 0) ((xs.take (r + n)).drop r), 0 ≤ b ∧ b < 256 := by
                unfold frameR
                split
                · exact frameL_mem _ _ (cut_mem hb _ _)
                · intro b hb'; simp at hb'
              have q := strs_inj hmem (cut_mem hb _ _) g
              have q0 := congrArg (fun l : List Int => l.getD 0 0) q
              unfold frameR at q0
              rw [if_pos ⟨by omega, by omega, by omega⟩] at q0
              rw [show (frameL (xs.getD (a + 1) 0) ((xs.take (r + n)).drop r)).getD 0 0 = 90 from rfl] at q0
              rw [q0]
              simp only [List.getD_eq_getElem?_getD, List.getElem?_drop, Nat.add_zero]
              rw [List.getElem?_take, if_pos (by omega)]
            rw [if_pos (show xs.getD a 0 = 90 ∧ n ≤ 8000 ∧ r + n + 4 ≤ xs.length ∧ (strOfNums (frameR (xs.getD (a + 1) 0) ((xs.take (r + n)).drop r))).toList = (strOfNums ((xs.take (r + n + 4)).drop a)).toList from ⟨h90, by omega, by omega, g⟩)]
            exact ev_pos (by rw [beq_iff_eq]; exact g) (ev_now _)
          · rw [if_neg (show ¬ (xs.getD a 0 = 90 ∧ n ≤ 8000 ∧ r + n + 4 ≤ xs.length ∧ (strOfNums (frameR (xs.getD (a + 1) 0) ((xs.take (r + n)).drop r))).toList = (strOfNums ((xs.take (r + n + 4)).drop a)).toList) from fun q => g q.2.2.2)]
            exact ev_neg (by rw [beq_iff_eq]; exact g) (ev_now _)
    · rw [if_neg (fun g => hok g.2.2)]; exact bad1 _ _
  · have h' : ¬ (0 ≤ a ∧ a ≤ (xs.length : Int) - 2) := fun g => h (decide_eq_true g)
    rw [if_neg (fun g => h' ⟨g.1, g.2.1⟩)]; exact ev_now _
def framesReadGo (xs : List Int) : Nat → List S27 → Int → List S27 × Int
  | 0, acc, a => (acc, a)
  | f + 1, acc, a => if (frameReadR xs a).2.2.2 = true then framesReadGo xs f (acc ++ [⟨(frameReadR xs a).1, (frameReadR xs a).2.1⟩]) (frameReadR xs a).2.2.1 else (acc, a)
def framesReadR (xs : List Int) : List S27 × Int := if 8000 < xs.length then ([], -1) else framesReadGo xs (xs.length + 1) [] 0
theorem impl_FramesRead_l0 (xs : List Int) (hb : ∀ b ∈ xs, 0 ≤ b ∧ b < 256) (hm : xs.length ≤ 8000) : ∀ (f : Nat) (acc : List S27) (a : Nat), a ≤ xs.length → xs.length < a + f → acc.length ≤ a → Ev (fun k => impl_FramesRead.l0 k xs acc (a : Int)) (framesReadGo xs f acc (a : Int)) := by
  intro f
  induction f with
  | zero => intro acc a h1 h2; omega
  | succ f ih =>
    intro acc a h1 h2 h3
    rw [framesReadGo]
    refine Ev.step (fun k => by rw [impl_FramesRead.l0]) (ev_bind (impl_FrameRead_ev xs (a : Int) (by omega) hb (by omega)) ?_)
    refine ev_ite (fun h => ?_) (fun h => ?_)
    · rw [if_pos h]
      obtain ⟨k', l', e', ok', hE⟩ : ∃ k' l' e' ok', frameReadR xs (a : Int) = (k', l', e', ok') := ⟨_, _, _, _, rfl⟩
      rw [hE] at h ⊢
      have h : ok' = true := h
      subst h
      obtain ⟨_, _, _, n, hn, h5, h6, _⟩ := frameRead_is xs hb a k' l' e' hE
      subst hn
      refine ev_pos (by omega) ?_
      exact ih _ n h5 (by omega) (by rw [List.length_append, List.length_singleton]; omega)
    · rw [if_neg h]; exact ev_now _
theorem impl_FramesRead_ev (xs : List Int) (hb : ∀ b ∈ xs, 0 ≤ b ∧ b < 256) (hm : xs.length ≤ 1048576) : Ev (fun k => impl_FramesRead.f k xs) (framesReadR xs) := by
  unfold impl_FramesRead.f framesReadR
  refine ev_ite (fun h => ?_) (fun h => ?_)
  · rw [if_pos (by omega)]; exact ev_now _
  · rw [if_neg (by omega)]
    exact impl_FramesRead_l0 xs hb (by omega) (xs.length + 1) [] 0 (by omega) (by omega) (by simp)
theorem laws_bytesOf_f (l : List Int) (h : l.length < 140737488355328) : laws_bytesOf.f l = some l := by
  unfold laws_bytesOf.f
  rw [Option.bind_some, if_pos (by rw [List.length_nil]; omega), List.nil_append]
theorem laws_pick_l0 (code : List Int) (hb : ∀ b ∈ code, 0 ≤ b ∧ b < 256) (hm : code.length ≤ 1048576) (h0 : 0 < code.length) (a1 x2 : Int) (ha : 0 ≤ a1 ∧ a1 ≤ 1000) (hx : 1 ≤ x2) : ∀ (d i : Nat) (x7 : Int), i + d = 3 → 0 ≤ x7 → x7 ≤ 255 * 40 ^ i → ∃ v, Ev (fun k => laws_pick.l0 k code a1 x2 x7 (i : Int)) v ∧ 0 ≤ v ∧ v < x2 := by
  intro d
  induction d with
  | zero =>
    intro i x7 hi h1 h2
    have e : i = 3 := by omega
    subst e
    have h2 : x7 ≤ 16320000 := h2
    refine ⟨Int.tmod (wrap64 (x7 + a1)) x2, Ev.step (fun k => by rw [laws_pick.l0]) (ev_neg (by omega) (ev_neg (by omega) (ev_now _))), ?_⟩
    rw [w64 (by omega) (by omega), Int.tmod_eq_emod_of_nonneg (by omega)]
    exact ⟨Int.emod_nonneg _ (by omega), Int.emod_lt_of_pos _ (by omega)⟩
  | succ d ih =>
    intro i x7 hi h1 h2
    have hp : (40 : Int) ^ i ≤ 1600 ∧ (40 : Int) ^ (i + 1) = 40 ^ i * 40 ∧ 1 ≤ (40 : Int) ^ i := by
      have hi3 : i < 3 := by omega
      match i, hi3 with
      | 0, _ => decide
      | 1, _ => decide
      | 2, _ => decide
    have e1 : wrap64 (a1 + (i : Int)) = a1 + (i : Int) := w64 (by omega) (by omega)
    have e2 : Int.tmod (a1 + (i : Int)) (code.length : Int) = (a1 + (i : Int)) % (code.length : Int) := Int.tmod_eq_emod_of_nonneg (by omega)
    have m1 := Int.emod_nonneg (a1 + (i : Int)) (b := (code.length : Int)) (by omega)
    have m2 := Int.emod_lt_of_pos (a1 + (i : Int)) (show (0 : Int) < (code.length : Int) by omega)
    have hr : 0 ≤ rd code ((a1 + (i : Int)) % (code.length : Int)) ∧ rd code ((a1 + (i : Int)) % (code.length : Int)) < 256 := by rw [rd_of m1 m2]; exact hb _ (List.getElem_mem _)
    obtain ⟨v, k1, k2, k3⟩ := ih (i + 1) (31 * x7 + rd code ((a1 + (i : Int)) % (code.length : Int))) (by omega) (by omega) (by omega)
    refine ⟨v, ?_, k2, k3⟩
    refine Ev.step (fun k => by rw [laws_pick.l0]) (ev_pos (by omega) (ev_neg (by omega) ?_))
    rw [e1, e2]
    refine ev_pos m1 (ev_pos m2 ?_)
    rw [w64 (n := 31 * x7) (by omega) (by omega), w64 (n := rd code ((a1 + (i : Int)) % (code.length : Int))) (by omega) (by omega), w64 (n := 31 * x7 + rd code ((a1 + (i : Int)) % (code.length : Int))) (by omega) (by omega), w64 (by omega) (by omega)]
    exact k1
theorem laws_pick_ev (code : List Int) (hb : ∀ b ∈ code, 0 ≤ b ∧ b < 256) (hm : code.length ≤ 1048576) (a1 x2 : Int) (ha : 0 ≤ a1 ∧ a1 ≤ 1000) (hx : 1 ≤ x2) : ∃ v, Ev (fun k => laws_pick.f k code a1 x2) v ∧ 0 ≤ v ∧ v < x2 := by
  unfold laws_pick.f
  have bad : Ev (fun k => laws_pick.j0 k code a1 x2 true) 0 := Ev.step (fun k => by rw [laws_pick.j0]) (ev_pos rfl (ev_now _))
  by_cases h0 : code.length = 0
  · exact ⟨0, ev_pos (by omega) bad, by omega, by omega⟩
  · by_cases h2 : x2 < 2
    · exact ⟨0, ev_neg (by omega) (by rw [decide_eq_true h2]; exact bad), by omega, by omega⟩
    · obtain ⟨v, k1, k2, k3⟩ := laws_pick_l0 code hb hm (by omega) a1 x2 ha hx 3 0 0 (by omega) (by omega) (by omega)
      refine ⟨v, ev_neg (by omega) ?_, k2, k3⟩
      rw [decide_eq_false h2]
      refine Ev.step (fun k => by rw [laws_pick.j0]) ?_
      exact ev_neg (by decide) k1

def catF : List S27 → List Int
  | [] => []
  | x :: xs => frameL x.f0 x.f1 ++ catF xs
def okF (x : S27) : Prop := (0 ≤ x.f0 ∧ x.f0 ≤ 255) ∧ x.f1.length ≤ 8000 ∧ ∀ b ∈ x.f1, 0 ≤ b ∧ b < 256
theorem catF_append : ∀ a b : List S27, catF (a ++ b) = catF a ++ catF b
  | [], b => rfl
  | x :: xs, b => by rw [List.cons_append, catF, catF, catF_append xs b, List.append_assoc]
theorem catF_mem : ∀ l : List S27, (∀ x ∈ l, okF x) → ∀ b ∈ catF l, 0 ≤ b ∧ b < 256
  | [], _, b, hb => by cases hb
  | x :: xs, h, b, hb => by
    rw [catF] at hb
    rcases List.mem_append.1 hb with g | g
    · exact frameL_mem _ _ (h x List.mem_cons_self).2.2 b g
    · exact catF_mem xs (fun y hy => h y (List.mem_cons_of_mem _ hy)) b g
theorem catF_len : ∀ l : List S27, l.length ≤ (catF l).length
  | [] => Nat.le_refl _
  | x :: xs => by
    have := catF_len xs
    have := frameL_length x.f0 x.f1
    rw [catF, List.length_append, List.length_cons]
    omega
theorem framesGo_ok : ∀ (l : List S27) (out : List Int), out.length ≤ 8000 → bodiesOk l → (framesGo out l).2 = true → framesGo out l = (out ++ catF l, true) ∧ (∀ x ∈ l, okF x) ∧ (out ++ catF l).length ≤ 8000
  | [], out, h0, _, _ => ⟨by rw [framesGo, catF, List.append_nil], fun x hx => (by cases hx), by rw [catF, List.append_nil]; exact h0⟩
  | x :: xs, out, h0, hb, h => by
    rw [framesGo] at h ⊢
    by_cases g : (frameR x.f0 x.f1).length = 0 ∨ 8000 < out.length + (frameR x.f0 x.f1).length
    · rw [if_pos g] at h; cases h
    · rw [if_neg g] at h ⊢
      have hx : (0 ≤ x.f0 ∧ x.f0 ≤ 255 ∧ x.f1.length ≤ 8000) := by
        rcases Classical.em (0 ≤ x.f0 ∧ x.f0 ≤ 255 ∧ x.f1.length ≤ 8000) with q | q
        · exact q
        · exact absurd (Or.inl (by unfold frameR; rw [if_neg q]; rfl)) g
      have e : frameR x.f0 x.f1 = frameL x.f0 x.f1 := by unfold frameR; rw [if_pos hx]
      rw [e] at h g ⊢
      obtain ⟨h1, h2, h3⟩ := framesGo_ok xs (out ++ frameL x.f0 x.f1) (by rw [List.length_append]; omega) (fun y hy => hb y (List.mem_cons_of_mem _ hy)) h
      rw [List.append_assoc] at h1 h3
      refine ⟨h1, ?_, h3⟩
      intro y hy
      rcases List.mem_cons.1 hy with q | q
      · subst q; exact ⟨⟨hx.1, hx.2.1⟩, hx.2.2, hb _ List.mem_cons_self⟩
      · exact h2 y q
theorem readGo_cat : ∀ (l : List S27) (pre suf : List Int) (acc : List S27) (f : Nat), (∀ x ∈ l, okF x) → framesReadGo (pre ++ catF l ++ suf) (f + l.length) acc (pre.length : Int) = framesReadGo (pre ++ catF l ++ suf) f (acc ++ l) (((pre ++ catF l).length : Nat) : Int)
  | [], pre, suf, acc, f, _ => by rw [catF, List.append_nil, List.append_nil]; rfl
  | x :: xs, pre, suf, acc, f, h => by
    have hx := h x List.mem_cons_self
    have hr := frameRead_back pre (catF xs ++ suf) x.f0 x.f1 hx.2.2 hx.1 hx.2.1
    have e : pre ++ frameL x.f0 x.f1 ++ (catF xs ++ suf) = pre ++ catF (x :: xs) ++ suf := by rw [catF]; simp only [List.append_assoc]
    rw [e] at hr
    rw [List.length_cons, ← Nat.add_assoc, framesReadGo, hr, if_pos rfl]
    have ih := readGo_cat xs (pre ++ frameL x.f0 x.f1) suf (acc ++ [x]) f (fun y hy => h y (List.mem_cons_of_mem _ hy))
    have e2 : pre ++ frameL x.f0 x.f1 ++ catF xs = pre ++ catF (x :: xs) := by rw [catF]; simp only [List.append_assoc]
    rw [e2, List.append_assoc acc, List.length_append (bs := frameL x.f0 x.f1)] at ih
    exact ih
theorem read_end (xs : List Int) (a : Nat) (h : xs.length ≤ a) : (frameReadR xs (a : Int)).2.2.2 = false := by
  unfold frameReadR
  rw [if_neg (by omega)]
theorem read_short (pre : List Int) (hp : ∀ b ∈ pre, 0 ≤ b ∧ b < 256) (x : S27) (hx : okF x) (m : Nat) (hm : m < (frameL x.f0 x.f1).length) : (frameReadR (pre ++ (frameL x.f0 x.f1).take m) (pre.length : Int)).2.2.2 = false := by
  cases hok : (frameReadR (pre ++ (frameL x.f0 x.f1).take m) (pre.length : Int)).2.2.2 with
  | false => rfl
  | true =>
    exfalso
    have ht := frameL_mem x.f0 x.f1 hx.2.2
    have back := frameRead_back [] [] x.f0 x.f1 hx.2.2 hx.1 hx.2.1
    rw [List.nil_append, List.append_nil, List.length_nil, Nat.zero_add] at back
    generalize frameL x.f0 x.f1 = t at *
    obtain ⟨k', l', e', ok', hE⟩ : ∃ k' l' e' ok', frameReadR (pre ++ t.take m) (pre.length : Int) = (k', l', e', ok') := ⟨_, _, _, _, rfl⟩
    rw [hE] at hok
    have hok : ok' = true := hok
    subst hok
    obtain ⟨f1, f2, f3, n, f4, f5, f6, f7⟩ := frameRead_is _ (by
      intro b hb
      rcases List.mem_append.1 hb with g | g
      · exact hp b g
      · exact ht b (List.mem_of_mem_take g)) _ _ _ _ hE
    have e1 : ((pre ++ t.take m).take n).drop pre.length = t.take (min (n - pre.length) m) := by
      rw [List.drop_take, List.drop_left, List.take_take]
    rw [e1] at f7
    have e2 : t = frameL k' l' ++ t.drop (min (n - pre.length) m) := by rw [← f7, List.take_append_drop]
    have b2 := frameRead_back [] (t.drop (min (n - pre.length) m)) k' l' f3 f1 f2
    rw [List.nil_append, ← e2, List.length_nil, Nat.zero_add] at b2
    rw [back] at b2
    have e3 : t.length = (frameL k' l').length := by
      have := congrArg (fun q : Int × List Int × Int × Bool => q.2.2.1) b2
      have : ((t.length : Nat) : Int) = (((frameL k' l').length : Nat) : Int) := this
      omega
    rw [← f7, List.length_take] at e3
    omega
theorem read_all (l : List S27) (h : ∀ x ∈ l, okF x) (hm : (catF l).length ≤ 8000) : framesReadR (catF l) = (l, ((catF l).length : Int)) := by
  unfold framesReadR
  rw [if_neg (by omega)]
  have hc := catF_len l
  have g := readGo_cat l [] [] [] ((catF l).length - l.length + 1) h
  rw [List.nil_append, List.append_nil, List.nil_append, show (catF l).length - l.length + 1 + l.length = (catF l).length + 1 by omega] at g
  have g : framesReadGo (catF l) ((catF l).length + 1) [] 0 = framesReadGo (catF l) ((catF l).length - l.length + 1) l ((catF l).length : Int) := g
  rw [g, framesReadGo, read_end _ _ (Nat.le_refl _)]
  rfl
theorem read_less (l : List S27) (x : S27) (h : ∀ y ∈ l, okF y) (hx : okF x) (m : Nat) (hm : m < (frameL x.f0 x.f1).length) (hl : (catF l).length + m ≤ 8000) : framesReadR (catF l ++ (frameL x.f0 x.f1).take m) = (l, ((catF l).length : Int)) := by
  have hc := catF_len l
  have hs := read_short (catF l) (catF_mem l h) x hx m hm
  have g := readGo_cat l [] ((frameL x.f0 x.f1).take m) [] ((catF l).length - l.length + m + 1) h
  have hlen : (catF l ++ (frameL x.f0 x.f1).take m).length = (catF l).length + m := by rw [List.length_append, List.length_take]; omega
  unfold framesReadR
  rw [if_neg (by rw [hlen]; omega), hlen]
  rw [List.nil_append, List.nil_append, show (catF l).length - l.length + m + 1 + l.length = (catF l).length + m + 1 by omega] at g
  have g : framesReadGo (catF l ++ (frameL x.f0 x.f1).take m) ((catF l).length + m + 1) [] 0 = framesReadGo (catF l ++ (frameL x.f0 x.f1).take m) ((catF l).length - l.length + m + 1) l ((catF l).length : Int) := g
  rw [g, framesReadGo, hs]
  rfl
theorem FnFramesBack : laws_FnFramesBack.Pure := by
  intro code hl _ hw
  refine Ev.rounds ?_
  unfold laws_FnFramesBack.f
  have hb : ∀ b ∈ code, 0 ≤ b ∧ b < 256 := fun x hx => wf_u8 (hw x hx)
  refine ev_some (show laws_big.f code = some (decide ((code.length : Int) > 1048576)) from rfl) (ev_ite (fun _ => ev_now _) (fun h => ?_))
  have hm : code.length ≤ 1048576 := by
    rcases Nat.lt_or_ge 1048576 code.length with g | g
    · exact absurd (decide_eq_true (by omega)) h
    · exact g
  obtain ⟨L, d1, d2, d3, d4⟩ := drawFramesOf_ok code hb hm
  refine ev_bind d1 (ev_bind (spec_FramesOf_ev L d3 (by omega)) (ev_bind (impl_FramesOf_ev L d3 (by omega)) ?_))
  cases hok : (framesGo [] L).2 with
  | false =>
    refine ev_neg (by decide) ?_
    show Ev (fun k => laws_FnFramesBack.j0 k code L false (framesGo [] L).1 false true) true
    refine Ev.step (fun k => by rw [laws_FnFramesBack.j0]) ?_
    exact ev_pos rfl (ev_now' rfl)
  | true =>
    refine ev_neg (by decide) ?_
    obtain ⟨g1, g2, g3⟩ := framesGo_ok L [] (by simp) d3 hok
    rw [List.nil_append] at g1 g3
    rw [g1]
    show Ev (fun k => laws_FnFramesBack.j0 k code L true (catF L) true false) true
    refine Ev.step (fun k => by rw [laws_FnFramesBack.j0]) (ev_neg (by decide) (ev_some (laws_bytesOf_f _ (by omega)) ?_))
    have hr := impl_FramesRead_ev (catF L) (catF_mem L g2) (by omega)
    rw [read_all L g2 g3] at hr
    refine ev_bind hr (ev_pos rfl ?_)
    show Ev (fun k => laws_FnFramesBack.j1 k code L (catF L) L ((L.length : Int) != (L.length : Int))) true
    rw [show ((L.length : Int) != (L.length : Int)) = false by simp]
    refine Ev.step (fun k => by rw [laws_FnFramesBack.j1]) (ev_neg (by decide) ?_)
    have loop : ∀ d n : Nat, n + d = L.length → Ev (fun k => laws_FnFramesBack.l0 k code L (catF L) L (n : Int)) true := by
      intro d
      induction d with
      | succ d ih =>
        intro n hn
        refine Ev.step (fun k => by rw [laws_FnFramesBack.l0]) (ev_pos (by omega) (ev_pos (by omega) (ev_pos (by omega) (ev_pos rfl (ev_pos rfl ?_)))))
        rw [w64 (n := (n : Int) + 1) (by omega) (by omega)]
        exact ih (n + 1) (by omega)
      | zero =>
        intro n hn
        refine Ev.step (fun k => by rw [laws_FnFramesBack.l0]) (ev_neg (by omega) (ev_ite (fun h0 => ?_) (fun h0 => ?_)))
        · have : L = [] := List.eq_nil_of_length_eq_zero (by omega)
          subst this
          exact ev_now' rfl
        · obtain ⟨l, x, hL⟩ : ∃ l x, L = l ++ [x] := ⟨L.dropLast, L.getLast (by intro q; rw [q] at h0; exact h0 rfl), (List.dropLast_concat_getLast _).symm⟩
          have hlen : L.length = l.length + 1 := by rw [hL, List.length_append, List.length_singleton]
          have hx : okF x := g2 x (by rw [hL]; simp)
          have hl2 : ∀ y ∈ l, okF y := fun y hy => g2 y (by rw [hL]; exact List.mem_append_left _ hy)
          have hD : catF L = catF l ++ frameL x.f0 x.f1 := by rw [hL, catF_append, catF, catF, List.append_nil]
          have hDl : (catF L).length = (catF l).length + (frameL x.f0 x.f1).length := by rw [hD, List.length_append]
          have ew : wrap64 ((L.length : Int) - 1) = (l.length : Int) := by rw [w64 (by omega) (by omega)]; omega
          have erd : rd_T27 L (l.length : Int) = x := by rw [rd_T27_lt (by omega)]; simp [hL]
          have hfr : frameR x.f0 x.f1 = frameL x.f0 x.f1 := by unfold frameR; rw [if_pos ⟨hx.1.1, hx.1.2, hx.2.1⟩]
          have hfl := frameL_length x.f0 x.f1
          have ht := impl_FrameOf_ev x.f0 x.f1 hx.2.2
          rw [hfr] at ht
          obtain ⟨v, p1, p2, p3⟩ := laws_pick_ev code hb hm 5 ((frameL x.f0 x.f1).length : Int) (by omega) (by omega)
          obtain ⟨v, rfl⟩ : ∃ v' : Nat, v = (v' : Int) := ⟨v.toNat, by omega⟩
          rw [ew, erd]
          refine ev_pos (by omega) (ev_pos (by omega) (ev_bind ht (ev_bind p1 ?_)))
          have e2 : wrap64 (wrap64 (((catF L).length : Int) - 1) - (v : Int)) = (((catF l).length + ((frameL x.f0 x.f1).length - 1 - v) : Nat) : Int) := by
            rw [w64 (n := ((catF L).length : Int) - 1) (by omega) (by omega), w64 (by omega) (by omega)]; omega
          rw [e2]
          refine ev_pos (by omega) (ev_pos (by omega) ?_)
          have e3 : (catF L).take (((catF l).length + ((frameL x.f0 x.f1).length - 1 - v) : Nat) : Int).toNat = catF l ++ (frameL x.f0 x.f1).take ((frameL x.f0 x.f1).length - 1 - v) := by
            rw [Int.toNat_natCast, hD, List.take_length_add_append]
          rw [e3]
          have hr2 := impl_FramesRead_ev (catF l ++ (frameL x.f0 x.f1).take ((frameL x.f0 x.f1).length - 1 - v)) (by
            intro b hb2
            rcases List.mem_append.1 hb2 with q | q
            · exact catF_mem l hl2 b q
            · exact frameL_mem _ _ hx.2.2 b (List.mem_of_mem_take q)) (by rw [List.length_append, List.length_take]; omega)
          rw [read_less l x hl2 hx _ (by omega) (by omega)] at hr2
          refine ev_bind hr2 (ev_pos rfl (ev_now' ?_))
          rw [w64 (by omega) (by omega)]
          show (((catF l).length : Int) == ((catF L).length : Int) - ((frameL x.f0 x.f1).length : Int)) = true
          rw [beq_iff_eq]; omega
    exact loop L.length 0 (by omega)

end Go.Proofs.Ytebdjkdmmdninaa.Pure
