/- Plain lemmas about rounds (Ev), wraps and lists, for the pure statements of this seat; no program in sight. -/
import Derived.Test.YteckcjjkblkfkaaWWords
import Derived.Test.YteckcjjkblkfkaaWLast
import Derived.Test.YteckcjjkblkfkaaWMore
import Derived.Laws.Bits128
import Derived.Laws.BytesArg
import Derived.Laws.BitsAllLaws
namespace Go.Proofs.Yteckcjjkblkfkaa.Lib
open Go.RowKit Go.Proofs.YteckcjjkblkfkaaW.PrintWords Go.Proofs.YteckcjjkblkfkaaW.PrintLast Go.Proofs.YteckcjjkblkfkaaW.PrintMore

theorem w64 {n : Int} (h0 : -9223372036854775808 ≤ n) (h1 : n ≤ 9223372036854775807) : wrap64 n = n := by unfold wrap64; omega
theorem rd_nat (xs : List Int) (n : Nat) : rd xs (n : Int) = xs.getD n 0 := by simp [rd]
theorem rd_lt {xs : List Int} {n : Nat} (h : n < xs.length) : rd xs (n : Int) = xs[n] := by simp [rd, h]
theorem rd_of {xs : List Int} {i : Int} (h0 : 0 ≤ i) (h : i < xs.length) : rd xs i = xs[i.toNat]'(by omega) := by
  have : i.toNat < xs.length := by omega
  simp [rd, this]
section
variable {α β : Type} {r : α}
theorem ev_pos {c : Prop} [Decidable c] {t e : Nat → Option α} (h : c) (k : Ev t r) : Ev (fun n => if c then t n else e n) r := by
  obtain ⟨K, k⟩ := k; exact ⟨K, fun n hn => (if_pos h).trans (k n hn)⟩
theorem ev_neg {c : Prop} [Decidable c] {t e : Nat → Option α} (h : ¬ c) (k : Ev e r) : Ev (fun n => if c then t n else e n) r := by
  obtain ⟨K, k⟩ := k; exact ⟨K, fun n hn => (if_neg h).trans (k n hn)⟩
theorem ev_ite {c : Prop} [Decidable c] {t e : Nat → Option α} (h : c → Ev t r) (g : ¬ c → Ev e r) : Ev (fun n => if c then t n else e n) r := by
  by_cases hc : c
  · exact ev_pos hc (h hc)
  · exact ev_neg hc (g hc)
theorem ev_bind {g : Nat → Option β} {f : Nat → β → Option α} {a : β} (h : Ev g a) (k : Ev (fun n => f n a) r) : Ev (fun n => (g n).bind (f n)) r := Ev.bind h k
theorem ev_some {f : Nat → β → Option α} {a : β} {g : Option β} (h : g = some a) (k : Ev (fun n => f n a) r) : Ev (fun n => g.bind (f n)) r := by
  subst h; exact k
theorem ev_now (r : α) : Ev (fun _ => some r) r := Ev.now r
theorem ev_now' {r s : α} (h : s = r) : Ev (fun _ => some s) r := h ▸ Ev.now s
theorem ev_const {g : Option α} (h : g = some r) : Ev (fun _ => g) r := by subst h; exact Ev.now r
theorem ev_eq {s : α} {g : Nat → Option α} (k : Ev g s) (h : s = r) : Ev g r := h ▸ k
end
/-! ### bits -/
theorem wraps_i64 (n : Int) (h₀ : 0 ≤ n) (h₁ : n < 2 ^ 63) : IntKind.i64.wrap n = n := by rw [IntKind.wrap_i64]; omega
theorem wrap_u64 (n : Int) : IntKind.u64.wrap n = n % 18446744073709551616 := by simp [IntKind.wrap, IntKind.bits, IntKind.signed]
theorem wraps_u64 (n : Int) (h₀ : 0 ≤ n) (h₁ : n < 2 ^ 64) : IntKind.u64.wrap n = n := by rw [wrap_u64]; omega
theorem wraps_u32 (n : Int) (h₀ : 0 ≤ n) (h₁ : n < 2 ^ 32) : IntKind.u32.wrap n = n := by rw [IntKind.wrap_u32]; omega
theorem or_i64 (a b : Nat) (ha : a < 2 ^ 63) (hb : b < 2 ^ 63) : Go.bits .or .i64 (a : Int) (b : Int) = ((a ||| b : Nat) : Int) := (bits_nat .i64 63 (by decide) wraps_i64 a b ha hb).2
theorem and_i64 (a b : Nat) (ha : a < 2 ^ 63) (hb : b < 2 ^ 63) : Go.bits .and .i64 (a : Int) (b : Int) = ((a &&& b : Nat) : Int) := (bits_nat .i64 63 (by decide) wraps_i64 a b ha hb).1
theorem bits_xor (k : IntKind) (j : Nat) (hj : j ≤ k.bits) (hk : ∀ n : Int, 0 ≤ n → n < 2 ^ j → k.wrap n = n) (a b : Nat) (ha : a < 2 ^ j) (hb : b < 2 ^ j) : Go.bits .xor k a b = ((a ^^^ b : Nat) : Int) := by
  have hp : 2 ^ j ≤ 2 ^ k.bits := Nat.pow_le_pow_right (by decide) hj
  have ha' : a % 2 ^ k.bits = a := Nat.mod_eq_of_lt (Nat.lt_of_lt_of_le ha hp)
  have hb' : b % 2 ^ k.bits = b := Nat.mod_eq_of_lt (Nat.lt_of_lt_of_le hb hp)
  have cast : ∀ n : Nat, n < 2 ^ j → ((n : Nat) : Int) < 2 ^ j := fun n h => by exact_mod_cast h
  simp only [bits, BitVec.ofInt_natCast, BitVec.toNat_xor, BitVec.toNat_ofNat, ha', hb']
  exact hk _ (Int.natCast_nonneg _) (cast _ (Nat.xor_lt_two_pow ha hb))
theorem xor_i64 (a b : Nat) (ha : a < 2 ^ 63) (hb : b < 2 ^ 63) : Go.bits .xor .i64 (a : Int) (b : Int) = ((a ^^^ b : Nat) : Int) := bits_xor .i64 63 (by decide) wraps_i64 a b ha hb
theorem xor_u32 (a b : Nat) (ha : a < 2 ^ 32) (hb : b < 2 ^ 32) : Go.bits .xor .u32 (a : Int) (b : Int) = ((a ^^^ b : Nat) : Int) := bits_xor .u32 32 (by decide) wraps_u32 a b ha hb
theorem and1_u32 (a : Nat) (ha : a < 2 ^ 32) : Go.bits .and .u32 (a : Int) 1 = ((a % 2 : Nat) : Int) := by
  have h := bits_mask .u32 32 (by decide) wraps_u32 1 (by decide) (a : Int) (by omega) (by omega)
  simpa using h
theorem tdiv_nat (a b : Nat) : Int.tdiv (a : Int) (b : Int) = ((a / b : Nat) : Int) := rfl
theorem tmod_nat (a b : Nat) : Int.tmod (a : Int) (b : Int) = ((a % b : Nat) : Int) := rfl
/-! ### rows that were marked: a, a + 1, .. -/
def marked (c : Int → Int) (n a : Nat) : List Int := (List.range n).map fun i => c ((a + i : Nat) : Int)
theorem marked_length (c : Int → Int) (n a : Nat) : (marked c n a).length = n := by simp [marked]
theorem marked_succ (c : Int → Int) (n a : Nat) : marked c (n + 1) a = marked c n a ++ [c ((a + n : Nat) : Int)] := by simp [marked, List.range_succ]
theorem marked_get (c : Int → Int) (n a i : Nat) (h : i < n) : (marked c n a)[i]'(by rw [marked_length]; exact h) = c ((a + i : Nat) : Int) := by simp [marked]
theorem set_mark {c : Int → Int} {xs : List Int} {n a : Nat} (h : n < xs.length) : (marked c n a ++ xs.drop n).set n (c ((a + n : Nat) : Int)) = marked c (n + 1) a ++ xs.drop (n + 1) := by
  rw [List.set_append_right _ _ (by rw [marked_length]; omega), marked_length, Nat.sub_self, List.drop_eq_getElem_cons h, List.set_cons_zero, marked_succ, List.append_assoc, List.singleton_append]
/-! ### rows told by their index -/
def tab (n : Nat) (f : Nat → Int) : List Int := (List.range n).map f
theorem tab_length (n : Nat) (f : Nat → Int) : (tab n f).length = n := by simp [tab]
theorem tab_get {n : Nat} {f : Nat → Int} {i : Nat} (h : i < (tab n f).length) : (tab n f)[i] = f i := by simp [tab]
theorem rd_tab {n : Nat} {f : Nat → Int} {i : Nat} (h : i < n) : rd (tab n f) (i : Int) = f i := by rw [rd_lt (by rw [tab_length]; exact h), tab_get]
theorem tab_set (n : Nat) (f : Nat → Int) (i : Nat) (v : Int) : (tab n f).set i v = tab n (fun j => if j = i then v else f j) := by
  apply List.ext_getElem (by simp [tab])
  intro j h1 h2
  rw [List.getElem_set, tab_get, tab_get]
  by_cases e : i = j
  · subst e; simp
  · rw [if_neg e, if_neg (Ne.symm e)]
theorem tab_congr {n : Nat} {f g : Nat → Int} (h : ∀ i, i < n → f i = g i) : tab n f = tab n g := by
  unfold tab
  exact List.map_congr_left (fun i hi => h i (List.mem_range.1 hi))
theorem tab_succ (n : Nat) (f : Nat → Int) : tab (n + 1) f = tab n f ++ [f n] := by simp [tab, List.range_succ]
theorem tab_zero (n : Nat) (f : Nat → Int) (h : ∀ i, i < n → f i = 0) : List.replicate n 0 = tab n f := by
  apply List.ext_getElem (by simp [tab])
  intro j h1 h2
  rw [List.getElem_replicate, tab_get, h j (by simpa using h1)]
/-! ### counting -/
def cLt (l : List Int) (c : Int) : Nat := l.countP fun x => decide (x < c)
def cEq (l : List Int) (c : Int) : Nat := l.countP fun x => decide (x = c)
theorem cLt_le (l : List Int) (c : Int) : cLt l c ≤ l.length := List.countP_le_length
theorem cEq_le (l : List Int) (c : Int) : cEq l c ≤ l.length := List.countP_le_length
theorem cLt_cons (x : Int) (l : List Int) (c : Int) : cLt (x :: l) c = cLt l c + if x < c then 1 else 0 := by unfold cLt; rw [List.countP_cons]; simp
theorem cEq_cons (x : Int) (l : List Int) (c : Int) : cEq (x :: l) c = cEq l c + if x = c then 1 else 0 := by unfold cEq; rw [List.countP_cons]; simp
theorem cEq_append (a b : List Int) (c : Int) : cEq (a ++ b) c = cEq a c + cEq b c := by unfold cEq; rw [List.countP_append]
theorem cLt_append (a b : List Int) (c : Int) : cLt (a ++ b) c = cLt a c + cLt b c := by unfold cLt; rw [List.countP_append]
theorem cEq_snoc (l : List Int) (x c : Int) : cEq (l ++ [x]) c = cEq l c + if x = c then 1 else 0 := by rw [cEq_append, cEq_cons]; simp [cEq]
theorem cLt_succ (l : List Int) (c : Int) : cLt l (c + 1) = cLt l c + cEq l c := by
  induction l with
  | nil => rfl
  | cons x l ih =>
    rw [cLt_cons, cLt_cons, cEq_cons, ih]
    by_cases h1 : x < c
    · rw [if_pos (by omega), if_pos h1, if_neg (by omega)]; omega
    · by_cases h2 : x = c
      · rw [if_pos (by omega), if_neg h1, if_pos h2]; omega
      · rw [if_neg (by omega), if_neg h1, if_neg h2]; omega
theorem cLt_zero (l : List Int) (h : ∀ x ∈ l, 0 ≤ x) : cLt l 0 = 0 := by
  unfold cLt
  rw [List.countP_eq_zero]
  intro x hx
  have := h x hx
  simp; omega
theorem cEq_neg (l : List Int) (h : ∀ x ∈ l, 0 ≤ x) (c : Int) (hc : c < 0) : cEq l c = 0 := by
  unfold cEq
  rw [List.countP_eq_zero]
  intro x hx
  have := h x hx
  simp; omega
theorem take_snoc' {l : List Int} {n : Nat} (h : n < l.length) : l.take (n + 1) = l.take n ++ [l[n]] := by rw [List.take_succ_eq_append_getElem h]
/-- one that is not less than c, and one that equals it behind: together fewer than all -/
theorem cLt_cEq_lt {l : List Int} {k : Nat} (h : k < l.length) : cLt l l[k] + cEq (l.take k) l[k] < l.length := by
  have h1 : cEq (l.take (k + 1)) l[k] = cEq (l.take k) l[k] + 1 := by rw [take_snoc' h, cEq_snoc, if_pos rfl]
  have h4 : ∀ c, cEq (l.take (k + 1)) c ≤ cEq l c := by
    intro c
    have e := cEq_append (l.take (k + 1)) (l.drop (k + 1)) c
    rw [List.take_append_drop] at e
    omega
  have h2 := h4 l[k]
  have h3 : ∀ (l : List Int) (c : Int), cLt l c + cEq l c ≤ l.length := by
    intro l c
    induction l with
    | nil => simp [cLt, cEq]
    | cons x l ih =>
      rw [cLt_cons, cEq_cons, List.length_cons]
      by_cases a : x < c
      · rw [if_pos a, if_neg (by omega)]; omega
      · rw [if_neg a]; split <;> omega
  have := h3 l l[k]
  omega
/-! ### a number in bytes of seven bits -/
def varB : Nat → Nat → List Int
  | 0, n => [((n : Nat) : Int) % 256]
  | f + 1, n => if 128 ≤ n then ((128 + n % 128 : Nat) : Int) :: varB f (n / 128) else [((n : Nat) : Int) % 256]
theorem varB_length (f n : Nat) : 1 ≤ (varB f n).length ∧ (varB f n).length ≤ f + 1 := by
  induction f generalizing n with
  | zero => simp [varB]
  | succ f ih =>
    rw [varB]
    split
    · have := ih (n / 128); simp; omega
    · simp
theorem varB_mem (f n : Nat) : ∀ b ∈ varB f n, 0 ≤ b ∧ b < 256 := by
  induction f generalizing n with
  | zero => intro b hb; rw [varB, List.mem_singleton] at hb; omega
  | succ f ih =>
    intro b hb
    rw [varB] at hb
    split at hb
    · rcases List.mem_cons.1 hb with h | h
      · omega
      · exact ih _ b h
    · rw [List.mem_singleton] at hb; omega
theorem strs_toList (xs : List Int) : (strOfNums xs).toList = xs.map fun n => UInt8.ofNat n.toNat := by rw [ByteArray.toList_eq]; rfl
theorem strs_length {xs ys : List Int} (h : (strOfNums xs).toList = (strOfNums ys).toList) : xs.length = ys.length := by
  rw [strs_toList, strs_toList] at h
  have := congrArg List.length h
  rwa [List.length_map, List.length_map] at this
theorem u8_inj {a b : Int} (ha : 0 ≤ a ∧ a < 256) (hb : 0 ≤ b ∧ b < 256) (h : UInt8.ofNat a.toNat = UInt8.ofNat b.toNat) : a = b := by
  have := congrArg UInt8.toNat h
  rw [UInt8.toNat_ofNat', UInt8.toNat_ofNat'] at this
  omega
theorem strs_inj : ∀ {xs ys : List Int}, (∀ b ∈ xs, 0 ≤ b ∧ b < 256) → (∀ b ∈ ys, 0 ≤ b ∧ b < 256) → (strOfNums xs).toList = (strOfNums ys).toList → xs = ys := by
  intro xs ys
  rw [strs_toList, strs_toList]
  induction xs generalizing ys with
  | nil => intro _ _ h; exact (List.map_eq_nil_iff.1 h.symm).symm
  | cons x xs ih =>
    intro hx hy h
    cases ys with
    | nil => simp at h
    | cons y ys =>
      rw [List.map_cons, List.map_cons] at h
      have := List.cons.inj h
      rw [u8_inj (hx x (by simp)) (hy y (by simp)) this.1, ih (fun b hb => hx b (by simp [hb])) (fun b hb => hy b (by simp [hb])) this.2]
theorem strs_same {xs ys : List Int} (hx : ∀ b ∈ xs, 0 ≤ b ∧ b < 256) (hy : ∀ b ∈ ys, 0 ≤ b ∧ b < 256) : ((strOfNums xs).toList = (strOfNums ys).toList) ↔ xs = ys := ⟨strs_inj hx hy, fun h => by rw [h]⟩
theorem and1_u64 (a : Nat) (ha : a < 2 ^ 64) : Go.bits .and .u64 (a : Int) 1 = ((a % 2 : Nat) : Int) := by
  have h := bits_mask .u64 64 (by decide) wraps_u64 1 (by decide) (a : Int) (by omega) (by omega)
  simpa using h
theorem shl_u64 (a s : Nat) (hs : s ≤ 63) (h : a * 2 ^ s < 2 ^ 64) : shl .u64 (a : Int) (s : Int) = ((a * 2 ^ s : Nat) : Int) := by
  unfold shl
  rw [Int.toNat_natCast, Nat.min_eq_left (by simp [IntKind.bits]; omega), show ((2 : Int) ^ s) = ((2 ^ s : Nat) : Int) by simp, ← Int.natCast_mul]
  exact wraps_u64 _ (by omega) (by omega)
theorem shr_u64 (a s : Nat) (hs : s ≤ 63) : shr .u64 (a : Int) (s : Int) = ((a / 2 ^ s : Nat) : Int) := by
  unfold shr
  rw [Int.toNat_natCast, Nat.min_eq_left (by simp [IntKind.bits]; omega), show ((2 : Int) ^ s) = ((2 ^ s : Nat) : Int) by simp]
  rfl
theorem shl_i64 (a : Int) (s : Nat) (hs : s ≤ 63) : shl .i64 a (s : Int) = wrap64 (a * ((2 ^ s : Nat) : Int)) := by
  unfold shl
  rw [Int.toNat_natCast, Nat.min_eq_left (by simp [IntKind.bits]; omega), show ((2 : Int) ^ s) = ((2 ^ s : Nat) : Int) by simp, IntKind.wrap_i64]
  generalize a * ((2 ^ s : Nat) : Int) = x
  unfold wrap64
  omega
/-! ### bits in words -/
def nb : List Int → Nat
  | [] => 0
  | b :: l => b.toNat + 2 * nb l
def isBits (l : List Int) : Prop := ∀ b ∈ l, b = 0 ∨ b = 1
theorem nb_lt {l : List Int} (h : isBits l) : nb l < 2 ^ l.length := by
  induction l with
  | nil => simp [nb]
  | cons b l ih =>
    have h1 := ih (fun x hx => h x (by simp [hx]))
    have h2 := h b (by simp)
    rw [nb, List.length_cons, Nat.pow_succ]
    omega
theorem nb_snoc (l : List Int) (b : Int) : nb (l ++ [b]) = nb l + b.toNat * 2 ^ l.length := by
  induction l with
  | nil => simp [nb]
  | cons x l ih =>
    rw [List.cons_append, nb, nb, ih, List.length_cons, Nat.pow_succ, Nat.mul_add]
    have e : 2 * (b.toNat * 2 ^ l.length) = b.toNat * (2 ^ l.length * 2) := by rw [Nat.mul_comm, Nat.mul_assoc]
    omega
def wordAt (l : List Int) (w : Nat) : Nat := nb ((l.drop (64 * w)).take 64)
def wordsOf (l : List Int) : List Int := tab ((l.length + 63) / 64) fun w => ((wordAt l w : Nat) : Int)
theorem isBits_sub {l : List Int} (h : isBits l) (a b : Nat) : isBits ((l.drop a).take b) := fun x hx => h x (List.mem_of_mem_drop (List.mem_of_mem_take hx))
theorem isBits_take {l : List Int} (h : isBits l) (b : Nat) : isBits (l.take b) := fun x hx => h x (List.mem_of_mem_take hx)
theorem wordAt_lt {l : List Int} (h : isBits l) (w : Nat) : wordAt l w < 2 ^ 64 := by
  have h1 := nb_lt (isBits_sub h (64 * w) 64)
  refine Nat.lt_of_lt_of_le h1 (Nat.pow_le_pow_right (by decide) ?_)
  rw [List.length_take]; omega
theorem wordAt_lt' {l : List Int} (h : isBits l) (w : Nat) (hw : w = l.length / 64) : wordAt l w < 2 ^ (l.length % 64) := by
  have h1 := nb_lt (isBits_sub h (64 * w) 64)
  refine Nat.lt_of_lt_of_le h1 (Nat.pow_le_pow_right (by decide) ?_)
  rw [List.length_take, List.length_drop]; omega
theorem wordAt_nil {l : List Int} {w : Nat} (h : l.length ≤ 64 * w) : wordAt l w = 0 := by
  unfold wordAt
  rw [List.drop_eq_nil_of_le h]; rfl
theorem wordAt_snoc (p : List Int) (b : Int) (w : Nat) : wordAt (p ++ [b]) w = if w = p.length / 64 then wordAt p w + b.toNat * 2 ^ (p.length % 64) else wordAt p w := by
  by_cases h : w = p.length / 64
  · rw [if_pos h]
    unfold wordAt
    have e : (p ++ [b]).drop (64 * w) = p.drop (64 * w) ++ [b] := by rw [List.drop_append_of_le_length (by omega)]
    have l1 : (p.drop (64 * w)).length = p.length % 64 := by rw [List.length_drop]; omega
    rw [e, List.take_of_length_le (by rw [List.length_append, l1]; simp; omega), List.take_of_length_le (by omega), nb_snoc, l1]
  · rw [if_neg h]
    by_cases g : w < p.length / 64
    · unfold wordAt
      have e : (p ++ [b]).drop (64 * w) = p.drop (64 * w) ++ [b] := by rw [List.drop_append_of_le_length (by omega)]
      rw [e, List.take_append_of_le_length (by rw [List.length_drop]; omega)]
    · rw [wordAt_nil (l := p ++ [b]) (by rw [List.length_append, List.length_singleton]; omega), wordAt_nil (l := p) (by omega)]
theorem wordsOf_length (l : List Int) : (wordsOf l).length = (l.length + 63) / 64 := tab_length _ _
theorem wordsOf_get (l : List Int) (w : Nat) (h : w < (wordsOf l).length) : (wordsOf l)[w] = ((wordAt l w : Nat) : Int) := tab_get h
theorem wordsOf_getD (l : List Int) (w : Nat) : (wordsOf l).getD w 0 = ((wordAt l w : Nat) : Int) := by
  by_cases h : w < (wordsOf l).length
  · rw [List.getD_eq_getElem?_getD, List.getElem?_eq_getElem h, Option.getD_some, wordsOf_get]
  · rw [List.getD_eq_getElem?_getD, List.getElem?_eq_none (by omega), Option.getD_none]
    rw [wordsOf_length] at h
    rw [wordAt_nil (by omega)]; rfl
/-- bit i of words -/
def bitAt (ws : List Int) (i : Nat) : Int := (((ws.getD (i / 64) 0).toNat / 2 ^ (i % 64) % 2 : Nat) : Int)
def listL (n : Nat) (ws : List Int) : List Int := tab n (bitAt ws)
theorem listL_length (n : Nat) (ws : List Int) : (listL n ws).length = n := tab_length _ _
theorem bitAt_bit (ws : List Int) (i : Nat) : bitAt ws i = 0 ∨ bitAt ws i = 1 := by unfold bitAt; omega
theorem listL_bits (n : Nat) (ws : List Int) : isBits (listL n ws) := by
  intro b hb
  unfold listL tab at hb
  obtain ⟨i, _, rfl⟩ := List.mem_map.1 hb
  exact bitAt_bit ws i
theorem nb_tab (x m : Nat) : nb (tab m fun j => ((x / 2 ^ j % 2 : Nat) : Int)) = x % 2 ^ m := by
  induction m with
  | zero => simp [tab, nb, Nat.mod_one]
  | succ m ih => rw [tab_succ, nb_snoc, ih, tab_length, Nat.mod_pow_succ, Int.toNat_natCast, Nat.mul_comm (2 ^ m)]
theorem wordAt_listL (n : Nat) (ws : List Int) (w : Nat) : wordAt (listL n ws) w = (ws.getD w 0).toNat % 2 ^ (min 64 (n - 64 * w)) := by
  unfold wordAt
  rw [← nb_tab]
  congr 1
  apply List.ext_getElem
  · simp [listL, tab]
  · intro j h1 h2
    rw [tab_length] at h2
    rw [List.getElem_take, List.getElem_drop, tab_get]
    unfold listL
    rw [tab_get]
    unfold bitAt
    rw [show (64 * w + j) / 64 = w by omega, show (64 * w + j) % 64 = j by omega]
/-- are the words those of their bits -/
def bitsOk (n : Int) (ws : List Int) : Bool := decide (0 ≤ n ∧ n ≤ 5000 ∧ (ws.length : Int) = (n + 63) / 64 ∧ (n % 64 = 0 ∨ (ws.getD (ws.length - 1) 0).toNat / 2 ^ (n % 64).toNat = 0))
theorem words_same (n : Nat) (ws : List Int) (hl : ws.length = (n + 63) / 64) (hw : ∀ x ∈ ws, 0 ≤ x ∧ x ≤ 18446744073709551615) :
    (ws = wordsOf (listL n ws)) ↔ (n % 64 = 0 ∨ (ws.getD (ws.length - 1) 0).toNat / 2 ^ (n % 64) = 0) := by
  have key : ∀ w, w < ws.length → (64 * (w + 1) ≤ n → ws.getD w 0 = ((wordAt (listL n ws) w : Nat) : Int)) := by
    intro w hw1 hw2
    have hx := hw _ (List.getElem_mem hw1)
    rw [wordAt_listL, List.getD_eq_getElem?_getD, List.getElem?_eq_getElem hw1, Option.getD_some, Nat.min_eq_left (by omega), Nat.mod_eq_of_lt (by omega)]
    omega
  constructor
  · intro e
    by_cases h0 : n % 64 = 0
    · exact Or.inl h0
    · right
      have hpos : 0 < ws.length := by omega
      have e1 : ws.getD (ws.length - 1) 0 = ((wordAt (listL n ws) (ws.length - 1) : Nat) : Int) := by
        have := congrArg (fun l => l.getD (ws.length - 1) 0) e
        simpa only [wordsOf_getD] using this
      rw [e1, Int.toNat_natCast, wordAt_listL, show min 64 (n - 64 * (ws.length - 1)) = n % 64 by omega]
      exact Nat.div_eq_of_lt (Nat.mod_lt _ (Nat.two_pow_pos _))
  · intro h
    apply List.ext_getElem
    · unfold wordsOf; rw [tab_length, listL_length]; exact hl
    · intro w h1 h2
      rw [wordsOf_get]
      have ed : ws.getD w 0 = ws[w] := by rw [List.getD_eq_getElem?_getD, List.getElem?_eq_getElem h1, Option.getD_some]
      by_cases hf : 64 * (w + 1) ≤ n
      · rw [← key w h1 hf, ed]
      · have hx := hw _ (List.getElem_mem h1)
        rcases h with h | h
        · omega
        · have ew : w = ws.length - 1 := by omega
          rw [wordAt_listL, show min 64 (n - 64 * w) = n % 64 by omega, ed]
          rw [← ew, ed] at h
          have := Nat.div_eq_zero_iff.1 h
          have hp := Nat.two_pow_pos (n % 64)
          rw [Nat.mod_eq_of_lt (by omega)]
          omega
theorem bitsOk_true {n : Int} {ws : List Int} (h : bitsOk n ws = true) : ∃ m : Nat, n = (m : Int) ∧ m ≤ 5000 ∧ ws.length = (m + 63) / 64 := by
  have := of_decide_eq_true h
  exact ⟨n.toNat, by omega, by omega, by omega⟩
/-- the index of the n-th b from index i on -/
def selR : List Int → Int → Int → Nat → Int
  | [], _, _, _ => -1
  | x :: l, b, n, i => if x = b then (if n = 0 then (i : Int) else selR l b (n - 1) (i + 1)) else selR l b n (i + 1)
def rankR (n : Int) (ws : List Int) (b a : Int) : Int := if bitsOk n ws = true ∧ (b = 0 ∨ b = 1) ∧ 0 ≤ a ∧ a ≤ n then ((((listL n.toNat ws).take a.toNat).count b : Nat) : Int) else -1
def selectR (n : Int) (ws : List Int) (b a : Int) : Int := if bitsOk n ws = true ∧ (b = 0 ∨ b = 1) ∧ 0 ≤ a then selR (listL n.toNat ws) b a 0 else -1
def bitAtR (n : Int) (ws : List Int) (a : Int) : Int := if bitsOk n ws = true ∧ 0 ≤ a ∧ a < n then bitAt ws a.toNat else -1
def symsOk (l : List Int) : Bool := decide (l.length ≤ 301) && l.all fun a => decide (0 ≤ a ∧ a ≤ 256)
theorem count_snoc (l : List Int) (x b : Int) : (l ++ [x]).count b = l.count b + if x = b then 1 else 0 := by
  rw [List.count_append, List.count_singleton]
  by_cases h : x = b <;> simp [h]
/-! ### checksums -/
def crcStep (c : Nat) : Nat := if c % 2 = 1 then (c / 2) ^^^ 3988292384 else c / 2
def crcIter : Nat → Nat → Nat
  | 0, c => c
  | d + 1, c => crcIter d (crcStep c)
def crcAll : List Nat → Nat → Nat
  | [], c => c
  | b :: l, c => crcAll l (crcIter 8 (c ^^^ b))
theorem crcStep_lt {c : Nat} (h : c < 2 ^ 32) : crcStep c < 2 ^ 32 := by
  unfold crcStep
  split
  · exact Nat.xor_lt_two_pow (by omega) (by decide)
  · omega
theorem crcIter_lt {d c : Nat} (h : c < 2 ^ 32) : crcIter d c < 2 ^ 32 := by
  induction d generalizing c with
  | zero => exact h
  | succ d ih => exact ih (crcStep_lt h)
theorem crcAll_lt {l : List Nat} {c : Nat} (h : c < 2 ^ 32) (hl : ∀ b ∈ l, b < 256) : crcAll l c < 2 ^ 32 := by
  induction l generalizing c with
  | nil => exact h
  | cons b l ih =>
    have hb := hl b (by simp)
    exact ih (crcIter_lt (Nat.xor_lt_two_pow h (by omega))) (fun x hx => hl x (by simp [hx]))
/-- the checksum of bytes -/
def crcOf (l : List Int) : Nat := crcAll (l.map Int.toNat) 4294967295 ^^^ 4294967295
theorem crcOf_lt {l : List Int} (hl : ∀ b ∈ l, 0 ≤ b ∧ b < 256) : crcOf l < 2 ^ 32 := by
  refine Nat.xor_lt_two_pow (crcAll_lt (by decide) ?_) (by decide)
  intro b hb
  obtain ⟨x, hx, rfl⟩ := List.mem_map.1 hb
  have := hl x hx
  omega
theorem wf_u8 {x : Int} (h : (Lit.int .u8 x).wf = true) : 0 ≤ x ∧ x < 256 := by
  simp [Lit.wf, IntKind.min, IntKind.max, IntKind.signed, IntKind.bits] at h
  omega
theorem wf_i64 {x : Int} (h : (Lit.int .i64 x).wf = true) : -9223372036854775808 ≤ x ∧ x ≤ 9223372036854775807 := by
  simp [Lit.wf, IntKind.min, IntKind.max, IntKind.signed, IntKind.bits] at h
  omega
theorem wf_u64 {x : Int} (h : (Lit.int .u64 x).wf = true) : 0 ≤ x ∧ x ≤ 18446744073709551615 := by
  simp [Lit.wf, IntKind.min, IntKind.max, IntKind.signed, IntKind.bits] at h
  omega
end Go.Proofs.Yteckcjjkblkfkaa.Lib
