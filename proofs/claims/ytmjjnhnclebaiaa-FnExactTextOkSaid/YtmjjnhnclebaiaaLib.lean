/- Plain lemmas about rounds (Ev), wraps and lists, for the pure statements of this seat; no program in sight. -/
import Derived.Test.YtmjjnhnclebaiaaWWords
import Derived.Test.YtmjjnhnclebaiaaWLast
import Derived.Test.YtmjjnhnclebaiaaWMore
namespace Go.Proofs.Ytmjjnhnclebaiaa.Lib
open Go.RowKit Go.Proofs.YtmjjnhnclebaiaaW.PrintWords Go.Proofs.YtmjjnhnclebaiaaW.PrintLast Go.Proofs.YtmjjnhnclebaiaaW.PrintMore

theorem w64 {n : Int} (h0 : -9223372036854775808 ≤ n) (h1 : n ≤ 9223372036854775807) : wrap64 n = n := by unfold wrap64; omega
theorem rd_nat (xs : List Int) (n : Nat) : rd xs (n : Int) = xs.getD n 0 := by simp [rd]
theorem rd_lt {xs : List Int} {n : Nat} (h : n < xs.length) : rd xs (n : Int) = xs[n] := by simp [rd, h]
theorem rd_of {xs : List Int} {i : Int} (h0 : 0 ≤ i) (h : i < xs.length) : rd xs i = xs[i.toNat]'(by omega) := by
  have : i.toNat < xs.length := by omega
  simp [rd, this]
section
variable {α β : Type} {r : α}
theorem ev_pos {c : Prop} [Decidable c] {t e : Nat → Option α} (h : c) (k : Ev t r) : Ev (fun n => if c then t n else e n) r := by
  obtain ⟨K, k⟩ := k; exact ⟨K, fun n hn => (if_pos h).trans (k n hn)⟩
theorem ev_neg {c : Prop} [Decidable c] {t e : Nat → Option α} (h : ¬ c) (k : Ev e r) : Ev (fun n => if c then t n else e n) r := by
  obtain ⟨K, k⟩ := k; exact ⟨K, fun n hn => (if_neg h).trans (k n hn)⟩
theorem ev_ite {c : Prop} [Decidable c] {t e : Nat → Option α} (h : c → Ev t r) (g : ¬ c → Ev e r) : Ev (fun n => if c then t n else e n) r := by
  by_cases hc : c
  · exact ev_pos hc (h hc)
  · exact ev_neg hc (g hc)
theorem ev_bind {g : Nat → Option β} {f : Nat → β → Option α} {a : β} (h : Ev g a) (k : Ev (fun n => f n a) r) : Ev (fun n => (g n).bind (f n)) r := Ev.bind h k
theorem ev_some {f : Nat → β → Option α} {a : β} {g : Option β} (h : g = some a) (k : Ev (fun n => f n a) r) : Ev (fun n => g.bind (f n)) r := by
  subst h; exact k
theorem ev_now (r : α) : Ev (fun _ => some r) r := Ev.now r
theorem ev_now' {r s : α} (h : s = r) : Ev (fun _ => some s) r := h ▸ Ev.now s
theorem ev_const {g : Option α} (h : g = some r) : Ev (fun _ => g) r := by subst h; exact Ev.now r
theorem ev_eq {s : α} {g : Nat → Option α} (k : Ev g s) (h : s = r) : Ev g r := h ▸ k
end
end Go.Proofs.Ytmjjnhnclebaiaa.Lib
