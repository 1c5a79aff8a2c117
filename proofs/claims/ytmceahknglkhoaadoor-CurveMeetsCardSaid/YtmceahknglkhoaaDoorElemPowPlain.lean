/- Powers of numbers: plain. -/
import Derived.Test.YtmceahknglkhoaaDoorElemPlainLaws
namespace Go.Proofs.YtmceahknglkhoaaDoor
set_option linter.unusedVariables false

/-- The number of words, the lowest first. -/
def wval : List Nat → Nat
  | [] => 0
  | x :: r => x + 18446744073709551616 * wval r
theorem wval_lt : ∀ l : List Nat, (∀ x ∈ l, x < 18446744073709551616) → wval l < 18446744073709551616 ^ l.length
  | [], _ => by simp [wval]
  | x :: r, h => by
    have ih := wval_lt r (fun y hy => h y (by simp [hy]))
    have := h x (by simp)
    simp only [wval, List.length_cons, Nat.pow_succ]
    generalize 18446744073709551616 ^ r.length = z at *
    omega
theorem wval_at : ∀ (l : List Nat) (i : Nat) (h : i < l.length), (∀ x ∈ l, x < 18446744073709551616) → wval l / 18446744073709551616 ^ i % 18446744073709551616 = l[i]
  | x :: r, 0, _, h => by
    have := h x (by simp)
    simp only [wval, Nat.pow_zero, Nat.div_one, List.getElem_cons_zero]
    omega
  | x :: r, i + 1, hi, h => by
    have ih := wval_at r i (by simpa using hi) (fun y hy => h y (by simp [hy]))
    have := h x (by simp)
    simp only [wval, List.getElem_cons_succ]
    rw [Nat.pow_succ, Nat.mul_comm (18446744073709551616 ^ i), ← Nat.div_div_eq_div_mul, show (x + 18446744073709551616 * wval r) / 18446744073709551616 = wval r from by omega, ih]

/-- What is left of the exponent: from bit k of word i on. -/
def exAt (n i k : Nat) : Nat := n / 18446744073709551616 ^ i / 2 ^ k
theorem exAt_word (n i : Nat) : exAt n i 64 = exAt n (i + 1) 0 := by
  unfold exAt
  rw [Nat.pow_zero, Nat.div_one, Nat.div_div_eq_div_mul, Nat.pow_succ 18446744073709551616]
theorem exAt_zero (n : Nat) : exAt n 0 0 = n := by
  unfold exAt
  rw [Nat.pow_zero, Nat.div_one, Nat.div_one]
theorem exAt_top (l : List Nat) (h : ∀ x ∈ l, x < 18446744073709551616) : exAt (wval l) l.length 0 = 0 := by
  unfold exAt
  rw [Nat.div_eq_of_lt (wval_lt l h), Nat.zero_div]
theorem exAt_bit (l : List Nat) (h : ∀ x ∈ l, x < 18446744073709551616) (i k : Nat) (hi : i < l.length) (hk : k < 64) : exAt (wval l) i k = 2 * exAt (wval l) i (k + 1) + l[i] / 2 ^ k % 2 := by
  have ha := wval_at l i hi h
  unfold exAt
  generalize wval l / 18446744073709551616 ^ i = m at *
  rw [← ha, Nat.pow_succ, ← Nat.div_div_eq_div_mul]
  have hb : m % 18446744073709551616 / 2 ^ k % 2 = m / 2 ^ k % 2 := by
    have e : (18446744073709551616 : Nat) = 2 ^ k * (2 * 2 ^ (63 - k)) := by rw [← Nat.pow_succ', ← Nat.pow_add, show k + (63 - k).succ = 64 from by omega]
    rw [e, Nat.mod_mul_right_div_self, Nat.mod_mul_right_mod]
  rw [hb]
  generalize m / 2 ^ k = q
  omega

/-- A number that is the power so far. -/
def PowAt (l L : List Nat) (e : Nat) : Prop := Ok5 L ∧ lval L % PP = lval l ^ e % PP
theorem PowAt.twice {l L M : List Nat} {e : Nat} (h : PowAt l L e) (hM : Ok5 M) (hv : lval M % PP = (lval L * lval L) % PP) : PowAt l M (2 * e) := by
  refine ⟨hM, ?_⟩
  rw [hv, Nat.mul_mod, h.2, ← Nat.mul_mod, ← Nat.pow_add, show e + e = 2 * e from by omega]
theorem PowAt.more {l L M : List Nat} {e : Nat} (h : PowAt l L e) (hM : Ok5 M) (hv : lval M % PP = (lval L * lval l) % PP) : PowAt l M (e + 1) := by
  refine ⟨hM, ?_⟩
  rw [hv, Nat.mul_mod, h.2, ← Nat.mul_mod, ← Nat.pow_succ]

end Go.Proofs.YtmceahknglkhoaaDoor
