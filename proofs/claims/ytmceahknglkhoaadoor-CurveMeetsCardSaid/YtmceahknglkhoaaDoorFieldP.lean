/- The numbers modulo 2^255 - 19 are a field. Plain. -/
import Derived.Test.YtmceahknglkhoaaDoorPrime
import Derived.Test.YtmceahknglkhoaaDoorFinP
namespace Go.Proofs.YtmceahknglkhoaaDoor
set_option linter.unusedVariables false

theorem prP : Pr.Prime PP := by rw [PP_eq]; exact Pr.prime25519
def invP (a : Fin PP) : Fin PP := a ^ (PP - 2)
theorem fin_pow_val (a : Fin PP) : ∀ n : Nat, (a ^ n).val = a.val ^ n % PP
  | 0 => by
    rw [Lean.Grind.Semiring.pow_zero, Nat.pow_zero]
    rfl
  | n + 1 => by
    rw [Lean.Grind.Semiring.pow_succ, Fin.val_mul, fin_pow_val a n, Nat.pow_succ, Nat.mod_mul_mod]
theorem mul_invP (a : Fin PP) (h : a ≠ 0) : a * invP a = 1 := by
  apply Fin.ext
  have hp : 2 < PP := by rw [PP_eq]; omega
  have h0 : ¬ PP ∣ a.val := fun hd => h (Fin.ext (Nat.eq_zero_of_dvd_of_lt hd a.isLt))
  have hf := Pr.fermat prP a.val h0
  have e : PP - 1 = PP - 2 + 1 := by omega
  rw [e, Nat.pow_succ] at hf
  unfold invP
  rw [Fin.val_mul, fin_pow_val, Nat.mul_mod_mod, Nat.mul_comm, hf]
  have : (1 : Fin PP).val = 1 % PP := rfl
  rw [this, Nat.mod_eq_of_lt (by omega)]
theorem invP_zero : invP 0 = 0 := by
  apply Fin.ext
  have hp : 2 < PP := by rw [PP_eq]; omega
  unfold invP
  rw [fin_pow_val]
  have : (0 : Fin PP).val = 0 := rfl
  rw [this, Nat.zero_pow (by omega), Nat.zero_mod]
theorem zero_ne_oneP : (0 : Fin PP) ≠ 1 := by
  intro h
  have h2 := congrArg Fin.val h
  have hp : 2 < PP := by rw [PP_eq]; omega
  have e1 : (1 : Fin PP).val = 1 % PP := rfl
  rw [e1, Nat.mod_eq_of_lt (by omega)] at h2
  exact absurd h2 (by decide)
def zpowP (a : Fin PP) : Int → Fin PP
  | .ofNat n => a ^ n
  | .negSucc n => invP (a ^ (n + 1))
theorem zpowP_neg (a : Fin PP) : ∀ n : Int, zpowP a (-n) = invP (zpowP a n) := by
  have hone : invP (1 : Fin PP) = 1 := by
    have h := mul_invP 1 (Ne.symm zero_ne_oneP)
    have e : (1 : Fin PP) * invP 1 = invP 1 := by grind
    rw [e] at h
    exact h
  have hinv : ∀ b : Fin PP, invP (invP b) = b := by
    intro b
    by_cases hb : b = 0
    · rw [hb, invP_zero, invP_zero]
    · have h1 := mul_invP b hb
      have hi : invP b ≠ 0 := by
        intro e
        rw [e] at h1
        have e2 : b * 0 = (0 : Fin PP) := by grind
        exact zero_ne_oneP (e2.symm.trans h1)
      have h2 := mul_invP (invP b) hi
      have e3 : b * (invP b * invP (invP b)) = (b * invP b) * invP (invP b) := by grind
      rw [h1, h2] at e3
      grind
  intro n
  rcases n with n | n
  · rcases n with _ | n
    · show a ^ 0 = invP (a ^ 0)
      rw [Lean.Grind.Semiring.pow_zero, hone]
    · rfl
  · show zpowP a (Int.ofNat (n + 1)) = invP (invP (a ^ (n + 1)))
    rw [hinv]
    rfl
/-- The field. -/
instance fieldP : Lean.Grind.Field (Fin PP) where
  inv := invP
  div a b := a * invP b
  zpow := ⟨zpowP⟩
  div_eq_mul_inv _ _ := rfl
  zero_ne_one := zero_ne_oneP
  inv_zero := invP_zero
  mul_inv_cancel {a} h := mul_invP a h
  zpow_zero a := by show zpowP a 0 = 1; exact Lean.Grind.Semiring.pow_zero a
  zpow_succ a n := by show a ^ (n + 1) = a ^ n * a; exact Lean.Grind.Semiring.pow_succ a n
  zpow_neg a n := zpowP_neg a n

end Go.Proofs.YtmceahknglkhoaaDoor
