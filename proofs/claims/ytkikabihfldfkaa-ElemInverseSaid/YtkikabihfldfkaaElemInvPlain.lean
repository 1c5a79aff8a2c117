/- Inverses of numbers: plain. -/
import Derived.Test.YtkikabihfldfkaaElemPowersPlain
import Derived.Test.YtkikabihfldfkaaPrime
namespace Go.Proofs.Ytkikabihfldfkaa
set_option linter.unusedVariables false

def invM (s : List UInt8) : List UInt8 := powM s (PP - 2)
theorem invM_length (s : List UInt8) : (invM s).length = 32 := powM_length _ _
def invWords : List Nat := [18446744073709551595, 18446744073709551615, 18446744073709551615, 9223372036854775807]
theorem wval_inv : wval invWords = PP - 2 := by rw [PP_eq]; decide +kernel
theorem primeP : Pr.Prime PP := by rw [PP_eq]; exact Pr.prime25519
theorem PP_gt : 2 < PP := by rw [PP_eq]; omega

theorem leB_inj (x y : Nat) (hx : x < 256 ^ 32) (hy : y < 256 ^ 32) (h : leB x 32 = leB y 32) : x = y := by
  have h2 : leN (leB x 32) = leN (leB y 32) := by rw [h]
  rw [leN_leB, leN_leB, Nat.mod_eq_of_lt hx, Nat.mod_eq_of_lt hy] at h2
  exact h2
theorem least_zero (n : Nat) : leB (n % PP) 32 = zerosL 32 ↔ n % PP = 0 := by
  constructor
  · intro h
    have := leN_least n
    rw [h, leN_zeros] at this
    exact this.symm
  · intro h
    rw [h, leB_zero]
theorem low_zero (s : List UInt8) : lowM s = zerosL 32 ↔ leN s % PP = 0 := least_zero _
theorem mul_zero_iff (s t : List UInt8) : mulM s t = zerosL 32 ↔ (lowM s = zerosL 32 ∨ lowM t = zerosL 32) := by
  unfold mulM
  rw [least_zero, low_zero, low_zero]
  constructor
  · intro h
    rcases Pr.Prime.dvd_mul primeP (Nat.dvd_of_mod_eq_zero h) with h | h
    · exact Or.inl (Nat.mod_eq_zero_of_dvd h)
    · exact Or.inr (Nat.mod_eq_zero_of_dvd h)
  · rintro (h | h)
    · exact Nat.mod_eq_zero_of_dvd (Nat.dvd_trans (Nat.dvd_of_mod_eq_zero h) (Nat.dvd_mul_right _ _))
    · exact Nat.mod_eq_zero_of_dvd (Nat.dvd_trans (Nat.dvd_of_mod_eq_zero h) (Nat.dvd_mul_left _ _))
theorem inv_zero (s : List UInt8) (h : lowM s = zerosL 32) : invM s = zerosL 32 := by
  rw [low_zero] at h
  unfold invM powM
  rw [least_zero, Nat.pow_mod, h, Nat.zero_pow (by have := PP_gt; omega), Nat.zero_mod]
theorem one_eq : leB 1 32 = sizedL [1] 32 := by decide +kernel
theorem mul_inv (s : List UInt8) (h : ¬ lowM s = zerosL 32) : mulM s (invM s) = sizedL [1] 32 := by
  rw [low_zero] at h
  unfold mulM invM
  rw [leN_powM, Nat.mul_mod_mod, Nat.mul_comm, ← Nat.pow_succ, show (PP - 2).succ = PP - 1 from by have := PP_gt; omega,
    Pr.fermat primeP (leN s) (fun hd => h (Nat.mod_eq_zero_of_dvd hd))]
  exact one_eq
theorem one_ne : ¬ sizedL [1] 32 = zerosL 32 := by decide +kernel
theorem inv_ne (s : List UInt8) (h : ¬ lowM s = zerosL 32) : ¬ invM s = zerosL 32 := by
  intro hz
  have h1 := mul_inv s h
  have h2 : mulM s (invM s) = zerosL 32 := by
    rw [hz]
    unfold mulM
    rw [leN_zeros, Nat.mul_zero, Nat.zero_mod, leB_zero]
  exact one_ne (h1.symm.trans h2)

end Go.Proofs.Ytkikabihfldfkaa
