/- Powers of numbers: the laws, plain. -/
import Derived.Test.YtkikabihfldfkaaElemPow
namespace Go.Proofs.Ytkikabihfldfkaa
set_option linter.unusedVariables false

theorem leN_powM (s : List UInt8) (n : Nat) : leN (powM s n) = leN s ^ n % PP := leN_least _
theorem pow_sum (s : List UInt8) (m n : Nat) : mulM (powM s m) (powM s n) = powM s (m + n) := by
  unfold mulM
  rw [leN_powM, leN_powM, ← Nat.mul_mod, ← Nat.pow_add]
  rfl
theorem pow_times (s t : List UInt8) (m : Nat) : mulM (powM s m) (powM t m) = powM (mulM s t) m := by
  unfold mulM
  rw [leN_powM, leN_powM, ← Nat.mul_mod, ← Nat.mul_pow]
  unfold powM
  rw [leN_least, ← Nat.pow_mod]

end Go.Proofs.Ytkikabihfldfkaa
