/- Sums and products of numbers: the laws, plain. -/
import Derived.Test.YtmceahknglkhoaaDoorElemLowM
import Derived.Test.YtmceahknglkhoaaDoorZeros
namespace Go.Proofs.YtmceahknglkhoaaDoor
set_option linter.unusedVariables false

theorem PP_le : PP < 256 ^ 32 := by rw [PP_eq]; omega
theorem leN_least (n : Nat) : leN (leB (n % PP) 32) = n % PP := by
  rw [leN_leB, Nat.mod_eq_of_lt (Nat.lt_trans (Nat.mod_lt _ PP_pos) PP_le)]
theorem leN_lowM (s : List UInt8) : leN (lowM s) = leN s % PP := leN_least _
theorem leN_addM (s t : List UInt8) : leN (addM s t) = (leN s + leN t) % PP := leN_least _
theorem leN_subM (s t : List UInt8) : leN (subM s t) = (leN s + (PP - leN t % PP)) % PP := leN_least _
theorem leN_mulM (s t : List UInt8) : leN (mulM s t) = (leN s * leN t) % PP := leN_least _
theorem leN_zeros : ∀ n : Nat, leN (zerosL n) = 0
  | 0 => rfl
  | n + 1 => by
    show leN (0 :: zerosL n) = 0
    simp only [leN, leN_zeros n]
    rfl
theorem leB_zero : ∀ n : Nat, leB 0 n = zerosL n
  | 0 => rfl
  | n + 1 => by
    show UInt8.ofNat 0 :: leB (0 / 256) n = 0 :: zerosL n
    rw [Nat.zero_div, leB_zero n]
    rfl
theorem take_back (x y : Nat) : (x + y + (PP - y % PP)) % PP = x % PP := by
  have hp := PP_pos
  generalize PP = p at *
  have hy := Nat.mod_lt y hp
  have e : x + y + (p - y % p) = x + p * (y / p + 1) := by
    have := Nat.div_add_mod y p
    rw [Nat.mul_add, Nat.mul_one]
    omega
  rw [e, Nat.add_mul_mod_self_left]

theorem add_comm' (a b : List UInt8) : addM a b = addM b a := by unfold addM; rw [Nat.add_comm]
theorem add_assoc' (a b c : List UInt8) : addM (addM a b) c = addM a (addM b c) := by
  unfold addM
  rw [leN_least, leN_least, Nat.mod_add_mod, Nat.add_mod_mod, Nat.add_assoc]
theorem sub_add (a b : List UInt8) : subM (addM a b) b = lowM a := by
  unfold subM lowM
  rw [leN_addM, Nat.mod_add_mod, take_back]
theorem add_sub (a b : List UInt8) : addM (subM a b) b = lowM a := by
  unfold addM lowM
  rw [leN_subM, Nat.mod_add_mod, Nat.add_right_comm, take_back]
theorem sub_self (a : List UInt8) : subM a a = zerosL 32 := by
  unfold subM
  have := take_back 0 (leN a)
  rw [Nat.zero_add, Nat.zero_mod] at this
  rw [this, leB_zero]

theorem mul_comm' (a b : List UInt8) : mulM a b = mulM b a := by unfold mulM; rw [Nat.mul_comm]
theorem mul_assoc' (a b c : List UInt8) : mulM (mulM a b) c = mulM a (mulM b c) := by
  unfold mulM
  rw [leN_least, leN_least, Nat.mod_mul_mod, Nat.mul_mod_mod, Nat.mul_assoc]
theorem mul_add (a b c : List UInt8) : mulM a (addM b c) = addM (mulM a b) (mulM a c) := by
  unfold mulM addM
  rw [leN_least, leN_least, leN_least, Nat.mul_mod_mod, Nat.mod_add_mod, Nat.add_mod_mod, Nat.mul_add]
theorem leN_one : leN (sizedL [1] 32) = 1 := by decide +kernel
theorem mul_one' (a : List UInt8) : mulM a (sizedL [1] 32) = lowM a := by
  unfold mulM lowM
  rw [leN_one, Nat.mul_one]

end Go.Proofs.YtmceahknglkhoaaDoor
