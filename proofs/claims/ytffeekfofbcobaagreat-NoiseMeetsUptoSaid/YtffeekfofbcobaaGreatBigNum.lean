/- Numbers as bytes, the highest first: plain. -/
import Derived.Test.YtffeekfofbcobaaGreatWire
namespace Go.Proofs.YtffeekfofbcobaaGreat
open Go.RowKit
set_option linter.unusedVariables false

theorem bigN_append (a b : List UInt8) : bigN (a ++ b) = bigN a * 256 ^ b.length + bigN b := by
  have h : ∀ (b : List UInt8) (n : Nat), b.foldl (fun n c => n * 256 + c.toNat) n = n * 256 ^ b.length + b.foldl (fun n c => n * 256 + c.toNat) 0 := by
    intro b
    induction b with
    | nil => intro n; simp
    | cons c b ih =>
      intro n
      rw [List.foldl_cons, ih, List.foldl_cons, ih (0 * 256 + c.toNat), List.length_cons, Nat.pow_succ, Nat.add_mul]
      simp only [Nat.zero_mul, Nat.zero_add]
      have : n * 256 * 256 ^ b.length = n * (256 ^ b.length * 256) := by rw [Nat.mul_assoc, Nat.mul_comm 256]
      omega
  unfold bigN
  rw [List.foldl_append, h b]

theorem bigB_succ (n k : Nat) : bigB n (k + 1) = UInt8.ofNat (n / 256 ^ k) :: bigB n k := by
  unfold bigB
  rw [List.range_succ_eq_map, List.map_cons, List.map_map]
  congr 1
  · have : 2 ^ (8 * (k + 1 - 1 - 0)) = 256 ^ k := by
      rw [show k + 1 - 1 - 0 = k from by omega, Nat.pow_mul]
    rw [this]
  · apply List.map_congr_left
    intro i hi
    have hi' := List.mem_range.1 hi
    simp only [Function.comp]
    rw [show k + 1 - 1 - (i + 1) = k - 1 - i from by omega]

/-- What was written in so many bytes is read back. -/
theorem bigN_bigB (n : Nat) : ∀ k, bigN (bigB n k) = n % 256 ^ k
  | 0 => by simp [bigB, bigN, Nat.mod_one]
  | k + 1 => by
    rw [bigB_succ, show UInt8.ofNat (n / 256 ^ k) :: bigB n k = [UInt8.ofNat (n / 256 ^ k)] ++ bigB n k from rfl, bigN_append, bigN_bigB n k, bigB_length]
    have e : bigN [UInt8.ofNat (n / 256 ^ k)] = n / 256 ^ k % 256 := by simp [bigN]
    rw [e, Nat.pow_succ, Nat.mod_mul]
    rw [Nat.mul_comm]
    omega

theorem bigN_cons (c : UInt8) (l : List UInt8) : bigN (c :: l) = c.toNat * 256 ^ l.length + bigN l := by
  rw [show c :: l = [c] ++ l from rfl, bigN_append]; simp [bigN]

theorem bigN_inj : ∀ a b : List UInt8, a.length = b.length → bigN a = bigN b → a = b
  | [], [], _, _ => rfl
  | c :: a, d :: b, hl, h => by
    have hl' : a.length = b.length := by simpa using hl
    rw [bigN_cons, bigN_cons, hl'] at h
    have h1 := bigN_lt a
    have h2 := bigN_lt b
    rw [hl'] at h1
    have e : c.toNat = d.toNat := by
      rcases Nat.lt_trichotomy c.toNat d.toNat with hc | hc | hc
      · have := Nat.mul_le_mul_right (256 ^ b.length) (show c.toNat + 1 ≤ d.toNat from hc)
        rw [Nat.add_mul] at this; omega
      · exact hc
      · have := Nat.mul_le_mul_right (256 ^ b.length) (show d.toNat + 1 ≤ c.toNat from hc)
        rw [Nat.add_mul] at this; omega
    rw [e] at h
    rw [UInt8.toNat_inj.1 e, bigN_inj a b hl' (by omega)]

/-- What is read is written so. -/
theorem bigB_bigN (l : List UInt8) : bigB (bigN l) l.length = l :=
  bigN_inj _ _ (bigB_length _ _) (by rw [bigN_bigB, Nat.mod_eq_of_lt (bigN_lt l)])

theorem u8_cmp (a b : UInt8) : decide (a < b) = decide (a.toNat < b.toNat) ∧ (a == b) = decide (a.toNat = b.toNat) := by
  constructor
  · rfl
  · rw [Bool.eq_iff_iff]
    simp [UInt8.toNat_inj]


/-- Sixteen bytes are two words. -/
theorem bigB_16 (n : Nat) (h : n < 340282366920938463463374607431768211456) : bigB n 16 = bigB (n / 18446744073709551616) 8 ++ bigB (n % 18446744073709551616) 8 := by
  refine bigN_inj _ _ (by rw [List.length_append, bigB_length, bigB_length, bigB_length]) ?_
  rw [bigN_append, bigN_bigB, bigN_bigB, bigN_bigB, bigB_length]
  simp only [Nat.reducePow]
  omega

theorem bigN_16 (l : List UInt8) (h : l.length = 16) : bigN l = 18446744073709551616 * bigN (l.take 8) + bigN (l.drop 8) := by
  have e : l = l.take 8 ++ l.drop 8 := (List.take_append_drop 8 l).symm
  conv => lhs; rw [e, bigN_append]
  rw [List.length_drop, h]
  simp only [Nat.reduceSub, Nat.reducePow]
  omega

end Go.Proofs.YtffeekfofbcobaaGreat
