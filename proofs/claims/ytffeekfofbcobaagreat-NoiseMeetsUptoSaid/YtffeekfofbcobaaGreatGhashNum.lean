/- Blocks as two words: plain. -/
import Derived.Test.YtffeekfofbcobaaGreatGhashPlain
import Derived.Test.YtffeekfofbcobaaGreatBigNum
import Derived.Laws.BitsAllLaws
namespace Go.Proofs.YtffeekfofbcobaaGreat
open Go.RowKit
set_option linter.unusedVariables false

def hi64 (n : Nat) : Nat := n / 18446744073709551616
def lo64 (n : Nat) : Nat := n % 18446744073709551616
/-- A block as the program has it. -/
def G2 (n : Nat) : Value := .agg #[.int .u64 (hi64 n : Nat), .int .u64 (lo64 n : Nat)]

theorem lo64_lt (n : Nat) : lo64 n < 18446744073709551616 := Nat.mod_lt _ (by omega)
theorem hi64_lt {n : Nat} (h : n < 2 ^ 128) : hi64 n < 18446744073709551616 := by unfold hi64; omega
theorem hl64 (n : Nat) : n = 18446744073709551616 * hi64 n + lo64 n := by unfold hi64 lo64; omega
theorem of_hl {n h l : Nat} (e : n = 18446744073709551616 * h + l) (hl : l < 18446744073709551616) : hi64 n = h ∧ lo64 n = l := by unfold hi64 lo64; omega

theorem hi64_xor (a b : Nat) : hi64 (a ^^^ b) = hi64 a ^^^ hi64 b := by
  unfold hi64
  exact Nat.xor_div_two_pow (n := 64)
theorem lo64_xor (a b : Nat) : lo64 (a ^^^ b) = lo64 a ^^^ lo64 b := by
  unfold lo64
  exact Nat.xor_mod_two_pow (n := 64)

/-- The bit that a round looks at. -/
theorem bit_hi {p i : Nat} (h : i < 64) : p / 2 ^ (127 - i) % 2 = hi64 p / 2 ^ (63 - i) % 2 := by
  unfold hi64
  rw [show (18446744073709551616 : Nat) = 2 ^ 64 from rfl, Nat.div_div_eq_div_mul, ← Nat.pow_add, show 64 + (63 - i) = 127 - i from by omega]
theorem bit_lo {p i : Nat} (h : 64 ≤ i) (h2 : i < 128) : p / 2 ^ (127 - i) % 2 = lo64 p / 2 ^ (63 - i % 64) % 2 := by
  unfold lo64
  obtain ⟨j, hj, hj2⟩ : ∃ j, 127 - i = j ∧ j < 64 := ⟨_, rfl, by omega⟩
  rw [show 63 - i % 64 = j from by omega, hj, show (18446744073709551616 : Nat) = 2 ^ j * 2 ^ (64 - j) from by rw [← Nat.pow_add, show j + (64 - j) = 64 from by omega]]
  rw [Nat.mod_mul_right_div_self]
  have h2 : 2 ∣ 2 ^ (64 - j) := ⟨2 ^ (64 - j - 1), by rw [← Nat.pow_succ']; congr 1; omega⟩
  rw [Nat.mod_mod_of_dvd _ h2]

/-- Times x, word by word. -/
theorem qx_words (q : Nat) : hi64 (qx q) = hi64 q / 2 ^^^ lo64 q % 2 * 16212958658533785600 ∧ lo64 (qx q) = lo64 q / 2 + hi64 q % 2 * 9223372036854775808 := by
  have e1 : qx q = q / 2 ^^^ q % 2 * hRed := rfl
  have hr : hRed = 18446744073709551616 * 16212958658533785600 := by decide +kernel
  have e2 : q % 2 = lo64 q % 2 := by unfold lo64; omega
  have e3 : hi64 (lo64 q % 2 * hRed) = lo64 q % 2 * 16212958658533785600 ∧ lo64 (lo64 q % 2 * hRed) = 0 := by
    rw [hr]
    refine of_hl (l := 0) ?_ (by omega)
    rw [Nat.add_zero]
    ac_rfl
  have e4 : hi64 (q / 2) = hi64 q / 2 := by unfold hi64; omega
  have e5 : lo64 (q / 2) = lo64 q / 2 + hi64 q % 2 * 9223372036854775808 := by unfold hi64 lo64; omega
  rw [e1, hi64_xor, lo64_xor, e2, e3.1, e3.2, e4, e5, Nat.xor_zero]
  exact ⟨rfl, rfl⟩

theorem or63 (l h : Nat) (hl : l < 18446744073709551616) : l / 2 ||| h * 9223372036854775808 % 18446744073709551616 = l / 2 + h % 2 * 9223372036854775808 := by
  have e : h * 9223372036854775808 % 18446744073709551616 = 2 ^ 63 * (h % 2) := by omega
  rw [e, Nat.or_comm, ← Nat.two_pow_add_eq_or_of_lt (by omega)]
  omega

/-- A block's number, its bytes. -/
theorem two128 : (2 : Nat) ^ 128 = 340282366920938463463374607431768211456 := by decide +kernel
theorem blk_lt (l : List UInt8) (h : l.length = 16) : bigN l < 2 ^ 128 := by
  have := bigN_lt l
  rw [h] at this
  rw [two128]
  simpa using this
theorem blk_words (l : List UInt8) (h : l.length = 16) : hi64 (bigN l) = bigN (l.take 8) ∧ lo64 (bigN l) = bigN (l.drop 8) :=
  of_hl (bigN_16 l h) (bigN_lt8 _ (by rw [List.length_drop]; omega))
theorem blk_text {n : Nat} (h : n < 2 ^ 128) : bigB (hi64 n) 8 ++ bigB (lo64 n) 8 = bigB n 16 := by
  rw [two128] at h
  exact (bigB_16 n h).symm
theorem blk_back (l : List UInt8) (h : l.length = 16) : bigB (bigN l) 16 = l := by
  have := bigB_bigN l
  rwa [h] at this
theorem blk_forth {n : Nat} (h : n < 2 ^ 128) : bigN (bigB n 16) = n := by
  rw [bigN_bigB]
  exact Nat.mod_eq_of_lt (by rw [two128] at h; simpa using h)

end Go.Proofs.YtffeekfofbcobaaGreat
