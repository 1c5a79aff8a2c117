/- Words of 32 bits: rotations. -/
import Derived.Test.YtbkgfpebffmffaaBase
import Derived.Laws.BitsAllLaws
namespace Go.Proofs.Ytbkgfpebffmffaa
open Go.RowKit
set_option linter.unusedVariables false

def rotl32 (x s : Nat) : Nat := x * 2 ^ s % 4294967296 ||| x / 2 ^ (32 - s)

theorem rotl32_lt {x s : Nat} (hx : x < 4294967296) : rotl32 x s < 4294967296 :=
  Nat.or_lt_two_pow (n := 32) (Nat.mod_lt _ (by omega)) (Nat.lt_of_le_of_lt (Nat.div_le_self _ _) hx)

theorem xor32_lt {a b : Nat} (ha : a < 4294967296) (hb : b < 4294967296) : a ^^^ b < 4294967296 := Nat.xor_lt_two_pow (n := 32) ha hb

theorem rot32_val {x s : Nat} (hx : x < 4294967296) (X : Int) (hX : X = ((x * 2 ^ s % 4294967296 : Nat) : Int)) (Y : Int) (hY : Y = ((x / 2 ^ (32 - s) : Nat) : Int)) :
    bits .or .u32 X Y = ((rotl32 x s : Nat) : Int) := by
  subst hX hY
  rw [u32_or_nat _ _ (Nat.mod_lt _ (by omega)) (Nat.lt_of_le_of_lt (Nat.div_le_self _ _) hx)]
  rfl

theorem or_split (x s : Nat) (hx : x < 4294967296) (hs : s ≤ 32) : rotl32 x s = x % 2 ^ (32 - s) * 2 ^ s + x / 2 ^ (32 - s) := by
  unfold rotl32
  have e : (4294967296 : Nat) = 2 ^ (32 - s) * 2 ^ s := by rw [← Nat.pow_add, show 32 - s + s = 32 from by omega]
  have h : x / 2 ^ (32 - s) < 2 ^ s := by
    rw [Nat.div_lt_iff_lt_mul (Nat.two_pow_pos _), Nat.mul_comm, ← e]
    exact hx
  have e1 : x * 2 ^ s % 4294967296 = x % 2 ^ (32 - s) * 2 ^ s := by rw [e, Nat.mul_mod_mul_right]
  rw [e1, Nat.mul_comm, Nat.two_pow_add_eq_or_of_lt h]

theorem rotl32_back (x s : Nat) (hx : x < 4294967296) (h0 : 0 < s) (hs : s < 32) : rotl32 (rotl32 x s) (32 - s) = x := by
  rw [or_split _ _ (rotl32_lt hx) (by omega), or_split _ _ hx (by omega), show 32 - (32 - s) = s from by omega]
  have e : (4294967296 : Nat) = 2 ^ (32 - s) * 2 ^ s := by rw [← Nat.pow_add, show 32 - s + s = 32 from by omega]
  have h : x / 2 ^ (32 - s) < 2 ^ s := by
    rw [Nat.div_lt_iff_lt_mul (Nat.two_pow_pos _), Nat.mul_comm, ← e]
    exact hx
  have h1 := Nat.two_pow_pos s
  generalize 2 ^ s = p at *
  generalize 2 ^ (32 - s) = q at *
  rw [Nat.mul_comm (x % q) p, Nat.mul_add_mod, Nat.mod_eq_of_lt h, Nat.mul_add_div h1, Nat.div_eq_of_lt h, Nat.add_zero, Nat.mul_comm]
  exact Nat.div_add_mod x q

set_option maxHeartbeats 400000 in
theorem rot32_any (x s : Nat) (k : Int) (w : World) (hx : x < 4294967296) (hk : bits .and .u64 (IntKind.u64.wrap k) 31 = (s : Int)) (h0 : 0 < s) (h32 : s < 32) :
    Calls Try.prog 52 #[.int .u32 x, .int .i64 k] w fun e w' => e = .returned (.int .u32 (rotl32 x s : Nat)) ∧ w = w' := by
  have e2 : IntKind.u64.wrap (32 - (s : Int)) = 32 - (s : Int) := IntWalk.u64_in _ (by omega)
  have e3 : (s : Int) ≤ 32 := by omega
  have e4 : 32 - (s : Int) ≤ 32 := by omega
  have e5 : 0 ≤ 32 - (s : Int) := by omega
  go_enter Try.func52, Try.ntmps52
  go_wp2
  go_ret
  refine ⟨ret_int ?_, rfl⟩
  refine rot32_val hx _ ?_ _ ?_
  · simp
  · simp

end Go.Proofs.Ytbkgfpebffmffaa
