/- bits.Add64, bits.Mul64: sums and products of words, under names (as in Poly, PolyTimes; for seats without poly). -/
import Derived.Test.YtmceahknglkhoaaSized
import Derived.Laws.Externs
namespace Go.Proofs.Ytmceahknglkhoaa
open Go.RowKit
set_option linter.unusedVariables false

theorem eadd64_run (x y c : Nat) (hc : c ≤ 1) (w : World) : (callFunc 36 #[.int .u64 x, .int .u64 y, .int .u64 c]).run Try.prog w =
    .ok (.value (.tuple #[.int .u64 (((x + y + c) % 18446744073709551616 : Nat) : Int), .int .u64 (((x + y + c) / 18446744073709551616 : Nat) : Int)])) w := by
  rw [run_callFunc_extern Try.func36 (by kernel_rfl) (by kernel_rfl) (by kernel_rfl) (e := add64Entry) (by kernel_rfl), run_add64 x y c (by omega) (by omega) (by omega) (by omega)]
  simp only [Result.andThen]
  congr 5 <;> omega
theorem eadd64_eq (x y c : Nat) (hc : c ≤ 1) (hx : x < 18446744073709551616) (hy : y < 18446744073709551616) : ∃ s d : Nat, s + 18446744073709551616 * d = x + y + c ∧ s < 18446744073709551616 ∧ d ≤ 1 ∧
    ∀ w : World, (callFunc 36 #[.int .u64 x, .int .u64 y, .int .u64 c]).run Try.prog w = .ok (.value (.tuple #[.int .u64 (s : Int), .int .u64 (d : Int)])) w :=
  ⟨_, _, by omega, Nat.mod_lt _ (by omega), by omega, fun w => eadd64_run x y c hc w⟩
theorem emul64_named (x y : Nat) (hx : x < 18446744073709551616) (hy : y < 18446744073709551616) : ∃ h l : Nat, l + 18446744073709551616 * h = x * y ∧ h < 18446744073709551616 ∧ l < 18446744073709551616 ∧
    ∀ w : World, Calls Try.prog 41 #[.int .u64 (x : Int), .int .u64 (y : Int)] w fun e w' => e = .returned (.tuple #[.int .u64 (h : Int), .int .u64 (l : Int)]) ∧ w' = w :=
  ⟨_, _, Nat.mod_add_div (x * y) 18446744073709551616, by
    rw [Nat.div_lt_iff_lt_mul (by omega)]
    exact Nat.mul_lt_mul_of_lt_of_lt hx hy, Nat.mod_lt _ (by omega), fun w => Try.bits_Mul64 x y hx hy w⟩

end Go.Proofs.Ytmceahknglkhoaa
