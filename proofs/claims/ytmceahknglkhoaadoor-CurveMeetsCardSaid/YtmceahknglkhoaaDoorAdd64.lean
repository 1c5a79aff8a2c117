/- bits.Add64, bits.Mul64: sums and products of words, under names (as in Poly, PolyTimes; for seats without poly). -/
import Derived.Test.YtmceahknglkhoaaDoorSized
import Derived.Laws.Externs
namespace Go.Proofs.YtmceahknglkhoaaDoor
open Go.RowKit
set_option linter.unusedVariables false

theorem eadd64_run (x y c : Nat) (hc : c ≤ 1) (w : World) : (callFunc 54 #[.int .u64 x, .int .u64 y, .int .u64 c]).run Tryd.prog w =
    .ok (.value (.tuple #[.int .u64 (((x + y + c) % 18446744073709551616 : Nat) : Int), .int .u64 (((x + y + c) / 18446744073709551616 : Nat) : Int)])) w := by
  rw [run_callFunc_extern Tryd.func54 (by kernel_rfl) (by kernel_rfl) (by kernel_rfl) (e := add64Entry) (by kernel_rfl), run_add64 x y c (by omega) (by omega) (by omega) (by omega)]
  simp only [Result.andThen]
  congr 5 <;> omega
theorem eadd64_eq (x y c : Nat) (hc : c ≤ 1) (hx : x < 18446744073709551616) (hy : y < 18446744073709551616) : ∃ s d : Nat, s + 18446744073709551616 * d = x + y + c ∧ s < 18446744073709551616 ∧ d ≤ 1 ∧
    ∀ w : World, (callFunc 54 #[.int .u64 x, .int .u64 y, .int .u64 c]).run Tryd.prog w = .ok (.value (.tuple #[.int .u64 (s : Int), .int .u64 (d : Int)])) w :=
  ⟨_, _, by omega, Nat.mod_lt _ (by omega), by omega, fun w => eadd64_run x y c hc w⟩
theorem emul64_named (x y : Nat) (hx : x < 18446744073709551616) (hy : y < 18446744073709551616) : ∃ h l : Nat, l + 18446744073709551616 * h = x * y ∧ h < 18446744073709551616 ∧ l < 18446744073709551616 ∧
    ∀ w : World, Calls Tryd.prog 34 #[.int .u64 (x : Int), .int .u64 (y : Int)] w fun e w' => e = .returned (.tuple #[.int .u64 (h : Int), .int .u64 (l : Int)]) ∧ w' = w :=
  ⟨_, _, Nat.mod_add_div (x * y) 18446744073709551616, by
    rw [Nat.div_lt_iff_lt_mul (by omega)]
    exact Nat.mul_lt_mul_of_lt_of_lt hx hy, Nat.mod_lt _ (by omega), fun w => Tryd.bits_Mul64 x y hx hy w⟩

end Go.Proofs.YtmceahknglkhoaaDoor
