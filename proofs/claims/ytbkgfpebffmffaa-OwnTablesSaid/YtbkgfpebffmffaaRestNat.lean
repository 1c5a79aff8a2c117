/- Rest, as a natural number. -/
import Derived.Test.YtbkgfpebffmffaaRest
namespace Go.Proofs.Ytbkgfpebffmffaa
open Go.RowKit
set_option linter.unusedVariables false

theorem rest_nat (n : Int) (m : Nat) (M : Int) (hM : M = (m : Int)) (hn0 : -9223372036854775808 ≤ n) (hn1 : n ≤ 9223372036854775807) (hm : 0 < m) (hm1 : m ≤ 9223372036854775807) :
    ∃ r : Nat, r < m ∧ ∀ W : World, Calls Try.prog 13 #[.int .i64 n, .int .i64 M] W fun e w' => e = .returned (.int .i64 (r : Int)) ∧ W = w' := by
  subst hM
  refine ⟨(n % m).toNat, ?_, fun W => ?_⟩
  · have := Int.emod_lt_of_pos n (show (0 : Int) < m by omega)
    have := Int.emod_nonneg n (show (m : Int) ≠ 0 by omega)
    omega
  · have h := rest_any n m W hn0 hn1 (by omega) (by omega)
    have := Int.emod_nonneg n (show (m : Int) ≠ 0 by omega)
    rw [show (((n % (m : Int)).toNat : Nat) : Int) = n % (m : Int) from by omega]
    exact h
theorem wf_i64_of {n : Int} (h : (Lit.int .i64 n).wf = true) : -9223372036854775808 ≤ n ∧ n ≤ 9223372036854775807 := by
  simp only [Lit.wf, Bool.and_eq_true, decide_eq_true_eq] at h
  exact h

end Go.Proofs.Ytbkgfpebffmffaa
