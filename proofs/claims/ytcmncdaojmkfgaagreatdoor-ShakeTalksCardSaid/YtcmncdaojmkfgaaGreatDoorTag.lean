/- Poly1305: tags. -/
import Derived.Test.YtcmncdaojmkfgaaGreatDoorPolyTimes
import Derived.Test.YtcmncdaojmkfgaaGreatDoorQ18
import Derived.Deep.DrawnRows
namespace Go.Proofs.YtcmncdaojmkfgaaGreatDoor
open Go.RowKit
set_option linter.unusedVariables false
attribute [local go_sem ↓] Go.wp_at_zero Go.wp_at_succ

/-- The two calls of a round, their numbers under names. -/
theorem round_calls (a n p q s d0 d1 d2 b0 b1 : Nat) (hN : N3 a = .agg #[.int .u64 (p : Int), .int .u64 (q : Int), .int .u64 (s : Int)]) (hn : N3 n = .agg #[.int .u64 (d0 : Int), .int .u64 (d1 : Int), .int .u64 (d2 : Int)])
    (hs : a + n < 6277101735386680763835789423207666416102355444464034512896) (h0 : b0 < 18446744073709551616) (h1 : b1 < 18446744073709551616) :
    ∃ p1 q1 s1 p2 q2 s2 : Nat, N3 (pmul (a + n) (b0 + 18446744073709551616 * b1)) = .agg #[.int .u64 (p2 : Int), .int .u64 (q2 : Int), .int .u64 (s2 : Int)] ∧
      (∀ W : World, Calls Tryz.prog 155 #[.agg #[.int .u64 (p : Int), .int .u64 (q : Int), .int .u64 (s : Int)], .agg #[.int .u64 (d0 : Int), .int .u64 (d1 : Int), .int .u64 (d2 : Int)]] W (Grown (.agg #[.int .u64 (p1 : Int), .int .u64 (q1 : Int), .int .u64 (s1 : Int)]) W)) ∧
      (∀ W : World, Calls Tryz.prog 156 #[.agg #[.int .u64 (p1 : Int), .int .u64 (q1 : Int), .int .u64 (s1 : Int)], .agg #[.int .u64 (b0 : Int), .int .u64 (b1 : Int)]] W (Grown (.agg #[.int .u64 (p2 : Int), .int .u64 (q2 : Int), .int .u64 (s2 : Int)]) W)) := by
  obtain ⟨u0, u1, u2, e0, e1, e2⟩ : ∃ u0 u1 u2 : Nat, u0 = (a + n) % 18446744073709551616 ∧ u1 = (a + n) / 18446744073709551616 % 18446744073709551616 ∧ u2 = (a + n) / 18446744073709551616 / 18446744073709551616 % 18446744073709551616 := ⟨_, _, _, rfl, rfl, rfl⟩
  have hu : a + n = u0 + 18446744073709551616 * u1 + 340282366920938463463374607431768211456 * u2 := by omega
  have hA : N3 (a + n) = .agg #[.int .u64 (u0 : Int), .int .u64 (u1 : Int), .int .u64 (u2 : Int)] := by rw [e0, e1, e2]; rfl
  obtain ⟨v0, v1, v2, hM⟩ := N3_atoms (pmul (a + n) (b0 + 18446744073709551616 * b1))
  refine ⟨u0, u1, u2, v0, v1, v2, hM, fun W => ?_, fun W => ?_⟩
  · have := code_pplus W a n
    rwa [hN, hn, hA] at this
  · have := code_ptimes W 0 0 u0 u1 u2 b0 b1 (by omega) (by omega) (by omega) h0 h1
    rwa [← hu, hM] at this

end Go.Proofs.YtcmncdaojmkfgaaGreatDoor
