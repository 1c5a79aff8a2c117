/- A part of the text Zeros, apart. -/
import Derived.Test.YtmceahknglkhoaaZeros
namespace Go.Proofs.Ytmceahknglkhoaa
open Go.RowKit
set_option linter.unusedVariables false

theorem code_zeros (w : World) (n : Nat) (hn : n ≤ 140737488355328) : Calls Try.prog 10 #[.int .i64 n] w (Grown (S (zerosL n)) w) := by
  go_enter Try.func10, Try.ntmps10
  go_wp2_with fail
  refine (repeat_zero w n hn).mono ?_
  rintro e w' ⟨rfl, hg⟩
  unfold S
  go_wp2_with fail
  go_ret
  exact ⟨rfl, hg⟩


end Go.Proofs.Ytmceahknglkhoaa
