/- A part of the text Zeros, apart. -/
import Derived.Test.YtmceahknglkhoaaDoorZeros
namespace Go.Proofs.YtmceahknglkhoaaDoor
open Go.RowKit
set_option linter.unusedVariables false

theorem code_zeros (w : World) (n : Nat) (hn : n ≤ 140737488355328) : Calls Tryd.prog 6 #[.int .i64 n] w (Grown (S (zerosL n)) w) := by
  go_enter Tryd.func6, Tryd.ntmps6
  go_wp2_with fail
  refine (repeat_zero w n hn).mono ?_
  rintro e w' ⟨rfl, hg⟩
  unfold S
  go_wp2_with fail
  go_ret
  exact ⟨rfl, hg⟩


end Go.Proofs.YtmceahknglkhoaaDoor
