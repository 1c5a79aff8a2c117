/- A step's kind. -/
import Derived.Test.YtbkgfpebffmffaaRest
import Derived.Test.YtbkgfpebffmffaaSteps
namespace Go.Proofs.Ytbkgfpebffmffaa
open Go.RowKit
set_option linter.unusedVariables false

set_option maxHeartbeats 400000 in
theorem of_step (w : World) (v : StepV) (hv : v.ok) (n : Int) (h0 : 0 < n) (h1 : n ≤ 9223372036854775807) :
    Calls Try.prog 18 #[.agg v.cells, .int .i64 n] w fun e w' => e = .returned (.int .i64 (v.kind % n)) ∧ w.grownBy w' none := by
  have b := bounds_i64 hv.1
  unfold StepV.cells
  go_enter Try.func18, Try.ntmps18
  go_wp2_with fail
  refine (rest_any v.kind n _ b.1 b.2 h0 h1).mono ?_
  rintro e x2 ⟨rfl, rfl⟩
  go_wp2_with fail
  go_ret
  exact ⟨rfl, by first | exact grow_alloc (grow_refl _ _) _ | exact grow_refl _ _⟩

end Go.Proofs.Ytbkgfpebffmffaa
