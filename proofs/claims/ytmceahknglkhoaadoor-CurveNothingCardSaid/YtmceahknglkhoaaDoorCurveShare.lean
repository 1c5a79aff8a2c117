/- Curve: Share where the multiple is nought. -/
import Derived.Test.YtmceahknglkhoaaDoorCurveLow
import Derived.Test.YtmceahknglkhoaaDoorSized
import Derived.Test.YtmceahknglkhoaaDoorLift
namespace Go.Proofs.YtmceahknglkhoaaDoor
open Go.RowKit
set_option linter.unusedVariables false

theorem trim_zeros : Lib.trimB (leB 0 32) 0 = [] := by decide

set_option maxHeartbeats 1000000 in
theorem code_cshare0 (w : World) (k u : List UInt8) (hk : k.length = 32) (hu : u.length = 32) (h0 : multL k u = leB 0 32) : Calls Tryd.prog 8 #[S k, S u] w (Grown (.tuple #[S [], .int .i64 12]) w) := by
  have AM : ∀ W : World, Calls Tryd.prog 14 #[S k, S u] W (Grown (.tuple #[S (leB 0 32), .int .i64 0]) W) := fun W => by
    have := code_cmult W k u hk hu
    rwa [h0] at this
  have AT : ∀ W : World, Calls Tryd.prog 15 #[S (leB 0 32), .string ⟨#[0]⟩] W (Grown (S []) W) := fun W => by
    refine (Tryd.strings_Trim_one ⟨(leB 0 32).toArray⟩ 0 (by decide) W (by decide)).mono ?_
    rintro e y ⟨rfl, h⟩
    refine ⟨?_, ?_⟩
    · show _ = Ending.returned (.string ⟨(([] : List UInt8)).toArray⟩)
      rw [← trim_zeros]
    · rcases h with rfl | rfl
      · exact grow_refl _ _
      · exact grow_drew (grow_refl _ _)
  generalize leB 0 32 = Z at *
  unfold S at *
  go_enter Tryd.func8, Tryd.ntmps8
  go_wp2_with fail
  (with_reducible refine (AM _).mono ?_)
  rintro e x1 ⟨rfl, hg1⟩
  go_wp2_with fail
  (with_reducible refine (AT _).mono ?_)
  rintro e x2 ⟨rfl, hg2⟩
  go_wp2_with fail
  go_ret2
  exact ⟨rfl, grow_trans hg1 hg2⟩

end Go.Proofs.YtmceahknglkhoaaDoor
