/- Poly: keys of a wrong size. -/
import Derived.Test.YtmomfbkpniblgaaGreatDoorDgTagW
namespace Go.Proofs.YtmomfbkpniblgaaGreatDoor
open Go.RowKit
set_option linter.unusedVariables false

theorem code_ptag_err (w : World) (key text : List UInt8) (hk : key.length ≠ 32) : Calls Tryz.prog 56 #[S key, S text] w (Grown (.tuple #[S [], .int .i64 1]) w) := by
  have q : ((key.length : Int) != 32) = true := by rw [bne_iff_ne]; omega
  clear hk
  unfold S
  go_enter Tryz.func56, Tryz.ntmps56
  go_wp2_with fail
  go_ret2
  exact ⟨rfl, by first | exact grow_refl _ _ | exact grow_alloc (grow_refl _ _) _⟩

end Go.Proofs.YtmomfbkpniblgaaGreatDoor
