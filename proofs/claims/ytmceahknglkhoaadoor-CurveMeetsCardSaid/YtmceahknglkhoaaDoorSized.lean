/- Texts of a size. -/
import Derived.Test.YtmceahknglkhoaaDoorZerosK
namespace Go.Proofs.YtmceahknglkhoaaDoor
open Go.RowKit
set_option linter.unusedVariables false

set_option maxHeartbeats 400000 in
theorem code_sized (w : World) (l : List UInt8) (n : Nat) (hl : l.length ≤ 9223372036854775807) (hn : n ≤ 140737488355328) : Calls Tryd.prog 5 #[S l, .int .i64 n] w (Grown (S (sizedL l n)) w) := by
  have r1 := rule_app
  have r2 := rule_ext
  by_cases h : n ≤ l.length
  · have hs : sizedL l n = l.take n := by
      unfold sizedL zerosL
      rw [Nat.sub_eq_zero_of_le h]
      simp
    rw [hs]
    clear hs
    unfold S
    go_enter Tryd.func5, Tryd.ntmps5
    go_wp2_with fail
    go_ret
    exact ⟨by simp, grow_refl _ _⟩
  · have hs : sizedL l n = l ++ zerosL (n - l.length) := by
      unfold sizedL
      rw [List.take_of_length_le (by omega)]
    rw [hs]
    clear hs
    have e1 : (n : Int) - (l.length : Int) = ((n - l.length : Nat) : Int) := by omega
    have e2 : l.length + (n - l.length) ≤ 9223372036854775807 := by omega
    have r3 := zerosL_length
    unfold S
    go_enter Tryd.func5, Tryd.ntmps5
    go_wp2_with fail
    refine (code_zeros w (n - l.length) (by omega)).mono ?_
    rintro e w' ⟨rfl, hg⟩
    unfold S
    go_wp2_with fail
    go_ret
    exact ⟨rfl, hg⟩

end Go.Proofs.YtmceahknglkhoaaDoor
