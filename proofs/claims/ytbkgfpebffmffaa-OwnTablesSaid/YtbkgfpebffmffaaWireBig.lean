/- Big of up to eight bytes. -/
import Derived.Test.YtbkgfpebffmffaaWire
namespace Go.Proofs.Ytbkgfpebffmffaa
open Go.RowKit
set_option linter.unusedVariables false

set_option maxHeartbeats 400000 in
theorem wire_big (w : World) (l : List UInt8) (hl : l.length ≤ 8) :
    Calls Try.prog 53 #[S l] w fun e w' => e = .returned (.int .u64 (bigN l)) ∧ w = w' := by
  unfold S
  go_enter Try.func53, Try.ntmps53
  go_wp2
  go_loop [3, 8] (fun vn vi => ∃ j : Nat, j ≤ l.length ∧ vi = .int .i64 j ∧ vn = .int .u64 (bigN (l.take j))) (fun _ vi => l.length - (intOf vi).toNat)
  case atStart => exact ⟨0, by omega, rfl, rfl⟩
  case round =>
    obtain ⟨j, hj, rfl, rfl⟩ := hrel
    by_cases hlt : j < l.length
    · have hb := bigN_take_lt l j hlt hl
      go_wp2
      go_round
      case rel =>
        have e : bits .or .u64 ((bigN (l.take j) : Int) * 256) (IntKind.u64.wrap ((ByteArray.mk l.toArray)[j]'(by simpa [ByteArray.size] using hlt)).toNat) = ((bigN (l.take (j + 1)) : Nat) : Int) := by
          rw [List.take_succ_eq_append_getElem hlt, bigN_snoc]
          exact or_byte _ _ hb
        exact ⟨j + 1, by omega, by go_num, by rw [← e]⟩
      case measure => simp [intOf]; omega
    · obtain rfl : j = l.length := by omega
      go_wp2
      go_ret
      exact ⟨ret_int (by first | rfl | rw [List.take_length]), rfl⟩

theorem wire_big_any (w : World) (s : ByteArray) (hs : s.size ≤ 8) :
    Calls Try.prog 53 #[.string s] w fun e w' => e = .returned (.int .u64 (bigN s.data.toList)) ∧ w = w' := by
  have h := wire_big w s.data.toList (by rw [Array.length_toList]; exact hs)
  exact h

end Go.Proofs.Ytbkgfpebffmffaa
