/- Two slices of the same strings are the same. -/
import Derived.Test.YtdakmkbcepccbaaKdfDerive
namespace Go.Proofs.Ytdakmkbcepccbaa
open Go.RowKit
set_option linter.unusedVariables false

set_option maxHeartbeats 1000000 in
theorem code_eqs (w : World) (g1 g2 n c1 c2 : Nat) (ls : List (List UInt8)) (hn : ls.length = n) (hb : n ≤ 9223372036854775807)
    (h1 : ∀ i (hi : i < ls.length), w.cell? ⟨g1, i, none⟩ = some (S ls[i])) (h2 : ∀ i (hi : i < ls.length), w.cell? ⟨g2, i, none⟩ = some (S ls[i])) :
    Calls Try.prog 15 #[.slice (some ⟨g1, 0, none⟩) n c1, .slice (some ⟨g2, 0, none⟩) n c2] w fun e w' => e = .returned (.bool true) ∧ w = w' := by
  have H1 := Lib.hid h1
  have H2 := Lib.hid h2
  have HN := Lib.hid hn
  clear h1 h2 hn
  go_enter Try.func15, Try.ntmps15
  go_wp2_with fail
  go_loop [14] (fun v14 => ∃ i : Nat, i ≤ n ∧ v14 = .int .i64 i) (fun v14 => n - (intOf v14).toNat)
  case atStart => exact ⟨0, by omega, rfl⟩
  case round =>
    obtain ⟨i, hi, rfl⟩ := hrel
    by_cases hlt : i < n
    · have hil : i < ls.length := by rw [HN.out]; exact hlt
      have e1 := H1.out i hil
      have e2 := H2.out i hil
      generalize ls[i] = l at *
      unfold S at e1 e2
      have i1 : (i : Int) < (n : Int) := by omega
      go_wp2_with fail
      go_round
      case rel => exact ⟨i + 1, by omega, by go_num⟩
      case measure => simp [intOf]; omega
    · obtain rfl : i = n := by omega
      go_wp2_with fail
      go_ret
      exact ⟨rfl, rfl⟩

end Go.Proofs.Ytdakmkbcepccbaa
