/- The statements' own helper: bytes of signs. -/
import Derived.Test.YtmceahknglkhoaaDoorRunhex
namespace Go.Proofs.YtmceahknglkhoaaDoor
open Go.RowKit
set_option linter.unusedVariables false

theorem listB (s : ByteArray) : ∃ l : List UInt8, s = ⟨l.toArray⟩ ∧ l.length = s.size := ⟨s.data.toList, rfl, by rw [Array.length_toList]; rfl⟩

theorem code_bytes (w : World) (l r : List UInt8) (hl : l.length ≤ 1000000) (hok : okR l = true) (hr : unhexR l = r) : Calls Tryd.prog 7 #[S l] w (Grown (S r) w) := by
  subst hr
  unfold S
  go_enter Tryd.func7, Tryd.ntmps7
  go_wp2_with fail
  refine (code_unhexR w l hl hok).mono ?_
  rintro e w1 ⟨rfl, hg⟩
  unfold S
  go_wp2_with fail
  go_ret
  exact ⟨rfl, hg⟩

end Go.Proofs.YtmceahknglkhoaaDoor
