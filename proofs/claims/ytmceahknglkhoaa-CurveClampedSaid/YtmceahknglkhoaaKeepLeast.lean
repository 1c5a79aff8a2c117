/- A part of the text ElemKeep, apart. -/
import Derived.Test.YtmceahknglkhoaaElemLow
namespace Go.Proofs.Ytmceahknglkhoaa
open Go.RowKit
set_option linter.unusedVariables false

theorem code_kLeast (w : World) (s : List UInt8) (hs : s.length = 32) : Calls Try.prog 12 #[S s] w (Grown (S (lowM s)) w) := by
  have A := fun W : World => code_nlow W s hs
  obtain ⟨V, hV⟩ : ∃ V, V = lowM s := ⟨_, rfl⟩
  rw [← hV]
  rw [← hV] at A
  unfold Said S at A
  unfold S
  clear hV hs
  go_enter Try.func12, Try.ntmps12
  go_wp2_with fail
  (with_reducible refine (A _).mono ?_)
  rintro e w1 ⟨rfl, hg⟩
  go_wp2_with fail
  go_ret
  exact ⟨rfl, hg⟩

end Go.Proofs.Ytmceahknglkhoaa
