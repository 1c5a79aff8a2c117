/- Keys of keys: digests of both kinds. -/
import Derived.Test.YtmomfbkpniblgaaGreatDoorDgKdf
namespace Go.Proofs.YtmomfbkpniblgaaGreatDoor
open Go.RowKit
set_option linter.unusedVariables false

set_option maxHeartbeats 1000000 in
theorem code_ksum (w : World) (suite : Nat) (h12 : suite = 1 ∨ suite = 2) (s : List UInt8) (hs : s.length ≤ 9223372036854775000) :
    Calls Tryz.prog 91 #[.int .i64 (suite : Int), S s] w (Grown (.tuple #[S (hashM suite s), .int .i64 0]) w) := by
  rcases h12 with rfl | rfl
  · have A1 : ∀ W : World, Calls Tryz.prog 160 #[S s] W (Grown (S (hashM 1 s)) W) := fun W => hash_bl W s hs
    generalize hashM 1 s = V at *
    unfold S at *
    clear hs
    show Calls Tryz.prog 91 #[.int .i64 1, _] w _
    have nf := no_nil1
    go_enter Tryz.func91, Tryz.ntmps91
    go_wp2_with fail
    (with_reducible refine (code_hashOf1 _).mono ?_)
    rintro e x1 ⟨rfl, rfl⟩
    go_wp2_with fail
    (with_reducible refine (A1 _).mono ?_)
    rintro e x1 ⟨rfl, hg⟩
    go_wp2_with fail
    go_ret2
    exact ⟨rfl, hg⟩
  · have A1 : ∀ W : World, Calls Tryz.prog 162 #[S s] W (Grown (S (hashM 2 s)) W) := fun W => hash_sh W s (by omega)
    generalize hashM 2 s = V at *
    unfold S at *
    clear hs
    show Calls Tryz.prog 91 #[.int .i64 2, _] w _
    have nf := no_nil2
    go_enter Tryz.func91, Tryz.ntmps91
    go_wp2_with fail
    (with_reducible refine (code_hashOf2 _).mono ?_)
    rintro e x1 ⟨rfl, rfl⟩
    go_wp2_with fail
    (with_reducible refine (A1 _).mono ?_)
    rintro e x1 ⟨rfl, hg⟩
    go_wp2_with fail
    go_ret2
    exact ⟨rfl, hg⟩

end Go.Proofs.YtmomfbkpniblgaaGreatDoor
