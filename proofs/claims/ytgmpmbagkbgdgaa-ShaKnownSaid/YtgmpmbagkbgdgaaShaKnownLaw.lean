/- The walk of ShaKnown. -/
import Derived.Test.YtgmpmbagkbgdgaaShaLaws
import Derived.Test.YtgmpmbagkbgdgaaKeepBytes
namespace Go.Proofs.Ytgmpmbagkbgdgaa
open Go.RowKit
set_option linter.unusedVariables false

def shT1 : List UInt8 := [97, 98, 99]
def shT3 : List UInt8 := [97, 98, 99, 100, 98, 99, 100, 101, 99, 100, 101, 102, 100, 101, 102, 103, 101, 102, 103, 104, 102, 103, 104, 105, 103, 104, 105, 106, 104, 105, 106, 107, 105, 106, 107, 108, 106, 107, 108, 109, 107, 108, 109, 110, 108, 109, 110, 111, 109, 110, 111, 112, 110, 111, 112, 113]
def shH1 : List UInt8 := [98, 97, 55, 56, 49, 54, 98, 102, 56, 102, 48, 49, 99, 102, 101, 97, 52, 49, 52, 49, 52, 48, 100, 101, 53, 100, 97, 101, 50, 50, 50, 51, 98, 48, 48, 51, 54, 49, 97, 51, 57, 54, 49, 55, 55, 97, 57, 99, 98, 52, 49, 48, 102, 102, 54, 49, 102, 50, 48, 48, 49, 53, 97, 100]
def shH2 : List UInt8 := [101, 51, 98, 48, 99, 52, 52, 50, 57, 56, 102, 99, 49, 99, 49, 52, 57, 97, 102, 98, 102, 52, 99, 56, 57, 57, 54, 102, 98, 57, 50, 52, 50, 55, 97, 101, 52, 49, 101, 52, 54, 52, 57, 98, 57, 51, 52, 99, 97, 52, 57, 53, 57, 57, 49, 98, 55, 56, 53, 50, 98, 56, 53, 53]
def shH3 : List UInt8 := [50, 52, 56, 100, 54, 97, 54, 49, 100, 50, 48, 54, 51, 56, 98, 56, 101, 53, 99, 48, 50, 54, 57, 51, 48, 99, 51, 101, 54, 48, 51, 57, 97, 51, 51, 99, 101, 52, 53, 57, 54, 52, 102, 102, 50, 49, 54, 55, 102, 54, 101, 99, 101, 100, 100, 52, 49, 57, 100, 98, 48, 54, 99, 49]
theorem sh_vec1 : okR shH1 = true ∧ unhexR shH1 = shaL shT1 := by decide +kernel
theorem sh_vec2 : okR shH2 = true ∧ unhexR shH2 = shaL [] := by decide +kernel
theorem sh_vec3 : okR shH3 = true ∧ unhexR shH3 = shaL shT3 := by decide +kernel

set_option maxRecDepth 20000 in
set_option maxHeartbeats 1000000 in
theorem walk_ShaKnown (w : World) :
    Calls Try.prog 3 #[] w fun e w' => e = .returned (.bool true) ∧ Below w.heap.size w w' := by
  have A1 : ∀ W : World, Calls Try.prog 9 #[S shT1] W (Grown (S (shaL shT1)) W) := fun W => sha_sum W shT1 (by decide)
  have A2 : ∀ W : World, Calls Try.prog 9 #[S []] W (Grown (S (shaL [])) W) := fun W => sha_sum W [] (by decide)
  have A3 : ∀ W : World, Calls Try.prog 9 #[S shT3] W (Grown (S (shaL shT3)) W) := fun W => sha_sum W shT3 (by decide)
  have B1 : ∀ W : World, Calls Try.prog 10 #[S shH1] W (Grown (S (shaL shT1)) W) := fun W => code_bytes W shH1 _ (by decide) sh_vec1.1 sh_vec1.2
  have B2 : ∀ W : World, Calls Try.prog 10 #[S shH2] W (Grown (S (shaL [])) W) := fun W => code_bytes W shH2 _ (by decide) sh_vec2.1 sh_vec2.2
  have B3 : ∀ W : World, Calls Try.prog 10 #[S shH3] W (Grown (S (shaL shT3)) W) := fun W => code_bytes W shH3 _ (by decide) sh_vec3.1 sh_vec3.2
  generalize shaL shT1 = v1 at *
  generalize shaL [] = v2 at *
  generalize shaL shT3 = v3 at *
  unfold S at *
  unfold shT1 at A1
  unfold shT3 at A3
  unfold shH1 at B1
  unfold shH2 at B2
  unfold shH3 at B3
  go_enter Try.func3, Try.ntmps3
  go_wp2_with fail
  (with_reducible refine (A1 _).mono ?_)
  rintro e x1 ⟨rfl, hg1⟩
  go_wp2_with fail
  (with_reducible refine (B1 _).mono ?_)
  rintro e x2 ⟨rfl, hg2⟩
  go_wp2_with fail
  (with_reducible refine (A2 _).mono ?_)
  rintro e x3 ⟨rfl, hg3⟩
  go_wp2_with fail
  (with_reducible refine (B2 _).mono ?_)
  rintro e x4 ⟨rfl, hg4⟩
  go_wp2_with fail
  (with_reducible refine (A3 _).mono ?_)
  rintro e x5 ⟨rfl, hg5⟩
  go_wp2_with fail
  (with_reducible refine (B3 _).mono ?_)
  rintro e x6 ⟨rfl, hg6⟩
  go_wp2_with fail
  go_ret
  exact ⟨rfl, grow_below (grow_trans (grow_trans (grow_trans (grow_trans (grow_trans hg1 hg2) hg3) hg4) hg5) hg6) _ (Nat.le_refl _) (by simp)⟩

end Go.Proofs.Ytgmpmbagkbgdgaa
