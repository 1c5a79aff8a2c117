/- The walk of GcmKnown. -/
import Derived.Test.YtpeheefpidggfaaGcmOpen
import Derived.Test.YtpeheefpidggfaaKeepBytes
import Derived.Test.YtpeheefpidggfaaOpen
namespace Go.Proofs.Ytpeheefpidggfaa
open Go.RowKit
set_option linter.unusedVariables false

def ghx1 : List UInt8 := [99, 101, 97, 55, 52, 48, 51, 100, 52, 100, 54, 48, 54, 98, 54, 101, 48, 55, 52, 101, 99, 53, 100, 51, 98, 97, 102, 51, 57, 100, 49, 56, 100, 48, 100, 49, 99, 56, 97, 55, 57, 57, 57, 57, 54, 98, 102, 48, 50, 54, 53, 98, 57, 56, 98, 53, 100, 52, 56, 97, 98, 57, 49, 57]
def ghx2 : List UInt8 := [53, 51, 48, 102, 56, 97, 102, 98, 99, 55, 52, 53, 51, 54, 98, 57, 97, 57, 54, 51, 98, 52, 102, 49, 99, 52, 99, 98, 55, 51, 56, 98]
def ghv1 : List UInt8 := [206, 167, 64, 61, 77, 96, 107, 110, 7, 78, 197, 211, 186, 243, 157, 24, 208, 209, 200, 167, 153, 153, 107, 240, 38, 91, 152, 181, 212, 138, 185, 25]
def ghv2 : List UInt8 := [83, 15, 138, 251, 199, 69, 54, 185, 169, 99, 180, 241, 196, 203, 115, 139]
theorem ghu1 : okR ghx1 = true ∧ unhexR ghx1 = ghv1 := by decide +kernel
theorem ghu2 : okR ghx2 = true ∧ unhexR ghx2 = ghv2 := by decide +kernel

set_option maxHeartbeats 1000000 in
theorem walk_GcmKnown (w : World) :
    Calls Try.prog 9 #[] w fun e w' => e = .returned (.bool true) ∧ Below w.heap.size w w' := by
  have N1 : ∀ W : World, Calls Try.prog 21 #[.int .i64 32] W (Grown (S (zerosL 32)) W) := fun W => code_zeros W 32 (by omega)
  have N2 : ∀ W : World, Calls Try.prog 21 #[.int .i64 12] W (Grown (S (zerosL 12)) W) := fun W => code_zeros W 12 (by omega)
  have N3 : ∀ W : World, Calls Try.prog 21 #[.int .i64 16] W (Grown (S (zerosL 16)) W) := fun W => code_zeros W 16 (by omega)
  have B1 : ∀ W : World, Calls Try.prog 23 #[S (zerosL 32), S (zerosL 12), S [], S (zerosL 16)] W (GSaid ghv1 W) := fun W => by
    have := code_gseal W (zerosL 32) (zerosL 12) [] (zerosL 16) (by decide) (by decide) (by decide) (by decide)
    rwa [gcm_vec1] at this
  have B2 : ∀ W : World, Calls Try.prog 23 #[S (zerosL 32), S (zerosL 12), S [], S []] W (GSaid ghv2 W) := fun W => by
    have := code_gseal W (zerosL 32) (zerosL 12) [] [] (by decide) (by decide) (by decide) (by decide)
    rwa [gcm_vec2] at this
  have A1 : ∀ W : World, Calls Try.prog 14 #[S ghx1] W (Grown (S ghv1) W) := fun W => code_bytes W ghx1 ghv1 (by decide) ghu1.1 ghu1.2
  have A2 : ∀ W : World, Calls Try.prog 14 #[S ghx2] W (Grown (S ghv2) W) := fun W => code_bytes W ghx2 ghv2 (by decide) ghu2.1 ghu2.2
  generalize zerosL 32 = z32 at *
  generalize zerosL 12 = z12 at *
  generalize zerosL 16 = z16 at *
  generalize ghv1 = v1 at *
  generalize ghv2 = v2 at *
  have G0 := grow_refl w none
  unfold GSaid S at *
  unfold ghx1 at A1
  unfold ghx2 at A2
  go_enter Try.func9, Try.ntmps9
  go_wp2_with fail
  (with_reducible refine (N1 _).mono ?_)
  rintro e y0 ⟨rfl, hg0⟩
  have G0_0 := grow_trans G0 hg0
  clear hg0 G0
  go_wp2_with fail
  (with_reducible refine (N2 _).mono ?_)
  rintro e y1 ⟨rfl, hg1⟩
  have G0_1 := grow_trans G0_0 hg1
  clear hg1 G0_0
  go_wp2_with fail
  (with_reducible refine (N3 _).mono ?_)
  rintro e y2 ⟨rfl, hg2⟩
  have G0_2 := grow_trans G0_1 hg2
  clear hg2 G0_1
  go_wp2_with fail
  (with_reducible refine (B1 _).mono ?_)
  rintro e y3 ⟨rfl, hg3⟩
  have G0_3 := grow_trans G0_2 hg3
  clear hg3 G0_2
  go_wp2_with fail
  (with_reducible refine (N1 _).mono ?_)
  rintro e y4 ⟨rfl, hg4⟩
  have G0_4 := grow_trans G0_3 hg4
  clear hg4 G0_3
  go_wp2_with fail
  (with_reducible refine (N2 _).mono ?_)
  rintro e y5 ⟨rfl, hg5⟩
  have G0_5 := grow_trans G0_4 hg5
  clear hg5 G0_4
  go_wp2_with fail
  (with_reducible refine (B2 _).mono ?_)
  rintro e y6 ⟨rfl, hg6⟩
  have G0_6 := grow_trans G0_5 hg6
  clear hg6 G0_5
  go_wp2_with fail
  (with_reducible refine (A1 _).mono ?_)
  rintro e y7 ⟨rfl, hg7⟩
  have G0_7 := grow_trans G0_6 hg7
  clear hg7 G0_6
  go_wp2_with fail
  (with_reducible refine (A2 _).mono ?_)
  rintro e y8 ⟨rfl, hg8⟩
  have G0_8 := grow_trans G0_7 hg8
  clear hg8 G0_7
  go_wp2_with fail
  go_ret
  exact ⟨rfl, grow_below G0_8 _ (Nat.le_refl _) (by simp)⟩

end Go.Proofs.Ytpeheefpidggfaa
