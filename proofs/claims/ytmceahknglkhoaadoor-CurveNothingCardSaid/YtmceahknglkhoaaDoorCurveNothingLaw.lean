/- The walk of CurveNothing. -/
import Derived.Test.YtmceahknglkhoaaDoorCurveShare
import Derived.Test.YtmceahknglkhoaaDoorCurveFact
import Derived.Test.YtmceahknglkhoaaDoorRestNat
namespace Go.Proofs.YtmceahknglkhoaaDoor
open Go.RowKit
set_option linter.unusedVariables false

def hexL2 : List UInt8 := [101, 99, 102, 102, 102, 102, 102, 102, 102, 102, 102, 102, 102, 102, 102, 102, 102, 102, 102, 102, 102, 102, 102, 102, 102, 102, 102, 102, 102, 102, 102, 102, 102, 102, 102, 102, 102, 102, 102, 102, 102, 102, 102, 102, 102, 102, 102, 102, 102, 102, 102, 102, 102, 102, 102, 102, 102, 102, 102, 102, 102, 102, 55, 102]
def hexL3 : List UInt8 := [101, 48, 101, 98, 55, 97, 55, 99, 51, 98, 52, 49, 98, 56, 97, 101, 49, 54, 53, 54, 101, 51, 102, 97, 102, 49, 57, 102, 99, 52, 54, 97, 100, 97, 48, 57, 56, 100, 101, 98, 57, 99, 51, 50, 98, 49, 102, 100, 56, 54, 54, 50, 48, 53, 49, 54, 53, 102, 52, 57, 98, 56, 48, 48]
def hexL4 : List UInt8 := [53, 102, 57, 99, 57, 53, 98, 99, 97, 51, 53, 48, 56, 99, 50, 52, 98, 49, 100, 48, 98, 49, 53, 53, 57, 99, 56, 51, 101, 102, 53, 98, 48, 52, 52, 52, 53, 99, 99, 52, 53, 56, 49, 99, 56, 101, 56, 54, 100, 56, 50, 50, 52, 101, 100, 100, 100, 48, 57, 102, 49, 49, 53, 55]
theorem hexL_ok : (okR hexL2 = true ∧ unhexR hexL2 = lowU2) ∧ (okR hexL3 = true ∧ unhexR hexL3 = lowU3) ∧ (okR hexL4 = true ∧ unhexR hexL4 = lowU4) := by decide +kernel
theorem zeros_low0 : zerosL 32 = lowU0 := by decide
theorem sized_low1 : sizedL [1] 32 = lowU1 := by decide

set_option maxRecDepth 100000 in
set_option maxHeartbeats 4000000 in
theorem walk_CurveNothing (s0 : ByteArray) (n1 : Int) (w0 : s0.size ≤ maxLen) (h1 : (Lit.int .i64 n1).wf = true) (w : World) :
    Calls Tryd.prog 3 #[.string s0, .int .i64 n1] w fun e w' => e = .returned (.bool true) ∧ Below w.heap.size w w' := by
  obtain ⟨k0, rfl, hk0⟩ := listB s0
  unfold maxLen at w0
  rw [← hk0] at w0
  have AK : ∀ W : World, Calls Tryd.prog 5 #[S k0, .int .i64 32] W (Grown (S (sizedL k0 32)) W) := fun W => code_sized W k0 32 (by omega) (by omega)
  have lk := sizedL_length k0 32
  generalize sizedL k0 32 = k at *
  have L0 : ∀ W : World, Calls Tryd.prog 6 #[.int .i64 32] W (Grown (S lowU0) W) := fun W => by
    have := code_zeros W 32 (by omega)
    rwa [zeros_low0] at this
  have L1 : ∀ W : World, Calls Tryd.prog 5 #[.string ⟨#[1]⟩, .int .i64 32] W (Grown (S lowU1) W) := fun W => by
    have := code_sized W [1] 32 (by decide) (by omega)
    rwa [sized_low1] at this
  have L2 : ∀ W : World, Calls Tryd.prog 7 #[S hexL2] W (Grown (S lowU2) W) := fun W => code_bytes W hexL2 _ (by decide) hexL_ok.1.1 hexL_ok.1.2
  have L3 : ∀ W : World, Calls Tryd.prog 7 #[S hexL3] W (Grown (S lowU3) W) := fun W => code_bytes W hexL3 _ (by decide) hexL_ok.2.1.1 hexL_ok.2.1.2
  have L4 : ∀ W : World, Calls Tryd.prog 7 #[S hexL4] W (Grown (S lowU4) W) := fun W => code_bytes W hexL4 _ (by decide) hexL_ok.2.2.1 hexL_ok.2.2.2
  have S0 := fun W : World => code_cshare0 W k lowU0 lk (by decide) (low_mult0 k lk)
  have S1 := fun W : World => code_cshare0 W k lowU1 lk (by decide) (low_mult1 k lk)
  have S2 := fun W : World => code_cshare0 W k lowU2 lk (by decide) (low_mult2 k lk)
  have S3 := fun W : World => code_cshare0 W k lowU3 lk (by decide) (low_mult3 k lk)
  have S4 := fun W : World => code_cshare0 W k lowU4 lk (by decide) (low_mult4 k lk)
  obtain ⟨hn0, hn1⟩ := wf_i64_of h1
  obtain ⟨r, hr, AR⟩ := rest_nat n1 5 5 rfl hn0 hn1 (by decide) (by decide)
  have CF := fun W : World => code_cfact W
  clear w0 hk0 lk hn0 hn1 h1
  generalize lowU0 = U0 at *
  generalize lowU1 = U1 at *
  generalize lowU2 = U2 at *
  generalize lowU3 = U3 at *
  generalize lowU4 = U4 at *
  unfold S at *
  unfold hexL2 at L2
  unfold hexL3 at L3
  unfold hexL4 at L4
  have R : r = 0 ∨ r = 1 ∨ r = 2 ∨ r = 3 ∨ r = 4 := by omega
  go_enter Tryd.func3, Tryd.ntmps3
  go_wp2_with fail
  (with_reducible refine (AK _).mono ?_)
  rintro e y1 ⟨rfl, g1⟩
  go_wp2_with fail
  (with_reducible refine (L0 _).mono ?_)
  rintro e y2 ⟨rfl, g2⟩
  replace g2 := grow_trans g1 g2
  go_wp2_with fail
  (with_reducible refine (L1 _).mono ?_)
  rintro e y3 ⟨rfl, g3⟩
  replace g3 := grow_trans g2 g3
  go_wp2_with fail
  (with_reducible refine (L2 _).mono ?_)
  rintro e y4 ⟨rfl, g4⟩
  replace g4 := grow_trans g3 g4
  go_wp2_with fail
  (with_reducible refine (L3 _).mono ?_)
  rintro e y5 ⟨rfl, g5⟩
  replace g5 := grow_trans g4 g5
  go_wp2_with fail
  (with_reducible refine (L4 _).mono ?_)
  rintro e y6 ⟨rfl, g6⟩
  have HG := Lib.hid (grow_trans g5 g6)
  clear g1 g2 g3 g4 g5 g6 AK L0 L1 L2 L3 L4
  rcases R with rfl | rfl | rfl | rfl | rfl
  all_goals
    go_wp2_with fail
    (with_reducible refine (AR _).mono ?_)
    rintro e z1 ⟨rfl, rfl⟩
    go_wp2_with fail
    (first | (with_reducible refine (S0 _).mono ?_) | (with_reducible refine (S1 _).mono ?_) | (with_reducible refine (S2 _).mono ?_) | (with_reducible refine (S3 _).mono ?_) | (with_reducible refine (S4 _).mono ?_))
    rintro e z2 ⟨rfl, h2⟩
    have HG2 := Lib.hid (grow_trans (grow_trans HG.out (grow_alloc (grow_refl _ _) _)) h2)
    clear h2
    go_wp2_with fail
    (with_reducible refine (CF _).mono ?_)
    rintro e z3 ⟨rfl, h3⟩
    have HG3 := Lib.hid (grow_trans HG2.out h3)
    clear h3
    go_wp2_with fail
    go_ret
    exact ⟨rfl, grow_below HG3.out _ (Nat.le_refl _) (by simp)⟩

end Go.Proofs.YtmceahknglkhoaaDoor
