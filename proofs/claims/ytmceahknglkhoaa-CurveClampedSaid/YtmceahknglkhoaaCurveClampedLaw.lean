/- The walk of CurveClamped. -/
import Derived.Test.YtmceahknglkhoaaCurveFact
import Derived.Test.YtmceahknglkhoaaKeepLeast
import Derived.Test.YtmceahknglkhoaaSized
namespace Go.Proofs.Ytmceahknglkhoaa
open Go.RowKit
set_option linter.unusedVariables false

set_option maxRecDepth 100000 in
set_option maxHeartbeats 4000000 in
theorem walk_CurveClamped (s0 s1 : ByteArray) (w0 : s0.size ≤ maxLen) (w1 : s1.size ≤ maxLen) (w : World) :
    Calls Try.prog 5 #[.string s0, .string s1] w fun e w' => e = .returned (.bool true) ∧ Below w.heap.size w w' := by
  obtain ⟨k0, rfl, hk0⟩ := listB s0
  obtain ⟨u0, rfl, hu0⟩ := listB s1
  unfold maxLen at w0 w1
  rw [← hk0] at w0
  rw [← hu0] at w1
  have AK : ∀ W : World, Calls Try.prog 6 #[S k0, .int .i64 32] W (Grown (S (sizedL k0 32)) W) := fun W => code_sized W k0 32 (by omega) (by omega)
  have AU : ∀ W : World, Calls Try.prog 6 #[S u0, .int .i64 32] W (Grown (S (sizedL u0 32)) W) := fun W => code_sized W u0 32 (by omega) (by omega)
  have lk := sizedL_length k0 32
  have lu := sizedL_length u0 32
  generalize sizedL k0 32 = k at *
  generalize sizedL u0 32 = u at *
  have C1 := fun W : World => code_clamp W k lk
  have C2 : ∀ W : World, Calls Try.prog 11 #[S (clampL k)] W (Grown (.tuple #[S (clampL k), .int .i64 0]) W) := fun W => by
    have := code_clamp W (clampL k) (by rw [clampL_length, lk])
    rwa [clampL_twice k lk] at this
  have M1 := fun W : World => code_cmult W k u lk lu
  have M2 : ∀ W : World, Calls Try.prog 7 #[S (clampL k), S u] W (Grown (.tuple #[S (multL k u), .int .i64 0]) W) := fun W => by
    have := code_cmult W (clampL k) u (by rw [clampL_length, lk]) lu
    rwa [mult_clamped k u lk] at this
  have l31 : (u.take 31).length = 31 := by rw [List.length_take]; omega
  have hd : u.getD 31 0 = u[31] := by rw [List.getD_eq_getElem?_getD, List.getElem?_eq_getElem (by omega)]; rfl
  have M3 : ∀ W : World, Calls Try.prog 7 #[S k, S (u.take 31 ++ [u[31] ^^^ 128])] W (Grown (.tuple #[S (multL k u), .int .i64 0]) W) := fun W => by
    have := code_cmult W k (lastL u (u.getD 31 0 ^^^ 128)) lk (by unfold lastL; rw [List.length_append, l31]; rfl)
    rw [mult_flipped k u lu, hd] at this
    exact this
  have L1 : ∀ W : World, Calls Try.prog 12 #[S (u.take 31 ++ [u[31] &&& 127])] W (Grown (S (lowM (maskL u))) W) := fun W => by
    have := code_kLeast W (maskL u) (by rw [maskL_length, lu])
    rw [maskL_eq u lu, hd] at this
    rw [maskL_eq u lu, hd]
    exact this
  have M4 : ∀ W : World, Calls Try.prog 7 #[S k, S (lowM (maskL u))] W (Grown (.tuple #[S (multL k u), .int .i64 0]) W) := fun W => by
    have := code_cmult W k (lowM (maskL u)) lk (lowM_length _)
    rwa [show multL k (lowM (maskL u)) = multL k u from mult_least k u] at this
  have CF := fun W : World => code_cfact W
  have hsz : 31 < (ByteArray.mk u.toArray).size := by simp [ByteArray.size]; omega
  have x1 : bits .xor .u8 ((((ByteArray.mk u.toArray)[31]'hsz).toNat : Int)) 128 = ((u[31] ^^^ 128).toNat : Int) := u8_xor u[31] 128 128 rfl
  have x2 : bits .and .u8 ((((ByteArray.mk u.toArray)[31]'hsz).toNat : Int)) 127 = ((u[31] &&& 127).toNat : Int) := u8_and u[31] 127 127 rfl
  have i1 : (31 : Int) < (u.length : Int) := by omega
  have i2 : (31 : Int) ≤ (u.length : Int) := by omega
  have i3 : 31 < u.length := by omega
  generalize u[31] ^^^ 128 = c1 at *
  generalize u[31] &&& 127 = c2 at *
  generalize lowM (maskL u) = Lo at *
  generalize multL k u = V at *
  generalize clampL k = C at *
  have r2 := rule_ext
  have r3 : ∀ (a : List UInt8) (c : UInt8), ByteArray.mk a.toArray ++ ByteArray.mk #[c] = ⟨(a ++ [c]).toArray⟩ := fun a c => rule_app a [c]
  clear hd lk w0 w1 hk0 hu0
  unfold S at *
  go_enter Try.func5, Try.ntmps5
  go_wp2_with fail
  (with_reducible refine (AK _).mono ?_)
  rintro e y1 ⟨rfl, g1⟩
  go_wp2_with fail
  (with_reducible refine (AU _).mono ?_)
  rintro e y2 ⟨rfl, g2⟩
  replace g2 := grow_trans g1 g2
  go_wp2_with fail
  (with_reducible refine (C1 _).mono ?_)
  rintro e y3 ⟨rfl, g3⟩
  replace g3 := grow_trans g2 g3
  go_wp2_with fail
  (with_reducible refine (C2 _).mono ?_)
  rintro e y4 ⟨rfl, g4⟩
  replace g4 := grow_trans g3 g4
  go_wp2_with fail
  (with_reducible refine (M1 _).mono ?_)
  rintro e y5 ⟨rfl, g5⟩
  replace g5 := grow_trans g4 g5
  go_wp2_with fail
  (with_reducible refine (M2 _).mono ?_)
  rintro e y6 ⟨rfl, g6⟩
  replace g6 := grow_trans g5 g6
  go_wp2_with fail
  (with_reducible refine (CF _).mono ?_)
  rintro e y7 ⟨rfl, g7⟩
  have HG := Lib.hid (grow_trans g6 g7)
  have cv1 := conv_one y7 c1
  clear g1 g2 g3 g4 g5 g6 g7 AK AU C1 C2 M1 M2 CF
  go_wp2_with fail
  go_region_with (first
    | (go_at_call 7; (with_reducible refine (M3 _).mono ?_); rintro e z1 ⟨rfl, h1⟩))
  all_goals
    have HG2 := Lib.hid (grow_trans HG.out (grow_trans (grow_drew (World.grownBy_alloc _ _ _)) h1))
    have cv2 := conv_one z1 c2
    clear h1 cv1
    go_wp2_with fail
    go_region_with (first
      | (go_at_call 12; (with_reducible refine (L1 _).mono ?_); rintro e z2 ⟨rfl, h2⟩)
      | (go_at_call 7; (with_reducible refine (M4 _).mono ?_); rintro e z3 ⟨rfl, h3⟩))
  all_goals
    have HG3 := Lib.hid (grow_trans (grow_trans HG2.out (grow_trans (grow_drew (World.grownBy_alloc _ _ _)) h2)) h3)
    clear h2 h3 cv2
    go_wp2_with fail
    go_ret
    exact ⟨rfl, grow_below HG3.out _ (Nat.le_refl _) (by simp)⟩

end Go.Proofs.Ytmceahknglkhoaa
