/-
  Several texts of this claim in one: TwicePlain, CurveTwiceLaw.
-/
import Derived.Test.YtmceahknglkhoaaLadTwice
import Derived.Test.YtmceahknglkhoaaCurveFact
import Derived.Test.YtmceahknglkhoaaSized
namespace Go.Proofs.Ytmceahknglkhoaa
set_option linter.unusedVariables false

theorem lad_mone (k x : Nat) (hk : k % 8 = 0) (h : (x + 1) % PP = 0) : ladN k x % PP = 0 := by
  have hx : x % PP = 57896044618658097711785492504343953926634992332820282019728792003956564819948 % PP := by
    rw [PP_eq] at h ⊢
    omega
  rw [ladN_lik k hx, ends_nought lowT2_ok.1 lowT2_ok.2 rfl ⟨rfl, rfl, rfl, rfl, rfl⟩ k hk, Nat.zero_mod]
theorem lad_twice' (ka kb x : Nat) (ha : ka < 2 ^ 255) (hb : kb < 2 ^ 255) (ha8 : ka % 8 = 0) (hb8 : kb % 8 = 0) : ladN ka (ladN kb x) % PP = ladN kb (ladN ka x) % PP := by
  by_cases h1 : (x + 1) % PP = 0
  · rw [lad_zero ka _ ha8 (lad_mone kb x hb8 h1), lad_zero kb _ hb8 (lad_mone ka x ha8 h1)]
  · exact lad_twice ka kb x ha hb ha8 hb8 h1
theorem mult_in (k : List UInt8) (n : Nat) : multL k (leB (n % PP) 32) = leB (ladN (leN (clampL k)) n % PP) 32 := by
  have key := ladN_lik (leN (clampL k)) (red_least n)
  unfold multL
  rw [key]
theorem mult_twice (a b u : List UInt8) (ha : a.length = 32) (hb : b.length = 32) (hca : leN (clampL a) < 2 ^ 255) (hcb : leN (clampL b) < 2 ^ 255) : multL b (multL a u) = multL a (multL b u) := by
  have e1 : multL a u = leB (ladN (leN (clampL a)) (leN (maskL u)) % PP) 32 := rfl
  have e2 : multL b u = leB (ladN (leN (clampL b)) (leN (maskL u)) % PP) 32 := rfl
  rw [e1, e2, mult_in, mult_in, lad_twice' _ _ _ hcb hca (clamp_eight b hb) (clamp_eight a ha)]
end Go.Proofs.Ytmceahknglkhoaa

namespace Go.Proofs.Ytmceahknglkhoaa
open Go.RowKit
set_option linter.unusedVariables false

theorem top_lt (c : UInt8) : (c &&& 127 ||| 64).toNat < 128 := by
  have : ∀ n : Fin 256, (UInt8.ofNat n.val &&& 127 ||| 64).toNat < 128 := by decide +kernel
  have h := this ⟨c.toNat, c.toNat_lt⟩
  simpa using h
theorem clamp_lt (k : List UInt8) (hk : k.length = 32) : leN (clampL k) < 2 ^ 255 := by
  have hl : (clampL k).length = 32 := by rw [clampL_length, hk]
  have h31 : (clampL k)[31]'(by omega) = (k.getD 31 0 &&& 127 ||| 64) := by
    unfold clampL
    rw [List.getElem_set_self]
  have e : clampL k = (clampL k).take 31 ++ [k.getD 31 0 &&& 127 ||| 64] := by
    rw [← h31, ← List.take_succ_eq_append_getElem (by omega), List.take_of_length_le (by omega)]
  have l31 : ((clampL k).take 31).length = 31 := by rw [List.length_take]; omega
  have h1 := leN_lt ((clampL k).take 31)
  have h2 := top_lt (k.getD 31 0)
  rw [e, leN_snoc]
  rw [l31] at h1 ⊢
  have p : (2 : Nat) ^ 255 = 128 * 256 ^ 31 := by decide +kernel
  rw [p]
  generalize (256 : Nat) ^ 31 = q at *
  generalize (k.getD 31 0 &&& 127 ||| 64).toNat = c at *
  have := Nat.mul_le_mul_right q (show c ≤ 127 by omega)
  omega

set_option maxRecDepth 100000 in
set_option maxHeartbeats 4000000 in
theorem walk_CurveTwice (s0 s1 s2 : ByteArray) (w0 : s0.size ≤ maxLen) (w1 : s1.size ≤ maxLen) (w2 : s2.size ≤ maxLen) (w : World) :
    Calls Try.prog 3 #[.string s0, .string s1, .string s2] w fun e w' => e = .returned (.bool true) ∧ Below w.heap.size w w' := by
  obtain ⟨a0, rfl, ha0⟩ := listB s0
  obtain ⟨b0, rfl, hb0⟩ := listB s1
  obtain ⟨u0, rfl, hu0⟩ := listB s2
  unfold maxLen at w0 w1 w2
  rw [← ha0] at w0
  rw [← hb0] at w1
  rw [← hu0] at w2
  have AA : ∀ W : World, Calls Try.prog 6 #[S a0, .int .i64 32] W (Grown (S (sizedL a0 32)) W) := fun W => code_sized W a0 32 (by omega) (by omega)
  have AB : ∀ W : World, Calls Try.prog 6 #[S b0, .int .i64 32] W (Grown (S (sizedL b0 32)) W) := fun W => code_sized W b0 32 (by omega) (by omega)
  have AU : ∀ W : World, Calls Try.prog 6 #[S u0, .int .i64 32] W (Grown (S (sizedL u0 32)) W) := fun W => code_sized W u0 32 (by omega) (by omega)
  have la := sizedL_length a0 32
  have lb := sizedL_length b0 32
  have lu := sizedL_length u0 32
  generalize sizedL a0 32 = a at *
  generalize sizedL b0 32 = b at *
  generalize sizedL u0 32 = u at *
  have M1 := fun W : World => code_cmult W a u la lu
  have M2 := fun W : World => code_cmult W b u lb lu
  have M3 := fun W : World => code_cmult W b (multL a u) lb (multL_length _ _)
  have M4 : ∀ W : World, Calls Try.prog 7 #[S a, S (multL b u)] W (Grown (.tuple #[S (multL b (multL a u)), .int .i64 0]) W) := fun W => by
    have := code_cmult W a (multL b u) la (multL_length _ _)
    rwa [← mult_twice a b u la lb (clamp_lt a la) (clamp_lt b lb)] at this
  have CF := fun W : World => code_cfact W
  clear w0 w1 w2 ha0 hb0 hu0 la lb lu
  generalize multL b (multL a u) = V at *
  generalize multL a u = X at *
  generalize multL b u = Y at *
  unfold S at *
  go_enter Try.func3, Try.ntmps3
  go_wp2_with fail
  (with_reducible refine (AA _).mono ?_)
  rintro e y1 ⟨rfl, g1⟩
  go_wp2_with fail
  (with_reducible refine (AB _).mono ?_)
  rintro e y2 ⟨rfl, g2⟩
  replace g2 := grow_trans g1 g2
  go_wp2_with fail
  (with_reducible refine (AU _).mono ?_)
  rintro e y3 ⟨rfl, g3⟩
  replace g3 := grow_trans g2 g3
  go_wp2_with fail
  (with_reducible refine (M1 _).mono ?_)
  rintro e y4 ⟨rfl, g4⟩
  replace g4 := grow_trans g3 g4
  go_wp2_with fail
  (with_reducible refine (M2 _).mono ?_)
  rintro e y5 ⟨rfl, g5⟩
  replace g5 := grow_trans g4 g5
  go_wp2_with fail
  (with_reducible refine (M3 _).mono ?_)
  rintro e y6 ⟨rfl, g6⟩
  replace g6 := grow_trans g5 g6
  go_wp2_with fail
  (with_reducible refine (M4 _).mono ?_)
  rintro e y7 ⟨rfl, g7⟩
  replace g7 := grow_trans g6 g7
  go_wp2_with fail
  (with_reducible refine (CF _).mono ?_)
  rintro e y8 ⟨rfl, g8⟩
  have HG := Lib.hid (grow_trans g7 g8)
  clear g1 g2 g3 g4 g5 g6 g7 g8 AA AB AU M1 M2 M3 M4 CF
  go_wp2_with fail
  go_ret
  exact ⟨rfl, grow_below HG.out _ (Nat.le_refl _) (by simp)⟩

end Go.Proofs.Ytmceahknglkhoaa
