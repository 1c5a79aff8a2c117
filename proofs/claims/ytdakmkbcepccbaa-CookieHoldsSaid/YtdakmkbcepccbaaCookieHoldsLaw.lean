/- The walk of CookieHolds. -/
import Derived.Test.YtdakmkbcepccbaaCookie
import Derived.Test.YtdakmkbcepccbaaSized
import Derived.Test.YtdakmkbcepccbaaRest
namespace Go.Proofs.Ytdakmkbcepccbaa
open Go.RowKit
set_option linter.unusedVariables false

theorem listB (s : ByteArray) : ∃ l : List UInt8, s = ⟨l.toArray⟩ ∧ l.length = s.size := ⟨s.data.toList, rfl, by rw [Array.length_toList]; rfl⟩

theorem rest_nat (n : Int) (m : Nat) (M : Int) (hM : M = (m : Int)) (hn0 : -9223372036854775808 ≤ n) (hn1 : n ≤ 9223372036854775807) (hm : 0 < m) (hm1 : m ≤ 9223372036854775807) :
    ∃ r : Nat, r < m ∧ ∀ W : World, Calls Try.prog 13 #[.int .i64 n, .int .i64 M] W fun e w' => e = .returned (.int .i64 (r : Int)) ∧ W = w' := by
  subst hM
  refine ⟨(n % m).toNat, ?_, fun W => ?_⟩
  · have := Int.emod_lt_of_pos n (show (0 : Int) < m by omega)
    have := Int.emod_nonneg n (show (m : Int) ≠ 0 by omega)
    omega
  · have h := rest_any n m W hn0 hn1 (by omega) (by omega)
    have := Int.emod_nonneg n (show (m : Int) ≠ 0 by omega)
    rw [show (((n % (m : Int)).toNat : Nat) : Int) = n % (m : Int) from by omega]
    exact h

set_option maxHeartbeats 2000000 in
theorem walk_CookieHolds (s0 : ByteArray) (x1 x2 x3 x4 : Int) (w0 : s0.size ≤ maxLen) (w1 : (Lit.int .u32 x1).wf = true) (w2 : (Lit.int .i64 x2).wf = true) (w3 : (Lit.int .i64 x3).wf = true) (w4 : (Lit.int .i64 x4).wf = true) (w : World) :
    Calls Try.prog 5 #[.string s0, .int .u32 x1, .int .i64 x2, .int .i64 x3, .int .i64 x4] w fun e w' => e = .returned (.bool true) ∧ Below w.heap.size w w' := by
  obtain ⟨key, rfl, hk⟩ := listB s0
  rw [← hk] at w0
  simp only [Lit.wf, Bool.and_eq_true, decide_eq_true_eq] at w1 w2 w3 w4
  have w1' : 0 ≤ x1 ∧ x1 ≤ 4294967295 := w1
  have w2' : -9223372036854775808 ≤ x2 ∧ x2 ≤ 9223372036854775807 := w2
  have w3' : -9223372036854775808 ≤ x3 ∧ x3 ≤ 9223372036854775807 := w3
  have w4' : -9223372036854775808 ≤ x4 ∧ x4 ≤ 9223372036854775807 := w4
  obtain ⟨f, rfl⟩ : ∃ f : Nat, x1 = (f : Int) := ⟨x1.toNat, by omega⟩
  obtain ⟨n, hn, R2⟩ := rest_nat x2 1073741824 1073741824 rfl w2'.1 w2'.2 (by omega) (by omega)
  obtain ⟨a, ha, R3⟩ := rest_nat x3 120 120 rfl w3'.1 w3'.2 (by omega) (by omega)
  obtain ⟨b, hb, R4⟩ := rest_nat x4 120 120 rfl w4'.1 w4'.2 (by omega) (by omega)
  have AS : ∀ W : World, Hid (w.grownBy W none) → Calls Try.prog 17 #[S key, .int .i64 32] W (GrownH w (S (sizedL key 32))) := lift w (fun W => code_sized W key 32 (by unfold maxLen at w0; omega) (by omega))
  have lS : (sizedL key 32).length = 32 := sizedL_length _ _
  generalize sizedL key 32 = sec at *
  have AM := lift w (fun W => code_cmake W sec f (120 * n + a) lS (by omega) (by omega))
  have AN := lift w (fun W => code_cmake W sec f (120 * n + b) lS (by omega) (by omega))
  have AB := fun W : World => code_cmake_bad W sec f lS
  have eT : ckText f (120 * n + b) = ckText f (120 * n + a) := by
    unfold ckText
    rw [show (120 * n + b) / 120 = n from by omega, show (120 * n + a) / 120 = n from by omega]
  rw [eT] at AN
  have lV : (blL sec (ckText f (120 * n + a)) 16).length = 16 := blL_length _ _ _ (by omega)
  generalize blL sec (ckText f (120 * n + a)) 16 = V at *
  rw [show (((120 * n + a : Nat)) : Int) = 120 * (n : Int) + (a : Int) from by omega] at AM
  rw [show (((120 * n + b : Nat)) : Int) = 120 * (n : Int) + (b : Int) from by omega] at AN
  have hg : Hid (w.grownBy w none) := Lib.hid (grow_refl _ _)
  clear eT w1 w2 w3 w4 w2' w3' w4' hk w0 lS
  have z1 : ((V.length : Int) == 16) = true := by rw [lV]; rfl
  unfold S at *
  go_enter Try.func5, Try.ntmps5
  go_wp2_with (first
    | (go_at_call 17; (with_reducible refine (AS _ hg).mono ?_); clear hg; rintro e x ⟨rfl, hg⟩)
    | (go_at_call 13; (with_reducible refine (R2 _).mono ?_); clear R2; rintro e x ⟨rfl, rfl⟩)
    | (go_at_call 13; (with_reducible refine (R3 _).mono ?_); clear R3; rintro e x ⟨rfl, rfl⟩)
    | (go_at_call 13; (with_reducible refine (R4 _).mono ?_); clear R4; rintro e x ⟨rfl, rfl⟩)
    | (go_at_call 18; (with_reducible refine (AM _ hg).mono ?_); clear AM hg; rintro e x ⟨rfl, hg⟩)
    | (go_at_call 18; (with_reducible refine (AN _ hg).mono ?_); clear AN hg; rintro e x ⟨rfl, hg⟩)
    | (go_at_call 18; (with_reducible refine (AB _).mono ?_); clear AB; rintro e x ⟨rfl, rfl⟩)
    | fail)
  go_ret
  exact ⟨rfl, grow_below hg.out _ (Nat.le_refl _) (by simp)⟩

end Go.Proofs.Ytdakmkbcepccbaa
