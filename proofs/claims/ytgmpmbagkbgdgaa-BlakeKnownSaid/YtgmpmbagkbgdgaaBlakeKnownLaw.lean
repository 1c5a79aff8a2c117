/- The walk of BlakeKnown. -/
import Derived.Test.YtgmpmbagkbgdgaaKdfKnownLaw
namespace Go.Proofs.Ytgmpmbagkbgdgaa
open Go.RowKit
set_option linter.unusedVariables false

def blH1 : List UInt8 := [53, 48, 56, 99, 53, 101, 56, 99, 51, 50, 55, 99, 49, 52, 101, 50, 101, 49, 97, 55, 50, 98, 97, 51, 52, 101, 101, 98, 52, 53, 50, 102, 51, 55, 52, 53, 56, 98, 50, 48, 57, 101, 100, 54, 51, 97, 50, 57, 52, 100, 57, 57, 57, 98, 52, 99, 56, 54, 54, 55, 53, 57, 56, 50]
def blH2 : List UInt8 := [54, 57, 50, 49, 55, 97, 51, 48, 55, 57, 57, 48, 56, 48, 57, 52, 101, 49, 49, 49, 50, 49, 100, 48, 52, 50, 51, 53, 52, 97, 55, 99, 49, 102, 53, 53, 98, 54, 52, 56, 50, 99, 97, 49, 97, 53, 49, 101, 49, 98, 50, 53, 48, 100, 102, 100, 49, 101, 100, 48, 101, 101, 102, 57]
def blV1 : List UInt8 := blL [] [97, 98, 99] 32
def blV2 : List UInt8 := blL [] [] 32
theorem blh_vec1 : okR blH1 = true ∧ unhexR blH1 = blV1 := by decide +kernel
theorem blh_vec2 : okR blH2 = true ∧ unhexR blH2 = blV2 := by decide +kernel

set_option maxHeartbeats 1000000 in
theorem code_blbad (w : World) (key s : List UInt8) (many : Int) (m1 : -9223372036854775808 ≤ many) (m2 : many ≤ 9223372036854775807) (h : many < 1 ∨ 32 < many ∨ 32 < key.length) (hk : key.length ≤ 9223372036854775807) :
    Calls Try.prog 15 #[S key, S s, .int .i64 many] w fun e w' => e = .returned (.tuple #[.string ⟨#[]⟩, .int .i64 1]) ∧ w = w' := by
  unfold S
  by_cases h1 : many < 1
  · go_enter Try.func15, Try.ntmps15
    go_wp2_with fail
    go_ret2
    exact ⟨rfl, rfl⟩
  · by_cases h2 : 32 < many
    · go_enter Try.func15, Try.ntmps15
      go_wp2_with fail
      go_ret2
      exact ⟨rfl, rfl⟩
    · have h3 : (32 : Int) < (key.length : Int) := by omega
      go_enter Try.func15, Try.ntmps15
      go_wp2_with fail
      go_ret2
      exact ⟨rfl, rfl⟩

set_option maxHeartbeats 2000000 in
theorem walk_BlakeKnown (s0 s1 : ByteArray) (x2 : Int) (w0 : s0.size ≤ maxLen) (w1 : s1.size ≤ maxLen) (w2 : (Lit.int .i64 x2).wf = true) (w : World)
    (z0 : s0.size ≤ 140737488351232) (z1 : s1.size ≤ 140737488351232) :
    Calls Try.prog 5 #[.string s0, .string s1, .int .i64 x2] w fun e w' => e = .returned (.bool true) ∧ Below w.heap.size w w' := by
  obtain ⟨key, rfl, hk⟩ := listB s0
  obtain ⟨s, rfl, hs⟩ := listB s1
  rw [← hk] at z0
  rw [← hs] at z1
  clear w0 w1 hk hs
  simp only [Lit.wf, Bool.and_eq_true, decide_eq_true_eq] at w2
  have w2' : -9223372036854775808 ≤ x2 ∧ x2 ≤ 9223372036854775807 := w2
  clear w2
  have A1 : ∀ W : World, Hid (w.grownBy W none) → Calls Try.prog 15 #[S [], S [97, 98, 99], .int .i64 32] W (GrownH w (.tuple #[S blV1, .int .i64 0])) := lift w (fun W => code_blsum W [] [97, 98, 99] 32 (by simp) (by omega) (by omega) (by simp))
  have A2 : ∀ W : World, Hid (w.grownBy W none) → Calls Try.prog 15 #[S [], S [], .int .i64 32] W (GrownH w (.tuple #[S blV2, .int .i64 0])) := lift w (fun W => code_blsum W [] [] 32 (by simp) (by omega) (by omega) (by simp))
  have B1 := lift w (fun W => code_bytes W blH1 blV1 (by decide) blh_vec1.1 blh_vec1.2)
  have B2 := lift w (fun W => code_bytes W blH2 blV2 (by decide) blh_vec2.1 blh_vec2.2)
  generalize blV1 = v1 at *
  generalize blV2 = v2 at *
  have hg : Hid (w.grownBy w none) := Lib.hid (grow_refl _ _)
  by_cases hbad : x2 < 1 ∨ 32 < x2 ∨ 32 < key.length
  · have A3 := fun W : World => code_blbad W key s x2 w2'.1 w2'.2 hbad (by omega)
    unfold GrownH S at *
    unfold blH1 at B1
    unfold blH2 at B2
    by_cases h1 : x2 < 1
    · clear hbad
      go_enter Try.func5, Try.ntmps5
      go_wp2_with (first
        | (go_at_call 15; (with_reducible refine (A1 _ hg).mono ?_); clear hg; rintro e x ⟨rfl, hg⟩)
        | (go_at_call 15; (with_reducible refine (A2 _ hg).mono ?_); clear hg; rintro e x ⟨rfl, hg⟩)
        | (go_at_call 15; (with_reducible refine (A3 _).mono ?_); rintro e x ⟨rfl, rfl⟩)
        | (go_at_call 10; (with_reducible refine (B1 _ hg).mono ?_); clear hg; rintro e x ⟨rfl, hg⟩)
        | (go_at_call 10; (with_reducible refine (B2 _ hg).mono ?_); clear hg; rintro e x ⟨rfl, hg⟩)
        | fail)
      go_ret
      exact ⟨rfl, grow_below hg.out _ (Nat.le_refl _) (by simp)⟩
    · by_cases h2 : 32 < x2
      · clear hbad
        go_enter Try.func5, Try.ntmps5
        go_wp2_with (first
          | (go_at_call 15; (with_reducible refine (A1 _ hg).mono ?_); clear hg; rintro e x ⟨rfl, hg⟩)
          | (go_at_call 15; (with_reducible refine (A2 _ hg).mono ?_); clear hg; rintro e x ⟨rfl, hg⟩)
          | (go_at_call 15; (with_reducible refine (A3 _).mono ?_); rintro e x ⟨rfl, rfl⟩)
          | (go_at_call 10; (with_reducible refine (B1 _ hg).mono ?_); clear hg; rintro e x ⟨rfl, hg⟩)
          | (go_at_call 10; (with_reducible refine (B2 _ hg).mono ?_); clear hg; rintro e x ⟨rfl, hg⟩)
          | fail)
        go_ret
        exact ⟨rfl, grow_below hg.out _ (Nat.le_refl _) (by simp)⟩
      · have h3 : (32 : Int) < (key.length : Int) := by omega
        clear hbad
        go_enter Try.func5, Try.ntmps5
        go_wp2_with (first
          | (go_at_call 15; (with_reducible refine (A1 _ hg).mono ?_); clear hg; rintro e x ⟨rfl, hg⟩)
          | (go_at_call 15; (with_reducible refine (A2 _ hg).mono ?_); clear hg; rintro e x ⟨rfl, hg⟩)
          | (go_at_call 15; (with_reducible refine (A3 _).mono ?_); rintro e x ⟨rfl, rfl⟩)
          | (go_at_call 10; (with_reducible refine (B1 _ hg).mono ?_); clear hg; rintro e x ⟨rfl, hg⟩)
          | (go_at_call 10; (with_reducible refine (B2 _ hg).mono ?_); clear hg; rintro e x ⟨rfl, hg⟩)
          | fail)
        go_ret
        exact ⟨rfl, grow_below hg.out _ (Nat.le_refl _) (by simp)⟩
  · obtain ⟨n, hn⟩ : ∃ n : Nat, x2 = (n : Int) := ⟨x2.toNat, by omega⟩
    subst hn
    have n1 : 1 ≤ n := by omega
    have n2 : n ≤ 32 := by omega
    have k3 : ¬ ((32 : Int) < (key.length : Int)) := by omega
    have A3 := lift w (fun W => code_blsum W key s n (by omega) n1 n2 (by omega))
    have lV := blL_length key s n n2
    generalize blL key s n = V at *
    unfold GrownH S at *
    unfold blH1 at B1
    unfold blH2 at B2
    have i1 : ¬ ((n : Int) < 1) := by omega
    have i2 : ¬ ((32 : Int) < (n : Int)) := by omega
    clear hbad w2'
    go_enter Try.func5, Try.ntmps5
    go_wp2_with (first
      | (go_at_call 15; (with_reducible refine (A1 _ hg).mono ?_); clear hg; rintro e x ⟨rfl, hg⟩)
      | (go_at_call 15; (with_reducible refine (A2 _ hg).mono ?_); clear hg; rintro e x ⟨rfl, hg⟩)
      | (go_at_call 15; (with_reducible refine (A3 _ hg).mono ?_); clear hg; rintro e x ⟨rfl, hg⟩)
      | (go_at_call 10; (with_reducible refine (B1 _ hg).mono ?_); clear hg; rintro e x ⟨rfl, hg⟩)
      | (go_at_call 10; (with_reducible refine (B2 _ hg).mono ?_); clear hg; rintro e x ⟨rfl, hg⟩)
      | fail)
    go_ret
    exact ⟨rfl, grow_below hg.out _ (Nat.le_refl _) (by simp)⟩

end Go.Proofs.Ytgmpmbagkbgdgaa
