/- The walks of GcmBack, GcmShort. -/
import Derived.Test.YtpeheefpidggfaaGcmOpen
import Derived.Test.YtpeheefpidggfaaKeepBytes
import Derived.Test.YtpeheefpidggfaaOpen
namespace Go.Proofs.Ytpeheefpidggfaa
open Go.RowKit
set_option linter.unusedVariables false

set_option maxHeartbeats 1000000 in
theorem walk_GcmBack (s0 s1 s2 s3 s4 : ByteArray) (w0 : s0.size ≤ maxLen) (w1 : s1.size ≤ maxLen) (w2 : s2.size ≤ maxLen) (w3 : s3.size ≤ maxLen) (w4 : s4.size ≤ maxLen) (w : World) :
    Calls Try.prog 11 #[.string s0, .string s1, .string s2, .string s3, .string s4] w fun e w' => e = .returned (.bool true) ∧ Below w.heap.size w w' := by
  obtain ⟨k, rfl, hk⟩ := listB s0
  obtain ⟨o, rfl, ho⟩ := listB s1
  obtain ⟨m, rfl, hm⟩ := listB s2
  obtain ⟨t, rfl, ht⟩ := listB s3
  obtain ⟨u, rfl, hu⟩ := listB s4
  unfold maxLen at w0 w1 w2 w3 w4
  rw [← hk] at w0
  rw [← ho] at w1
  rw [← hu] at w4
  clear hk ho hm ht hu w2 w3
  have A1 : ∀ W : World, Calls Try.prog 17 #[.string ⟨k.toArray⟩, .int .i64 32] W (Grown (S (sizedL k 32)) W) := fun W => code_sized W k 32 w0 (by omega)
  have A2 : ∀ W : World, Calls Try.prog 17 #[.string ⟨o.toArray⟩, .int .i64 12] W (Grown (S (sizedL o 12)) W) := fun W => code_sized W o 12 w1 (by omega)
  have kl := sizedL_length k 32
  have ol := sizedL_length o 12
  generalize sizedL k 32 = K at *
  generalize sizedL o 12 = O at *
  have B := fun W : World => gcm_boxed W K O m t u kl ol w4
  clear kl ol w0 w1 w4
  unfold S at *
  go_enter Try.func11, Try.ntmps11
  go_wp2_with (first
    | (go_at_call 17; (with_reducible refine (A1 _).mono ?_); rintro e x1 ⟨rfl, hg1⟩)
    | (go_at_call 17; (with_reducible refine (A2 _).mono ?_); rintro e x2 ⟨rfl, hg2⟩)
    | fail)
  refine (B _).mono ?_
  rintro e x3 ⟨rfl, hg3⟩
  go_wp2_with fail
  go_ret
  exact ⟨rfl, grow_below (grow_trans (grow_trans hg1 hg2) hg3) _ (Nat.le_refl _) (by simp)⟩

set_option maxHeartbeats 4000000 in
theorem walk_GcmShort (s0 s1 s2 s3 : ByteArray) (w0 : s0.size ≤ maxLen) (w1 : s1.size ≤ maxLen) (w2 : s2.size ≤ maxLen) (w3 : s3.size ≤ maxLen) (w : World) :
    Calls Try.prog 10 #[.string s0, .string s1, .string s2, .string s3] w fun e w' => e = .returned (.bool true) ∧ Below w.heap.size w w' := by
  obtain ⟨k, rfl, hk⟩ := listB s0
  obtain ⟨o, rfl, ho⟩ := listB s1
  obtain ⟨m, rfl, hm⟩ := listB s2
  obtain ⟨t, rfl, ht⟩ := listB s3
  unfold maxLen at w0 w1 w2 w3
  rw [← hk] at w0
  rw [← ho] at w1
  rw [← hm] at w2
  rw [← ht] at w3
  clear hk ho hm ht
  have A1 : ∀ W : World, Calls Try.prog 17 #[.string ⟨k.toArray⟩, .int .i64 32] W (Grown (S (sizedL k 32)) W) := fun W => code_sized W k 32 w0 (by omega)
  have A2 : ∀ W : World, Calls Try.prog 17 #[.string ⟨o.toArray⟩, .int .i64 12] W (Grown (S (sizedL o 12)) W) := fun W => code_sized W o 12 w1 (by omega)
  have A3 : ∀ W : World, Calls Try.prog 17 #[.string ⟨m.toArray⟩, .int .i64 20] W (Grown (S (sizedL m 20)) W) := fun W => code_sized W m 20 w2 (by omega)
  have kl := sizedL_length k 32
  have ol := sizedL_length o 12
  have ml := sizedL_length m 20
  generalize sizedL k 32 = K at *
  generalize sizedL o 12 = O at *
  generalize sizedL m 20 = M at *
  obtain ⟨n, n15, nt, hmin⟩ : ∃ n : Nat, n ≤ 15 ∧ n ≤ t.length ∧ min (t.length : Int) 15 = (n : Int) := ⟨min t.length 15, by omega, by omega, by omega⟩
  have B1 : ∀ W : World, Calls Try.prog 24 #[S K, S O, S M, S (t.take n)] W fun e w' => e = .returned (gnoE 4) ∧ W = w' := fun W => code_gopen_short W K O M (t.take n) kl ol (by omega) (by rw [List.length_take]; omega)
  obtain ⟨z, hz⟩ : ∃ z : Int, z = if k.length = 32 ∧ o.length = 12 then 4 else 1 := ⟨_, rfl⟩
  have B2 : ∀ W : World, Calls Try.prog 24 #[S k, S o, S [], S []] W fun e w' => e = .returned (gnoE z) ∧ W = w' := fun W => by
    rw [hz]
    by_cases h : k.length = 32 ∧ o.length = 12
    · rw [if_pos h]
      exact code_gopen_short W k o [] [] h.1 h.2 (by simp) (by simp)
    · rw [if_neg h]
      exact code_gopen_err W k o [] [] 1 (by unfold gcheckE; rw [if_neg h]) (by rfl)
  have b0 : (0 : Int) ≤ (n : Int) := by omega
  have b1 : (n : Int) ≤ (t.length : Int) := by omega
  have r2 := rule_ext
  unfold S gnoE at *
  clear kl ol ml w0 w1 w2 w3
  by_cases h1 : k.length = 32
  · have q1 : ((k.length : Int) != 32) = false := by simp; omega
    by_cases h2 : o.length = 12
    · have q2 : ((o.length : Int) != 12) = false := by simp; omega
      obtain rfl : z = 4 := by rw [hz, if_pos ⟨h1, h2⟩]
      clear h1 h2 hz
      go_enter Try.func10, Try.ntmps10
      go_wp2_with fail
      go_region_with (first
        | (go_at_call 17; (with_reducible refine (A1 _).mono ?_); rintro e x1 ⟨rfl, hg1⟩)
        | (go_at_call 17; (with_reducible refine (A2 _).mono ?_); rintro e x2 ⟨rfl, hg2⟩)
        | (go_at_call 17; (with_reducible refine (A3 _).mono ?_); rintro e x3 ⟨rfl, hg3⟩)
        | (go_at_call 24; (with_reducible refine (B1 _).mono ?_); rintro e x4 ⟨rfl, rfl⟩))
      all_goals
        unfold S
        go_wp2_with fail
        refine (B2 _).mono ?_
        rintro e x5 ⟨rfl, rfl⟩
        unfold S
        go_wp2_with fail
        go_ret
        exact ⟨rfl, grow_below (grow_trans (grow_trans (grow_trans (grow_drew (grow_refl w none)) hg1) hg2) hg3) _ (Nat.le_refl _) (by simp)⟩
    · have q2 : ((o.length : Int) != 12) = true := by simp; omega
      obtain rfl : z = 1 := by rw [hz, if_neg (by omega)]
      clear h1 h2 hz
      go_enter Try.func10, Try.ntmps10
      go_wp2_with fail
      go_region_with (first
        | (go_at_call 17; (with_reducible refine (A1 _).mono ?_); rintro e x1 ⟨rfl, hg1⟩)
        | (go_at_call 17; (with_reducible refine (A2 _).mono ?_); rintro e x2 ⟨rfl, hg2⟩)
        | (go_at_call 17; (with_reducible refine (A3 _).mono ?_); rintro e x3 ⟨rfl, hg3⟩)
        | (go_at_call 24; (with_reducible refine (B1 _).mono ?_); rintro e x4 ⟨rfl, rfl⟩))
      all_goals
        unfold S
        go_wp2_with fail
        refine (B2 _).mono ?_
        rintro e x5 ⟨rfl, rfl⟩
        unfold S
        go_wp2_with fail
        go_ret
        exact ⟨rfl, grow_below (grow_trans (grow_trans (grow_trans (grow_drew (grow_refl w none)) hg1) hg2) hg3) _ (Nat.le_refl _) (by simp)⟩
  · have q1 : ((k.length : Int) != 32) = true := by simp; omega
    obtain rfl : z = 1 := by rw [hz, if_neg (by omega)]
    clear h1 hz
    go_enter Try.func10, Try.ntmps10
    go_wp2_with fail
    go_region_with (first
      | (go_at_call 17; (with_reducible refine (A1 _).mono ?_); rintro e x1 ⟨rfl, hg1⟩)
      | (go_at_call 17; (with_reducible refine (A2 _).mono ?_); rintro e x2 ⟨rfl, hg2⟩)
      | (go_at_call 17; (with_reducible refine (A3 _).mono ?_); rintro e x3 ⟨rfl, hg3⟩)
      | (go_at_call 24; (with_reducible refine (B1 _).mono ?_); rintro e x4 ⟨rfl, rfl⟩))
    all_goals
      unfold S
      go_wp2_with fail
      refine (B2 _).mono ?_
      rintro e x5 ⟨rfl, rfl⟩
      unfold S
      go_wp2_with fail
      go_ret
      exact ⟨rfl, grow_below (grow_trans (grow_trans (grow_trans (grow_drew (grow_refl w none)) hg1) hg2) hg3) _ (Nat.le_refl _) (by simp)⟩

end Go.Proofs.Ytpeheefpidggfaa
