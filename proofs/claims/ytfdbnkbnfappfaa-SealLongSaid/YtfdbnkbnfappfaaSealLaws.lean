/- The walks of SealBack, SealShort, SealKnown. -/
import Derived.Test.YtfdbnkbnfappfaaBoxed
import Derived.Test.YtfdbnkbnfappfaaKeepBytes
import Derived.Test.YtfdbnkbnfappfaaOpen
namespace Go.Proofs.Ytfdbnkbnfappfaa
open Go.RowKit
set_option linter.unusedVariables false

theorem seal_boxed (w : World) (K O more text other : List UInt8) (hk : K.length = 32) (hn : O.length = 12) (h4 : other.length ≤ 9223372036854775807) :
    Calls Try.prog 30 #[.func (.func 27) #[] #[], .func (.func 29) #[] #[], S K, S O, S more, S text, S other] w (Grown (.bool true) w) := by
  by_cases h : 2000 < text.length ∨ 2000 < more.length
  · refine boxed_large_seal w K O more text other (fun W => ?_) h
    refine (code_seal_err W K O more text 2 (by unfold checkE; rw [if_pos ⟨hk, hn⟩, if_neg (by omega)]) (by rfl)).mono ?_
    rintro e w' ⟨rfl, rfl⟩
    exact ⟨rfl, grow_refl _ _⟩
  · have lo := sizedL_length other text.length
    refine boxed_ok_seal w K O more text other (sealL K O more text) (sealL K O more (sizedL other text.length)) h4 (by omega) (fun W => code_seal W K O more text hk hn (by omega) (by omega)) (fun W => ?_) (fun W => code_seal W K O more _ hk hn (by omega) (by omega)) (sealL_length _ _ _ _) (by rw [sealL_length, lo]) ?_
    · have := code_open W K O more (chxL K O 1 text) hk hn (by omega) (by rw [chxL_length]; omega)
      rwa [chxL_twice K O 1 text (by omega)] at this
    · rw [sealL_take]
      have := sealL_take K O more (sizedL other text.length)
      rw [lo] at this
      rw [this, chxL_pair K O 1 text _ (by omega) lo]

set_option maxHeartbeats 1000000 in
theorem walk_SealBack (s0 s1 s2 s3 s4 : ByteArray) (w0 : s0.size ≤ maxLen) (w1 : s1.size ≤ maxLen) (w2 : s2.size ≤ maxLen) (w3 : s3.size ≤ maxLen) (w4 : s4.size ≤ maxLen) (w : World) :
    Calls Try.prog 12 #[.string s0, .string s1, .string s2, .string s3, .string s4] w fun e w' => e = .returned (.bool true) ∧ Below w.heap.size w w' := by
  obtain ⟨k, rfl, hk⟩ := listB s0
  obtain ⟨o, rfl, ho⟩ := listB s1
  obtain ⟨m, rfl, hm⟩ := listB s2
  obtain ⟨t, rfl, ht⟩ := listB s3
  obtain ⟨u, rfl, hu⟩ := listB s4
  unfold maxLen at w0 w1 w2 w3 w4
  rw [← hk] at w0
  rw [← ho] at w1
  rw [← hu] at w4
  clear hk ho hm ht hu w2 w3
  have A1 : ∀ W : World, Calls Try.prog 20 #[.string ⟨k.toArray⟩, .int .i64 32] W (Grown (S (sizedL k 32)) W) := fun W => code_sized W k 32 w0 (by omega)
  have A2 : ∀ W : World, Calls Try.prog 20 #[.string ⟨o.toArray⟩, .int .i64 12] W (Grown (S (sizedL o 12)) W) := fun W => code_sized W o 12 w1 (by omega)
  have kl := sizedL_length k 32
  have ol := sizedL_length o 12
  generalize sizedL k 32 = K at *
  generalize sizedL o 12 = O at *
  have B := fun W : World => seal_boxed W K O m t u kl ol w4
  clear kl ol w0 w1 w4
  unfold S at *
  go_enter Try.func12, Try.ntmps12
  go_wp2_with (first
    | (go_at_call 20; (with_reducible refine (A1 _).mono ?_); rintro e x1 ⟨rfl, hg1⟩)
    | (go_at_call 20; (with_reducible refine (A2 _).mono ?_); rintro e x2 ⟨rfl, hg2⟩)
    | fail)
  refine (B _).mono ?_
  rintro e x3 ⟨rfl, hg3⟩
  go_wp2_with fail
  go_ret
  exact ⟨rfl, grow_below (grow_trans (grow_trans hg1 hg2) hg3) _ (Nat.le_refl _) (by simp)⟩

end Go.Proofs.Ytfdbnkbnfappfaa
