/- The walk of CookieProves. -/
import Derived.Test.YtdakmkbcepccbaaCookieMark
import Derived.Test.YtdakmkbcepccbaaSized
namespace Go.Proofs.Ytdakmkbcepccbaa
open Go.RowKit
set_option linter.unusedVariables false

set_option maxRecDepth 100000 in
set_option maxHeartbeats 4000000 in
theorem walk_CookieProves (s0 s1 s2 : ByteArray) (w0 : s0.size ≤ maxLen) (w1 : s1.size ≤ maxLen) (w2 : s2.size ≤ maxLen) (w : World) (z0 : s0.size ≤ 140737488351232) (z1 : s1.size ≤ 140737488351232) (z2 : s2.size ≤ 140737488351232) :
    Calls Try.prog 6 #[.string s0, .string s1, .string s2] w fun e w' => e = .returned (.bool true) ∧ Below w.heap.size w w' := by
  obtain ⟨p0, rfl, hp0⟩ := list_of s0
  obtain ⟨c0, rfl, hc0⟩ := list_of s1
  obtain ⟨text, rfl, ht⟩ := list_of s2
  rw [← hp0] at z0
  rw [← hc0] at z1
  rw [← ht] at z2
  have AP : ∀ W : World, Hid (w.grownBy W none) → Calls Try.prog 17 #[S p0, .int .i64 32] W (GrownH w (S (sizedL p0 32))) := lift w (fun W => code_sized W p0 32 (by omega) (by omega))
  have AC : ∀ W : World, Hid (w.grownBy W none) → Calls Try.prog 17 #[S c0, .int .i64 16] W (GrownH w (S (sizedL c0 16))) := lift w (fun W => code_sized W c0 16 (by omega) (by omega))
  have lP := sizedL_length p0 32
  have lC := sizedL_length c0 16
  generalize sizedL p0 32 = pub at *
  generalize sizedL c0 16 = c at *
  have A1 := lift w (fun W => code_mark_some W pub c text lP lC (by omega))
  have A2 := lift w (fun W => code_mark_none W pub text lP (by omega))
  have A3 := lift w (fun W => code_verify_some W pub c text lP lC (by omega))
  have lB := blL_length c (markedL pub text) 16 (by omega)
  have A4 := lift w (fun W => code_verify_none W pub text (blL c (markedL pub text) 16) lP lB (by omega))
  have A5 := lift w (fun W => code_verify_none W pub text (zerosL 16) lP (zerosL_length 16) (by omega))
  have lM : (markedL pub text).length = text.length + 16 := by unfold markedL; rw [List.length_append, fMark_length]
  have lZ := zerosL_length 16
  generalize blL c (markedL pub text) 16 = B at *
  generalize zerosL 16 = Z at *
  generalize markedL pub text = M at *
  obtain ⟨a, ha⟩ : ∃ a, a = M ++ B := ⟨_, rfl⟩
  obtain ⟨b, hb⟩ : ∃ b, b = M ++ Z := ⟨_, rfl⟩
  rw [← ha] at A1 A3 A4
  rw [← hb] at A2 A5
  have la : a.length = text.length + 32 := by rw [ha, List.length_append, lM, lB]
  have lb : b.length = text.length + 32 := by rw [hb, List.length_append, lM, lZ]
  have ta : a.take (text.length + 16) = M := by rw [ha, ← lM, List.take_left]
  have tb : b.take (text.length + 16) = M := by rw [hb, ← lM, List.take_left]
  have hg : Hid (w.grownBy w none) := Lib.hid (grow_refl _ _)
  have q1 : ((a.length : Int) == (text.length : Int) + 32) = true := by rw [beq_iff_eq]; omega
  have q2 : ((b.length : Int) == (a.length : Int)) = true := by rw [beq_iff_eq]; omega
  have k1 : (text.length : Int) + 16 ≤ (a.length : Int) := by omega
  have k2 : (text.length : Int) + 16 ≤ (b.length : Int) := by omega
  have k3 : (0 : Int) ≤ (text.length : Int) + 16 := by omega
  have k4 : ((text.length : Int) + 16).toNat = text.length + 16 := by omega
  have r2 := rule_ext
  clear ha hb lM lB lZ w0 w1 w2 hp0 hc0 ht z0 z1
  unfold S at *
  go_enter Try.func6, Try.ntmps6
  go_wp2_with (first
    | (go_at_call 17; (with_reducible refine (AP _ hg).mono ?_); clear hg AP; rintro e x ⟨rfl, hg⟩)
    | (go_at_call 17; (with_reducible refine (AC _ hg).mono ?_); clear hg AC; rintro e x ⟨rfl, hg⟩)
    | (go_at_call 19; (with_reducible refine (A1 _ hg).mono ?_); clear hg A1; rintro e x ⟨rfl, hg⟩)
    | (go_at_call 19; (with_reducible refine (A2 _ hg).mono ?_); clear hg A2; rintro e x ⟨rfl, hg⟩)
    | (go_at_call 20; (with_reducible refine (A3 _ hg).mono ?_); clear hg A3; rintro e x ⟨rfl, hg⟩)
    | (go_at_call 20; (with_reducible refine (A4 _ hg).mono ?_); clear hg A4; rintro e x ⟨rfl, hg⟩)
    | (go_at_call 20; (with_reducible refine (A5 _ hg).mono ?_); clear hg A5; rintro e x ⟨rfl, hg⟩)
    | fail)
  simp only [List.append_eq, List.cons_append, List.nil_append]
  go_region
  all_goals
    go_wp2_with fail
    go_ret
    exact ⟨rfl, grow_below (grow_drew hg.out) _ (Nat.le_refl _) (by simp)⟩

end Go.Proofs.Ytdakmkbcepccbaa
