/- The walk of CookieBack. -/
import Derived.Test.YtdakmkbcepccbaaCookieReply
import Derived.Test.YtdakmkbcepccbaaSized
namespace Go.Proofs.Ytdakmkbcepccbaa
open Go.RowKit
set_option linter.unusedVariables false

set_option maxHeartbeats 4000000 in
theorem walk_CookieBack (s0 s1 s2 s3 : ByteArray) (w0 : s0.size ≤ maxLen) (w1 : s1.size ≤ maxLen) (w2 : s2.size ≤ maxLen) (w3 : s3.size ≤ maxLen) (w : World) (z0 : s0.size ≤ 140737488351232) (z1 : s1.size ≤ 140737488351232) (z2 : s2.size ≤ 140737488351232) (z3 : s3.size ≤ 140737488351232) :
    Calls Try.prog 7 #[.string s0, .string s1, .string s2, .string s3] w fun e w' => e = .returned (.bool true) ∧ Below w.heap.size w w' := by
  obtain ⟨p0, rfl, hp0⟩ := list_of s0
  obtain ⟨n0, rfl, hn0⟩ := list_of s1
  obtain ⟨c0, rfl, hc0⟩ := list_of s2
  obtain ⟨text, rfl, ht⟩ := list_of s3
  rw [← hp0] at z0
  rw [← hn0] at z1
  rw [← hc0] at z2
  rw [← ht] at z3
  have AP : ∀ W : World, Hid (w.grownBy W none) → Calls Try.prog 17 #[S p0, .int .i64 32] W (GrownH w (S (sizedL p0 32))) := lift w (fun W => code_sized W p0 32 (by omega) (by omega))
  have AN : ∀ W : World, Hid (w.grownBy W none) → Calls Try.prog 17 #[S n0, .int .i64 24] W (GrownH w (S (sizedL n0 24))) := lift w (fun W => code_sized W n0 24 (by omega) (by omega))
  have AC : ∀ W : World, Hid (w.grownBy W none) → Calls Try.prog 17 #[S c0, .int .i64 16] W (GrownH w (S (sizedL c0 16))) := lift w (fun W => code_sized W c0 16 (by omega) (by omega))
  have AT : ∀ W : World, Hid (w.grownBy W none) → Calls Try.prog 17 #[S text, .int .i64 6] W (GrownH w (S (sizedL text 6))) := lift w (fun W => code_sized W text 6 (by omega) (by omega))
  have lP := sizedL_length p0 32
  have lN := sizedL_length n0 24
  have lC := sizedL_length c0 16
  have lT := sizedL_length text 6
  generalize sizedL p0 32 = pub at *
  generalize sizedL n0 24 = nonce at *
  generalize sizedL c0 16 = c at *
  generalize sizedL text 6 = T6 at *
  have A1 := lift w (fun W => code_mark_none W pub (T6 ++ text) lP (by rw [List.length_append]; omega))
  have lM : (markedL pub (T6 ++ text) ++ zerosL 16).length = text.length + 38 := by
    rw [List.length_append, zerosL_length]
    unfold markedL
    rw [List.length_append, List.length_append, fMark_length]
    omega
  generalize markedL pub (T6 ++ text) ++ zerosL 16 = M at *
  have A2 := lift w (fun W => code_ckreply W pub nonce c M lP lN lC (by omega) (by omega))
  have A3 := lift w (fun W => code_ckaccept W pub nonce c M lP lN lC (by omega) (by omega))
  have lR : (replyL pub nonce c M).length = 62 := by
    unfold replyL
    rw [List.length_append, List.length_append, hOf_length M (by omega), cookS_length]
    omega
  generalize replyL pub nonce c M = U at *
  have hg : Hid (w.grownBy w none) := Lib.hid (grow_refl _ _)
  have z : ((U.length : Int) == 62) = true := by rw [lR]; rfl
  have k1 : T6.length + text.length ≤ 9223372036854775807 := by omega
  have r1 := rule_app
  clear lP lN lC lT lM lR w0 w1 w2 w3 hp0 hn0 hc0 ht z0 z1 z2
  unfold S at *
  go_enter Try.func7, Try.ntmps7
  go_wp2_with (first
    | (go_at_call 17; (with_reducible refine (AP _ hg).mono ?_); clear hg AP; rintro e x ⟨rfl, hg⟩)
    | (go_at_call 17; (with_reducible refine (AN _ hg).mono ?_); clear hg AN; rintro e x ⟨rfl, hg⟩)
    | (go_at_call 17; (with_reducible refine (AC _ hg).mono ?_); clear hg AC; rintro e x ⟨rfl, hg⟩)
    | (go_at_call 17; (with_reducible refine (AT _ hg).mono ?_); clear hg AT; rintro e x ⟨rfl, hg⟩)
    | (go_at_call 19; (with_reducible refine (A1 _ hg).mono ?_); clear hg A1; rintro e x ⟨rfl, hg⟩)
    | (go_at_call 21; (with_reducible refine (A2 _ hg).mono ?_); clear hg A2; rintro e x ⟨rfl, hg⟩)
    | (go_at_call 22; (with_reducible refine (A3 _ hg).mono ?_); clear hg A3; rintro e x ⟨rfl, hg⟩)
    | fail)
  go_ret
  exact ⟨rfl, grow_below hg.out _ (Nat.le_refl _) (by simp)⟩

end Go.Proofs.Ytdakmkbcepccbaa
