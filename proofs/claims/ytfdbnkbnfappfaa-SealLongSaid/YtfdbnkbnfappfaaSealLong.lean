/- The walk of SealLong. -/
import Derived.Test.YtfdbnkbnfappfaaSealLaws
namespace Go.Proofs.Ytfdbnkbnfappfaa
open Go.RowKit
set_option linter.unusedVariables false

set_option maxHeartbeats 1000000 in
theorem code_elong_seal (w : World) (key nonce more text a : List UInt8) (n : Int) (hk : key.length = 32) (hn : nonce.length = 24)
    (C : ∀ W : World, Calls Try.prog 27 #[S (subL key (nonce.take 16)), S ([0, 0, 0, 0] ++ nonce.drop 16), S more, S text] W (Grown (.tuple #[S a, .int .i64 n]) W)) :
    Calls Try.prog 50 #[S key, S nonce, S more, S text, .func (.func 27) #[] #[]] w (Grown (.tuple #[S a, .int .i64 n]) w) := by
  have A1 : ∀ W : World, Calls Try.prog 18 #[S key, S (nonce.take 16)] W (Blocked (subL key (nonce.take 16)) W) := fun W => code_sub W key _ hk (by rw [List.length_take]; omega)
  generalize subL key (nonce.take 16) = K at *
  have q1 : ((key.length : Int) != 32) = false := by simp; omega
  have q2 : ((nonce.length : Int) != 24) = false := by simp; omega
  have r1 := rule_app
  have r2 := rule_ext
  have b1 : (16 : Int) ≤ (nonce.length : Int) := by omega
  have b2 : 16 ≤ nonce.length := by omega
  have htk : List.take (nonce.length - 16) (List.drop 16 nonce) = List.drop 16 nonce := List.take_of_length_le (by simp)
  have htk2 : List.take 8 (List.drop 16 nonce) = List.drop 16 nonce := List.take_of_length_le (by rw [List.length_drop]; omega)
  have r3 : ByteArray.mk #[0, 0, 0, 0] ++ ByteArray.mk (List.drop 16 nonce).toArray = ⟨([0, 0, 0, 0] ++ List.drop 16 nonce).toArray⟩ := rule_app [0, 0, 0, 0] (List.drop 16 nonce)
  obtain ⟨O, hO⟩ : ∃ O, O = [0, 0, 0, 0] ++ List.drop 16 nonce := ⟨_, rfl⟩
  rw [← hO] at r3 C
  have l4 : (ByteArray.mk #[0, 0, 0, 0]).size = 4 := rfl
  have k1 : 4 + (nonce.length - 16) ≤ 9223372036854775807 := by omega
  clear hO r1
  unfold S Blocked at *
  go_enter Try.func50, Try.ntmps50
  go_wp2_with fail
  refine (A1 _).mono ?_
  rintro e w1 ⟨rfl, hg1⟩
  unfold S
  go_wp2_with fail
  refine (C _).mono ?_
  rintro e w2 ⟨rfl, hg2⟩
  go_wp2_with fail
  go_ret2
  exact ⟨rfl, grow_trans hg1 hg2⟩

theorem code_eLong (w : World) (key nonce more text a : List UInt8) (n : Int) (hk : key.length = 32) (hn : nonce.length = 24)
    (C : ∀ W : World, Calls Try.prog 27 #[S (subL key (nonce.take 16)), S ([0, 0, 0, 0] ++ nonce.drop 16), S more, S text] W (Grown (.tuple #[S a, .int .i64 n]) W)) :
    Calls Try.prog 31 #[S key, S nonce, S more, S text] w (Grown (.tuple #[S a, .int .i64 n]) w) := by
  have B := fun W : World => code_elong_seal W key nonce more text a n hk hn C
  clear C
  unfold S at *
  go_enter Try.func31, Try.ntmps31
  go_wp2_with fail
  refine (B _).mono ?_
  rintro e w1 ⟨rfl, hg1⟩
  go_wp2_with fail
  go_ret2
  exact ⟨rfl, hg1⟩

set_option maxHeartbeats 1000000 in
theorem code_elong_open (w : World) (key nonce more text a : List UInt8) (n : Int) (hk : key.length = 32) (hn : nonce.length = 24)
    (C : ∀ W : World, Calls Try.prog 29 #[S (subL key (nonce.take 16)), S ([0, 0, 0, 0] ++ nonce.drop 16), S more, S text] W (Grown (.tuple #[S a, .int .i64 n]) W)) :
    Calls Try.prog 50 #[S key, S nonce, S more, S text, .func (.func 29) #[] #[]] w (Grown (.tuple #[S a, .int .i64 n]) w) := by
  have A1 : ∀ W : World, Calls Try.prog 18 #[S key, S (nonce.take 16)] W (Blocked (subL key (nonce.take 16)) W) := fun W => code_sub W key _ hk (by rw [List.length_take]; omega)
  generalize subL key (nonce.take 16) = K at *
  have q1 : ((key.length : Int) != 32) = false := by simp; omega
  have q2 : ((nonce.length : Int) != 24) = false := by simp; omega
  have r1 := rule_app
  have r2 := rule_ext
  have b1 : (16 : Int) ≤ (nonce.length : Int) := by omega
  have b2 : 16 ≤ nonce.length := by omega
  have htk : List.take (nonce.length - 16) (List.drop 16 nonce) = List.drop 16 nonce := List.take_of_length_le (by simp)
  have htk2 : List.take 8 (List.drop 16 nonce) = List.drop 16 nonce := List.take_of_length_le (by rw [List.length_drop]; omega)
  have r3 : ByteArray.mk #[0, 0, 0, 0] ++ ByteArray.mk (List.drop 16 nonce).toArray = ⟨([0, 0, 0, 0] ++ List.drop 16 nonce).toArray⟩ := rule_app [0, 0, 0, 0] (List.drop 16 nonce)
  obtain ⟨O, hO⟩ : ∃ O, O = [0, 0, 0, 0] ++ List.drop 16 nonce := ⟨_, rfl⟩
  rw [← hO] at r3 C
  have l4 : (ByteArray.mk #[0, 0, 0, 0]).size = 4 := rfl
  have k1 : 4 + (nonce.length - 16) ≤ 9223372036854775807 := by omega
  clear hO r1
  unfold S Blocked at *
  go_enter Try.func50, Try.ntmps50
  go_wp2_with fail
  refine (A1 _).mono ?_
  rintro e w1 ⟨rfl, hg1⟩
  unfold S
  go_wp2_with fail
  refine (C _).mono ?_
  rintro e w2 ⟨rfl, hg2⟩
  go_wp2_with fail
  go_ret2
  exact ⟨rfl, grow_trans hg1 hg2⟩

theorem code_eUnlong (w : World) (key nonce more text a : List UInt8) (n : Int) (hk : key.length = 32) (hn : nonce.length = 24)
    (C : ∀ W : World, Calls Try.prog 29 #[S (subL key (nonce.take 16)), S ([0, 0, 0, 0] ++ nonce.drop 16), S more, S text] W (Grown (.tuple #[S a, .int .i64 n]) W)) :
    Calls Try.prog 32 #[S key, S nonce, S more, S text] w (Grown (.tuple #[S a, .int .i64 n]) w) := by
  have B := fun W : World => code_elong_open W key nonce more text a n hk hn C
  clear C
  unfold S at *
  go_enter Try.func32, Try.ntmps32
  go_wp2_with fail
  refine (B _).mono ?_
  rintro e w1 ⟨rfl, hg1⟩
  go_wp2_with fail
  go_ret2
  exact ⟨rfl, hg1⟩

theorem long_boxed (w : World) (K O more text other : List UInt8) (hk : K.length = 32) (hn : O.length = 24) (h4 : other.length ≤ 9223372036854775807) :
    Calls Try.prog 30 #[.func (.func 31) #[] #[], .func (.func 32) #[] #[], S K, S O, S more, S text, S other] w (Grown (.bool true) w) := by
  have sk : (subL K (O.take 16)).length = 32 := subL_length _ _
  have sn : ([0, 0, 0, 0] ++ O.drop 16).length = 12 := by rw [List.length_append, List.length_drop, hn]; rfl
  by_cases h : 2000 < text.length ∨ 2000 < more.length
  · refine boxed_large_long w K O more text other (fun W => code_eLong W K O more text [] 2 hk hn fun W => ?_) h
    refine (code_seal_err W _ _ more text 2 (by unfold checkE; rw [if_pos ⟨sk, sn⟩, if_neg (by omega)]) (by rfl)).mono ?_
    rintro e w' ⟨rfl, rfl⟩
    exact ⟨rfl, grow_refl _ _⟩
  · have lo := sizedL_length other text.length
    refine boxed_ok_long w K O more text other (sealL (subL K (O.take 16)) ([0, 0, 0, 0] ++ O.drop 16) more text) (sealL (subL K (O.take 16)) ([0, 0, 0, 0] ++ O.drop 16) more (sizedL other text.length)) h4 (by omega)
      (fun W => code_eLong W K O more text _ 0 hk hn fun W => code_seal W _ _ more text sk sn (by omega) (by omega)) (fun W => code_eUnlong W K O more _ _ 0 hk hn fun W => ?_)
      (fun W => code_eLong W K O more _ _ 0 hk hn fun W => code_seal W _ _ more _ sk sn (by omega) (by omega)) (sealL_length _ _ _ _) (by rw [sealL_length, lo]) ?_
    · have := code_open W (subL K (O.take 16)) ([0, 0, 0, 0] ++ O.drop 16) more (chxL (subL K (O.take 16)) ([0, 0, 0, 0] ++ O.drop 16) 1 text) sk sn (by omega) (by rw [chxL_length]; omega)
      rwa [chxL_twice _ _ 1 text (by omega)] at this
    · rw [sealL_take]
      have := sealL_take (subL K (O.take 16)) ([0, 0, 0, 0] ++ O.drop 16) more (sizedL other text.length)
      rw [lo] at this
      rw [this, chxL_pair _ _ 1 text _ (by omega) lo]

set_option maxHeartbeats 1000000 in
theorem walk_SealLong (s0 s1 s2 s3 s4 : ByteArray) (w0 : s0.size ≤ maxLen) (w1 : s1.size ≤ maxLen) (w2 : s2.size ≤ maxLen) (w3 : s3.size ≤ maxLen) (w4 : s4.size ≤ maxLen) (w : World) :
    Calls Try.prog 13 #[.string s0, .string s1, .string s2, .string s3, .string s4] w fun e w' => e = .returned (.bool true) ∧ Below w.heap.size w w' := by
  obtain ⟨k, rfl, hk⟩ := listB s0
  obtain ⟨o, rfl, ho⟩ := listB s1
  obtain ⟨m, rfl, hm⟩ := listB s2
  obtain ⟨t, rfl, ht⟩ := listB s3
  obtain ⟨u, rfl, hu⟩ := listB s4
  unfold maxLen at w0 w1 w2 w3 w4
  rw [← hk] at w0
  rw [← ho] at w1
  rw [← hu] at w4
  clear hk ho hm ht hu w2 w3
  have A1 : ∀ W : World, Calls Try.prog 20 #[.string ⟨k.toArray⟩, .int .i64 32] W (Grown (S (sizedL k 32)) W) := fun W => code_sized W k 32 w0 (by omega)
  have A2 : ∀ W : World, Calls Try.prog 20 #[.string ⟨o.toArray⟩, .int .i64 24] W (Grown (S (sizedL o 24)) W) := fun W => code_sized W o 24 w1 (by omega)
  have kl := sizedL_length k 32
  have ol := sizedL_length o 24
  generalize sizedL k 32 = K at *
  generalize sizedL o 24 = O at *
  have B := fun W : World => long_boxed W K O m t u kl ol w4
  clear kl ol w0 w1 w4
  unfold S at *
  go_enter Try.func13, Try.ntmps13
  go_wp2_with (first
    | (go_at_call 20; (with_reducible refine (A1 _).mono ?_); rintro e x1 ⟨rfl, hg1⟩)
    | (go_at_call 20; (with_reducible refine (A2 _).mono ?_); rintro e x2 ⟨rfl, hg2⟩)
    | fail)
  refine (B _).mono ?_
  rintro e x3 ⟨rfl, hg3⟩
  go_wp2_with fail
  go_ret
  exact ⟨rfl, grow_below (grow_trans (grow_trans hg1 hg2) hg3) _ (Nat.le_refl _) (by simp)⟩

end Go.Proofs.Ytfdbnkbnfappfaa
