/- What holds of whatever seals and opens: the walk of it, at each pair of functions. -/
import Derived.Test.YtfdbnkbnfappfaaSealOpen
import Derived.Test.YtfdbnkbnfappfaaXored
import Derived.Test.YtfdbnkbnfappfaaSized
namespace Go.Proofs.Ytfdbnkbnfappfaa
open Go.RowKit
set_option linter.unusedVariables false

set_option maxHeartbeats 1000000 in
theorem boxed_ok_seal (w : World) (key nonce more text other A C : List UInt8) (ho : other.length ≤ 9223372036854775807) (ht : text.length ≤ 2000)
    (C1 : ∀ W : World, Calls Try.prog 27 #[S key, S nonce, S more, S text] W (Blocked A W)) (C2 : ∀ W : World, Calls Try.prog 29 #[S key, S nonce, S more, S A] W (Blocked text W))
    (C3 : ∀ W : World, Calls Try.prog 27 #[S key, S nonce, S more, S (sizedL other text.length)] W (Blocked C W)) (lA : A.length = text.length + 16) (lC : C.length = text.length + 16)
    (hx : xorL (A.take text.length) (C.take text.length) = xorL text (sizedL other text.length)) :
    Calls Try.prog 30 #[.func (.func 27) #[] #[], .func (.func 29) #[] #[], S key, S nonce, S more, S text, S other] w (Grown (.bool true) w) := by
  have A1 : ∀ W : World, Calls Try.prog 20 #[S other, .int .i64 text.length] W (Grown (S (sizedL other text.length)) W) := fun W => code_sized W other text.length ho (by omega)
  have lo := sizedL_length other text.length
  generalize sizedL other text.length = O at *
  have X1 : ∀ W : World, Calls Try.prog 22 #[S (A.take text.length), S (C.take text.length)] W (GrowsTo (S (xorL text O)) W) := fun W => by
    have := keep_xored W (A.take text.length) (C.take text.length) (by rw [List.length_take]; omega) (by rw [List.length_take]; omega)
    rwa [hx] at this
  have X2 : ∀ W : World, Calls Try.prog 22 #[S text, S O] W (GrowsTo (S (xorL text O)) W) := fun W => keep_xored W text O (by omega) (by omega)
  generalize xorL text O = X at *
  have e1 : ((A.length : Int) != (text.length : Int) + 16) = false := by rw [lA]; simp
  have e2 : ((C.length : Int) != (A.length : Int)) = false := by rw [lA, lC]; simp
  have b0 : (0 : Int) ≤ (text.length : Int) := by omega
  have b1 : (text.length : Int) ≤ (A.length : Int) := by omega
  have b2 : (text.length : Int) ≤ (C.length : Int) := by omega
  have b3 : text.length ≤ A.length := by omega
  have b4 : text.length ≤ C.length := by omega
  have r2 := rule_ext
  clear hx lo
  have LA := Lib.hid lA
  have LC := Lib.hid lC
  unfold S Blocked GrowsTo at *
  go_enter Try.func30, Try.ntmps30
  go_wp2_with fail
  refine (C1 _).mono ?_
  rintro e x1 ⟨rfl, hg1⟩
  go_wp2_with fail
  refine (C2 _).mono ?_
  rintro e x2 ⟨rfl, hg2⟩
  go_wp2_with fail
  refine (A1 _).mono ?_
  rintro e x3 ⟨rfl, hg3⟩
  go_wp2_with fail
  refine (C3 _).mono ?_
  rintro e x4 ⟨rfl, hg4⟩
  unfold S
  go_wp2_with fail
  go_region_with (first
    | (go_at_call 22; (with_reducible refine (X1 _).mono ?_); rintro e x5 ⟨rfl, hg5⟩)
    | (go_at_call 22; (with_reducible refine (X2 _).mono ?_); rintro e x6 ⟨rfl, hg6⟩))
  all_goals
    go_wp2_with fail
    go_ret
    exact ⟨rfl, grow_trans (grow_trans (grow_trans (grow_trans (grow_drew (grow_trans (grow_trans (grow_trans hg1 hg2) hg3) hg4)) hg5) hg6) (grow_refl _ _)) (grow_refl _ _)⟩

set_option maxHeartbeats 1000000 in
theorem boxed_large_seal (w : World) (key nonce more text other : List UInt8)
    (C1 : ∀ W : World, Calls Try.prog 27 #[S key, S nonce, S more, S text] W (Grown (noTextE 2) W)) (h : 2000 < text.length ∨ 2000 < more.length) :
    Calls Try.prog 30 #[.func (.func 27) #[] #[], .func (.func 29) #[] #[], S key, S nonce, S more, S text, S other] w (Grown (.bool true) w) := by
  unfold S noTextE at *
  by_cases h1 : 2000 < text.length
  · have q1 : (2000 : Int) < (text.length : Int) := by omega
    clear h
    go_enter Try.func30, Try.ntmps30
    go_wp2_with fail
    refine (C1 _).mono ?_
    rintro e x1 ⟨rfl, hg1⟩
    unfold S
    go_wp2_with fail
    go_ret
    exact ⟨rfl, hg1⟩
  · have q1 : ¬ (2000 : Int) < (text.length : Int) := by omega
    have q2 : (2000 : Int) < (more.length : Int) := by omega
    clear h
    go_enter Try.func30, Try.ntmps30
    go_wp2_with fail
    refine (C1 _).mono ?_
    rintro e x1 ⟨rfl, hg1⟩
    unfold S
    go_wp2_with fail
    go_ret
    exact ⟨rfl, hg1⟩

set_option maxHeartbeats 1000000 in
theorem boxed_ok_long (w : World) (key nonce more text other A C : List UInt8) (ho : other.length ≤ 9223372036854775807) (ht : text.length ≤ 2000)
    (C1 : ∀ W : World, Calls Try.prog 31 #[S key, S nonce, S more, S text] W (Blocked A W)) (C2 : ∀ W : World, Calls Try.prog 32 #[S key, S nonce, S more, S A] W (Blocked text W))
    (C3 : ∀ W : World, Calls Try.prog 31 #[S key, S nonce, S more, S (sizedL other text.length)] W (Blocked C W)) (lA : A.length = text.length + 16) (lC : C.length = text.length + 16)
    (hx : xorL (A.take text.length) (C.take text.length) = xorL text (sizedL other text.length)) :
    Calls Try.prog 30 #[.func (.func 31) #[] #[], .func (.func 32) #[] #[], S key, S nonce, S more, S text, S other] w (Grown (.bool true) w) := by
  have A1 : ∀ W : World, Calls Try.prog 20 #[S other, .int .i64 text.length] W (Grown (S (sizedL other text.length)) W) := fun W => code_sized W other text.length ho (by omega)
  have lo := sizedL_length other text.length
  generalize sizedL other text.length = O at *
  have X1 : ∀ W : World, Calls Try.prog 22 #[S (A.take text.length), S (C.take text.length)] W (GrowsTo (S (xorL text O)) W) := fun W => by
    have := keep_xored W (A.take text.length) (C.take text.length) (by rw [List.length_take]; omega) (by rw [List.length_take]; omega)
    rwa [hx] at this
  have X2 : ∀ W : World, Calls Try.prog 22 #[S text, S O] W (GrowsTo (S (xorL text O)) W) := fun W => keep_xored W text O (by omega) (by omega)
  generalize xorL text O = X at *
  have e1 : ((A.length : Int) != (text.length : Int) + 16) = false := by rw [lA]; simp
  have e2 : ((C.length : Int) != (A.length : Int)) = false := by rw [lA, lC]; simp
  have b0 : (0 : Int) ≤ (text.length : Int) := by omega
  have b1 : (text.length : Int) ≤ (A.length : Int) := by omega
  have b2 : (text.length : Int) ≤ (C.length : Int) := by omega
  have b3 : text.length ≤ A.length := by omega
  have b4 : text.length ≤ C.length := by omega
  have r2 := rule_ext
  clear hx lo
  have LA := Lib.hid lA
  have LC := Lib.hid lC
  unfold S Blocked GrowsTo at *
  go_enter Try.func30, Try.ntmps30
  go_wp2_with fail
  refine (C1 _).mono ?_
  rintro e x1 ⟨rfl, hg1⟩
  go_wp2_with fail
  refine (C2 _).mono ?_
  rintro e x2 ⟨rfl, hg2⟩
  go_wp2_with fail
  refine (A1 _).mono ?_
  rintro e x3 ⟨rfl, hg3⟩
  go_wp2_with fail
  refine (C3 _).mono ?_
  rintro e x4 ⟨rfl, hg4⟩
  unfold S
  go_wp2_with fail
  go_region_with (first
    | (go_at_call 22; (with_reducible refine (X1 _).mono ?_); rintro e x5 ⟨rfl, hg5⟩)
    | (go_at_call 22; (with_reducible refine (X2 _).mono ?_); rintro e x6 ⟨rfl, hg6⟩))
  all_goals
    go_wp2_with fail
    go_ret
    exact ⟨rfl, grow_trans (grow_trans (grow_trans (grow_trans (grow_drew (grow_trans (grow_trans (grow_trans hg1 hg2) hg3) hg4)) hg5) hg6) (grow_refl _ _)) (grow_refl _ _)⟩

set_option maxHeartbeats 1000000 in
theorem boxed_large_long (w : World) (key nonce more text other : List UInt8)
    (C1 : ∀ W : World, Calls Try.prog 31 #[S key, S nonce, S more, S text] W (Grown (noTextE 2) W)) (h : 2000 < text.length ∨ 2000 < more.length) :
    Calls Try.prog 30 #[.func (.func 31) #[] #[], .func (.func 32) #[] #[], S key, S nonce, S more, S text, S other] w (Grown (.bool true) w) := by
  unfold S noTextE at *
  by_cases h1 : 2000 < text.length
  · have q1 : (2000 : Int) < (text.length : Int) := by omega
    clear h
    go_enter Try.func30, Try.ntmps30
    go_wp2_with fail
    refine (C1 _).mono ?_
    rintro e x1 ⟨rfl, hg1⟩
    unfold S
    go_wp2_with fail
    go_ret
    exact ⟨rfl, hg1⟩
  · have q1 : ¬ (2000 : Int) < (text.length : Int) := by omega
    have q2 : (2000 : Int) < (more.length : Int) := by omega
    clear h
    go_enter Try.func30, Try.ntmps30
    go_wp2_with fail
    refine (C1 _).mono ?_
    rintro e x1 ⟨rfl, hg1⟩
    unfold S
    go_wp2_with fail
    go_ret
    exact ⟨rfl, hg1⟩

end Go.Proofs.Ytfdbnkbnfappfaa
