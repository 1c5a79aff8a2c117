/- A part of the text SealLong, apart. -/
import Derived.Test.YtdakmkbcepccbaaSealOpen
namespace Go.Proofs.Ytdakmkbcepccbaa
open Go.RowKit
set_option linter.unusedVariables false

set_option maxHeartbeats 1000000 in
theorem code_elong_seal (w : World) (key nonce more text a : List UInt8) (n : Int) (hk : key.length = 32) (hn : nonce.length = 24)
    (C : ∀ W : World, Calls Try.prog 52 #[S (subL key (nonce.take 16)), S ([0, 0, 0, 0] ++ nonce.drop 16), S more, S text] W (Grown (.tuple #[S a, .int .i64 n]) W)) :
    Calls Try.prog 51 #[S key, S nonce, S more, S text, .func (.func 52) #[] #[]] w (Grown (.tuple #[S a, .int .i64 n]) w) := by
  have A1 : ∀ W : World, Calls Try.prog 63 #[S key, S (nonce.take 16)] W (Blocked (subL key (nonce.take 16)) W) := fun W => code_sub W key _ hk (by rw [List.length_take]; omega)
  generalize subL key (nonce.take 16) = K at *
  have q1 : ((key.length : Int) != 32) = false := by simp; omega
  have q2 : ((nonce.length : Int) != 24) = false := by simp; omega
  have r1 := rule_app
  have r2 := rule_ext
  have b1 : (16 : Int) ≤ (nonce.length : Int) := by omega
  have b2 : 16 ≤ nonce.length := by omega
  have htk : List.take (nonce.length - 16) (List.drop 16 nonce) = List.drop 16 nonce := List.take_of_length_le (by simp)
  have htk2 : List.take 8 (List.drop 16 nonce) = List.drop 16 nonce := List.take_of_length_le (by rw [List.length_drop]; omega)
  have r3 : ByteArray.mk #[0, 0, 0, 0] ++ ByteArray.mk (List.drop 16 nonce).toArray = ⟨([0, 0, 0, 0] ++ List.drop 16 nonce).toArray⟩ := rule_app [0, 0, 0, 0] (List.drop 16 nonce)
  obtain ⟨O, hO⟩ : ∃ O, O = [0, 0, 0, 0] ++ List.drop 16 nonce := ⟨_, rfl⟩
  rw [← hO] at r3 C
  have l4 : (ByteArray.mk #[0, 0, 0, 0]).size = 4 := rfl
  have k1 : 4 + (nonce.length - 16) ≤ 9223372036854775807 := by omega
  clear hO r1
  unfold S Blocked at *
  go_enter Try.func51, Try.ntmps51
  go_wp2_with fail
  refine (A1 _).mono ?_
  rintro e w1 ⟨rfl, hg1⟩
  unfold S
  go_wp2_with fail
  refine (C _).mono ?_
  rintro e w2 ⟨rfl, hg2⟩
  go_wp2_with fail
  go_ret2
  exact ⟨rfl, grow_trans hg1 hg2⟩

theorem code_eLong (w : World) (key nonce more text a : List UInt8) (n : Int) (hk : key.length = 32) (hn : nonce.length = 24)
    (C : ∀ W : World, Calls Try.prog 52 #[S (subL key (nonce.take 16)), S ([0, 0, 0, 0] ++ nonce.drop 16), S more, S text] W (Grown (.tuple #[S a, .int .i64 n]) W)) :
    Calls Try.prog 36 #[S key, S nonce, S more, S text] w (Grown (.tuple #[S a, .int .i64 n]) w) := by
  have B := fun W : World => code_elong_seal W key nonce more text a n hk hn C
  clear C
  unfold S at *
  go_enter Try.func36, Try.ntmps36
  go_wp2_with fail
  refine (B _).mono ?_
  rintro e w1 ⟨rfl, hg1⟩
  go_wp2_with fail
  go_ret2
  exact ⟨rfl, hg1⟩

set_option maxHeartbeats 1000000 in
theorem code_elong_open (w : World) (key nonce more text a : List UInt8) (n : Int) (hk : key.length = 32) (hn : nonce.length = 24)
    (C : ∀ W : World, Calls Try.prog 53 #[S (subL key (nonce.take 16)), S ([0, 0, 0, 0] ++ nonce.drop 16), S more, S text] W (Grown (.tuple #[S a, .int .i64 n]) W)) :
    Calls Try.prog 51 #[S key, S nonce, S more, S text, .func (.func 53) #[] #[]] w (Grown (.tuple #[S a, .int .i64 n]) w) := by
  have A1 : ∀ W : World, Calls Try.prog 63 #[S key, S (nonce.take 16)] W (Blocked (subL key (nonce.take 16)) W) := fun W => code_sub W key _ hk (by rw [List.length_take]; omega)
  generalize subL key (nonce.take 16) = K at *
  have q1 : ((key.length : Int) != 32) = false := by simp; omega
  have q2 : ((nonce.length : Int) != 24) = false := by simp; omega
  have r1 := rule_app
  have r2 := rule_ext
  have b1 : (16 : Int) ≤ (nonce.length : Int) := by omega
  have b2 : 16 ≤ nonce.length := by omega
  have htk : List.take (nonce.length - 16) (List.drop 16 nonce) = List.drop 16 nonce := List.take_of_length_le (by simp)
  have htk2 : List.take 8 (List.drop 16 nonce) = List.drop 16 nonce := List.take_of_length_le (by rw [List.length_drop]; omega)
  have r3 : ByteArray.mk #[0, 0, 0, 0] ++ ByteArray.mk (List.drop 16 nonce).toArray = ⟨([0, 0, 0, 0] ++ List.drop 16 nonce).toArray⟩ := rule_app [0, 0, 0, 0] (List.drop 16 nonce)
  obtain ⟨O, hO⟩ : ∃ O, O = [0, 0, 0, 0] ++ List.drop 16 nonce := ⟨_, rfl⟩
  rw [← hO] at r3 C
  have l4 : (ByteArray.mk #[0, 0, 0, 0]).size = 4 := rfl
  have k1 : 4 + (nonce.length - 16) ≤ 9223372036854775807 := by omega
  clear hO r1
  unfold S Blocked at *
  go_enter Try.func51, Try.ntmps51
  go_wp2_with fail
  refine (A1 _).mono ?_
  rintro e w1 ⟨rfl, hg1⟩
  unfold S
  go_wp2_with fail
  refine (C _).mono ?_
  rintro e w2 ⟨rfl, hg2⟩
  go_wp2_with fail
  go_ret2
  exact ⟨rfl, grow_trans hg1 hg2⟩

theorem code_eUnlong (w : World) (key nonce more text a : List UInt8) (n : Int) (hk : key.length = 32) (hn : nonce.length = 24)
    (C : ∀ W : World, Calls Try.prog 53 #[S (subL key (nonce.take 16)), S ([0, 0, 0, 0] ++ nonce.drop 16), S more, S text] W (Grown (.tuple #[S a, .int .i64 n]) W)) :
    Calls Try.prog 40 #[S key, S nonce, S more, S text] w (Grown (.tuple #[S a, .int .i64 n]) w) := by
  have B := fun W : World => code_elong_open W key nonce more text a n hk hn C
  clear C
  unfold S at *
  go_enter Try.func40, Try.ntmps40
  go_wp2_with fail
  refine (B _).mono ?_
  rintro e w1 ⟨rfl, hg1⟩
  go_wp2_with fail
  go_ret2
  exact ⟨rfl, hg1⟩

end Go.Proofs.Ytdakmkbcepccbaa
