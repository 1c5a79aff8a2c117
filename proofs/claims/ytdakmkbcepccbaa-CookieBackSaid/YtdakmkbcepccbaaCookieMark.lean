/- Texts that are marked, and checked. -/
import Derived.Test.YtdakmkbcepccbaaCookie
namespace Go.Proofs.Ytdakmkbcepccbaa
open Go.RowKit
set_option linter.unusedVariables false

def markB : List UInt8 := [109, 97, 114, 107, 45, 45, 45, 45]
/-- The first mark of a text. -/
def fMark (pub text : List UInt8) : List UInt8 := blL (blL [] (markB ++ pub) 32) text 16
theorem fMark_length (pub text : List UInt8) : (fMark pub text).length = 16 := blL_length _ _ _ (by omega)
def markedL (pub text : List UInt8) : List UInt8 := text ++ fMark pub text

theorem code_ckfirst (w : World) (pub text : List UInt8) (hp : pub.length = 32) (ht : text.length ≤ 140737488355000) :
    Calls Try.prog 34 #[S pub, S text] w (Grown (S (fMark pub text)) w) := by
  have A1 : ∀ W : World, Calls Try.prog 32 #[S [], S (markB ++ pub), .int .i64 32] W (Grown (S (blL [] (markB ++ pub) 32)) W) := fun W => code_cby W [] (markB ++ pub) 32 (by simp) (by omega) (by omega) (by rw [List.length_append, hp]; decide)
  have lk := blL_length [] (markB ++ pub) 32 (by omega)
  have A2 : ∀ W : World, Calls Try.prog 32 #[S (blL [] (markB ++ pub) 32), S text, .int .i64 16] W (Grown (S (fMark pub text)) W) := fun W => code_cby W _ text 16 (by omega) (by omega) (by omega) (by omega)
  generalize fMark pub text = V at *
  generalize blL [] (markB ++ pub) 32 = K at *
  have r1 := rule_app
  have k1 : [109, 97, 114, 107, 45, 45, 45, (45 : UInt8)].length + pub.length ≤ 9223372036854775807 := by rw [hp]; decide
  have k2 : 8 + pub.length ≤ 9223372036854775807 := by omega
  have em : markB ++ pub = 109 :: 97 :: 114 :: 107 :: 45 :: 45 :: 45 :: 45 :: pub := rfl
  rw [em] at A1
  clear em
  unfold S at *
  go_enter Try.func34, Try.ntmps34
  go_wp2_with fail
  (with_reducible refine (A1 _).mono ?_)
  rintro e x1 ⟨rfl, hg1⟩
  go_wp2_with fail
  (with_reducible refine (A2 _).mono ?_)
  rintro e x2 ⟨rfl, hg2⟩
  go_wp2_with fail
  go_ret
  exact ⟨rfl, grow_trans hg1 hg2⟩

theorem code_ckcheck (w : World) (pub c : List UInt8) (hp : pub.length = 32) (hc : c = [] ∨ c.length = 16) :
    Calls Try.prog 33 #[S pub, S c] w fun e w' => e = .returned (.int .i64 0) ∧ w = w' := by
  have q1 : ((pub.length : Int) != 32) = false := by rw [hp]; rfl
  unfold S
  rcases hc with rfl | hc
  · go_enter Try.func33, Try.ntmps33
    go_wp2_with fail
    go_ret
    exact ⟨rfl, rfl⟩
  · have q2 : ((c.length : Int) != 16) = false := by rw [hc]; rfl
    have q3 : c.isEmpty = false := by rw [List.isEmpty_eq_false_iff]; intro e; rw [e] at hc; simp at hc
    have q4 : (!c.isEmpty) = true := by rw [q3]; rfl
    go_enter Try.func33, Try.ntmps33
    go_wp2_with fail
    go_ret
    exact ⟨rfl, rfl⟩

set_option maxHeartbeats 1000000 in
theorem code_mark_none (w : World) (pub text : List UInt8) (hp : pub.length = 32) (ht : text.length ≤ 140737488355000) :
    Calls Try.prog 19 #[S pub, S [], S text] w (Grown (.tuple #[S (markedL pub text ++ zerosL 16), .int .i64 0]) w) := by
  have AC := fun W : World => code_ckcheck W pub [] hp (Or.inl rfl)
  have A1 := fun W : World => code_ckfirst W pub text hp ht
  have AR : ∀ W : World, Calls Try.prog 35 #[.string ⟨#[0]⟩, .int .i64 16] W (Grown (S (zerosL 16)) W) := fun W => repeat_zero W 16 (by omega)
  have lf := fMark_length pub text
  have lz := zerosL_length 16
  unfold markedL
  generalize fMark pub text = F at *
  generalize zerosL 16 = Z at *
  have k1 : text.length + F.length ≤ 9223372036854775807 := by omega
  have k2 : (text ++ F).length + Z.length ≤ 9223372036854775807 := by rw [List.length_append]; omega
  have k3 : text.length + F.length + Z.length ≤ 9223372036854775807 := by omega
  have r1 := rule_app
  unfold S at *
  go_enter Try.func19, Try.ntmps19
  go_wp2_with fail
  (with_reducible refine (AC _).mono ?_)
  rintro e x ⟨rfl, rfl⟩
  go_wp2_with fail
  (with_reducible refine (A1 _).mono ?_)
  rintro e x1 ⟨rfl, hg1⟩
  go_wp2_with fail
  (with_reducible refine (AR _).mono ?_)
  rintro e x2 ⟨rfl, hg2⟩
  go_wp2_with fail
  go_ret2
  exact ⟨by rw [List.append_assoc]; rfl, grow_trans hg1 hg2⟩

set_option maxHeartbeats 1000000 in
theorem code_mark_some (w : World) (pub c text : List UInt8) (hp : pub.length = 32) (hc : c.length = 16) (ht : text.length ≤ 140737488355000) :
    Calls Try.prog 19 #[S pub, S c, S text] w (Grown (.tuple #[S (markedL pub text ++ blL c (markedL pub text) 16), .int .i64 0]) w) := by
  have AC := fun W : World => code_ckcheck W pub c hp (Or.inr hc)
  have A1 := fun W : World => code_ckfirst W pub text hp ht
  have lf := fMark_length pub text
  unfold markedL
  generalize fMark pub text = F at *
  have AB : ∀ W : World, Calls Try.prog 32 #[S c, S (text ++ F), .int .i64 16] W (Grown (S (blL c (text ++ F) 16)) W) := fun W => code_cby W c (text ++ F) 16 (by omega) (by omega) (by omega) (by rw [List.length_append]; omega)
  have lz := blL_length c (text ++ F) 16 (by omega)
  generalize blL c (text ++ F) 16 = Z at *
  have k1 : text.length + F.length ≤ 9223372036854775807 := by omega
  have k2 : (text ++ F).length + Z.length ≤ 9223372036854775807 := by rw [List.length_append]; omega
  have k3 : text.length + F.length + Z.length ≤ 9223372036854775807 := by omega
  have q3 : c.isEmpty = false := by rw [List.isEmpty_eq_false_iff]; intro e; rw [e] at hc; simp at hc
  have q5 : (c == []) = false := by rw [beq_eq_false_iff_ne]; intro e; rw [e] at hc; simp at hc
  have r1 := rule_app
  unfold S at *
  go_enter Try.func19, Try.ntmps19
  go_wp2_with fail
  (with_reducible refine (AC _).mono ?_)
  rintro e x ⟨rfl, rfl⟩
  go_wp2_with fail
  (with_reducible refine (A1 _).mono ?_)
  rintro e x1 ⟨rfl, hg1⟩
  go_wp2_with fail
  (with_reducible refine (AB _).mono ?_)
  rintro e x2 ⟨rfl, hg2⟩
  go_wp2_with fail
  go_ret2
  exact ⟨by rw [List.append_assoc]; rfl, grow_trans hg1 hg2⟩

set_option maxHeartbeats 1000000 in
theorem code_verify_none (w : World) (pub text R : List UInt8) (hp : pub.length = 32) (hR : R.length = 16) (ht : text.length ≤ 140737488355000) :
    Calls Try.prog 20 #[S pub, S [], S (markedL pub text ++ R)] w (Grown (.tuple #[S text, .bool false, .int .i64 0]) w) := by
  have AC := fun W : World => code_ckcheck W pub [] hp (Or.inl rfl)
  have A1 := fun W : World => code_ckfirst W pub text hp ht
  have lf := fMark_length pub text
  unfold markedL
  generalize fMark pub text = F at *
  obtain ⟨M, hM⟩ : ∃ M, M = text ++ F := ⟨_, rfl⟩
  obtain ⟨U, hU⟩ : ∃ U, U = M ++ R := ⟨_, rfl⟩
  rw [← hM, ← hU]
  have lM : M.length = text.length + 16 := by rw [hM, List.length_append, lf]
  have lU : U.length = text.length + 32 := by rw [hU, List.length_append, hR, lM]
  have tM : U.take M.length = M := by rw [hU, List.take_left]
  have tU : U.take text.length = text := by rw [hU, hM, List.append_assoc, List.take_left]
  have n1 : ¬ ((U.length : Int) < 32) := by omega
  have e1 : ((U.length : Int) - 32) = (text.length : Int) := by omega
  have e2 : ((U.length : Int) - 16) = (M.length : Int) := by omega
  have e3 : (text.length : Int) ≤ (U.length : Int) := by omega
  have e4 : (M.length : Int) ≤ (U.length : Int) := by omega
  have e5 : (0 : Int) ≤ (M.length : Int) := by omega
  have e6 : (0 : Int) ≤ (text.length : Int) := by omega
  have k1 : text.length + F.length ≤ 9223372036854775807 := by omega
  have q : (text ++ F == M) = true := beq_iff_eq.mpr hM.symm
  have r1 := rule_app
  have r2 := rule_ext
  clear hU hM hp hR lf lM lU
  unfold S at *
  go_enter Try.func20, Try.ntmps20
  go_wp2_with fail
  (with_reducible refine (AC _).mono ?_)
  rintro e x ⟨rfl, rfl⟩
  go_wp2_with fail
  (with_reducible refine (A1 _).mono ?_)
  rintro e x1 ⟨rfl, hg1⟩
  go_wp2_with fail
  refine bodyPost_ret (v := .tuple #[.string ⟨text.toArray⟩, .bool false, .int .i64 0]) (by simp [results, Try.results20, go_sem]) rfl ?_
  exact ⟨rfl, hg1⟩

set_option maxHeartbeats 1000000 in
theorem code_verify_some (w : World) (pub c text : List UInt8) (hp : pub.length = 32) (hc : c.length = 16) (ht : text.length ≤ 140737488355000) :
    Calls Try.prog 20 #[S pub, S c, S (markedL pub text ++ blL c (markedL pub text) 16)] w (Grown (.tuple #[S text, .bool true, .int .i64 0]) w) := by
  have AC := fun W : World => code_ckcheck W pub c hp (Or.inr hc)
  have A1 := fun W : World => code_ckfirst W pub text hp ht
  have lf := fMark_length pub text
  unfold markedL
  generalize fMark pub text = F at *
  obtain ⟨M, hM⟩ : ∃ M, M = text ++ F := ⟨_, rfl⟩
  rw [← hM]
  have lM : M.length = text.length + 16 := by rw [hM, List.length_append, lf]
  have AB : ∀ W : World, Calls Try.prog 32 #[S c, S M, .int .i64 16] W (Grown (S (blL c M 16)) W) := fun W => code_cby W c M 16 (by omega) (by omega) (by omega) (by omega)
  have hR := blL_length c M 16 (by omega)
  generalize blL c M 16 = R at *
  obtain ⟨U, hU⟩ : ∃ U, U = M ++ R := ⟨_, rfl⟩
  rw [← hU]
  have lU : U.length = text.length + 32 := by rw [hU, List.length_append, hR, lM]
  have tM : U.take M.length = M := by rw [hU, List.take_left]
  have tU : U.take text.length = text := by rw [hU, hM, List.append_assoc, List.take_left]
  have n1 : ¬ ((U.length : Int) < 32) := by omega
  have e1 : ((U.length : Int) - 32) = (text.length : Int) := by omega
  have e2 : ((U.length : Int) - 16) = (M.length : Int) := by omega
  have e3 : (text.length : Int) ≤ (U.length : Int) := by omega
  have e4 : (M.length : Int) ≤ (U.length : Int) := by omega
  have e5 : (0 : Int) ≤ (M.length : Int) := by omega
  have e6 : (0 : Int) ≤ (text.length : Int) := by omega
  have k1 : text.length + F.length ≤ 9223372036854775807 := by omega
  have k2 : M.length + R.length ≤ 9223372036854775807 := by omega
  have q : (text ++ F == M) = true := beq_iff_eq.mpr hM.symm
  have qR : (M ++ R == U) = true := beq_iff_eq.mpr hU.symm
  have q3 : c.isEmpty = false := by rw [List.isEmpty_eq_false_iff]; intro e; rw [e] at hc; simp at hc
  have q5 : (c == []) = false := by rw [beq_eq_false_iff_ne]; intro e; rw [e] at hc; simp at hc
  have r1 := rule_app
  have r2 := rule_ext
  clear hU hM hp hR lf lM lU hc
  unfold S at *
  go_enter Try.func20, Try.ntmps20
  go_wp2_with fail
  (with_reducible refine (AC _).mono ?_)
  rintro e x ⟨rfl, rfl⟩
  go_wp2_with fail
  (with_reducible refine (A1 _).mono ?_)
  rintro e x1 ⟨rfl, hg1⟩
  go_wp2_with fail
  (with_reducible refine (AB _).mono ?_)
  rintro e x2 ⟨rfl, hg2⟩
  go_wp2_with fail
  refine bodyPost_ret (v := .tuple #[.string ⟨text.toArray⟩, .bool true, .int .i64 0]) (by simp [results, Try.results20, go_sem]) rfl ?_
  exact ⟨rfl, grow_trans hg1 hg2⟩

end Go.Proofs.Ytdakmkbcepccbaa
