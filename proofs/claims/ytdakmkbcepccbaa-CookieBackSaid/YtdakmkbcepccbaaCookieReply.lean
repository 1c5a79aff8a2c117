/- Cookies: replied, and accepted. -/
import Derived.Test.YtdakmkbcepccbaaCookieMark
import Derived.Test.YtdakmkbcepccbaaLong
import Derived.Test.YtdakmkbcepccbaaCookieHead
namespace Go.Proofs.Ytdakmkbcepccbaa
open Go.RowKit
set_option linter.unusedVariables false

def cookB : List UInt8 := [99, 111, 111, 107, 105, 101, 45, 45]
/-- The key of a cookie. -/
def kOf (pub : List UInt8) : List UInt8 := blL [] (cookB ++ pub) 32
theorem kOf_length (pub : List UInt8) : (kOf pub).length = 32 := blL_length _ _ _ (by omega)

theorem code_ckkey (w : World) (pub : List UInt8) (hp : pub.length = 32) : Calls Try.prog 37 #[S pub] w (Grown (S (kOf pub)) w) := by
  have A1 : ∀ W : World, Calls Try.prog 32 #[S [], S (cookB ++ pub), .int .i64 32] W (Grown (S (kOf pub)) W) := fun W => code_cby W [] (cookB ++ pub) 32 (by simp) (by omega) (by omega) (by rw [List.length_append, hp]; decide)
  generalize kOf pub = K at *
  have r1 := rule_app
  have k2 : 8 + pub.length ≤ 9223372036854775807 := by omega
  have em : cookB ++ pub = 99 :: 111 :: 111 :: 107 :: 105 :: 101 :: 45 :: 45 :: pub := rfl
  rw [em] at A1
  clear em
  unfold S at *
  go_enter Try.func37, Try.ntmps37
  go_wp2_with fail
  (with_reducible refine (A1 _).mono ?_)
  rintro e x1 ⟨rfl, hg1⟩
  go_wp2_with fail
  go_ret
  exact ⟨rfl, hg1⟩

/-- The sealed cookie; the reply. -/
def cookS (pub nonce c l : List UInt8) : List UInt8 := sealL (subL (kOf pub) (nonce.take 16)) ([0, 0, 0, 0] ++ nonce.drop 16) (mOf l) c
theorem cookS_length (pub nonce c l : List UInt8) : (cookS pub nonce c l).length = c.length + 16 := sealL_length _ _ _ _
def replyL (pub nonce c l : List UInt8) : List UInt8 := hOf l ++ nonce ++ cookS pub nonce c l

set_option maxHeartbeats 1000000 in
theorem code_ckreply (w : World) (pub nonce c l : List UInt8) (hp : pub.length = 32) (hn : nonce.length = 24) (hc : c.length = 16) (h : 38 ≤ l.length) (hl : l.length ≤ 9223372036854775807) :
    Calls Try.prog 21 #[S pub, S nonce, S c, S l] w (Grown (.tuple #[S (replyL pub nonce c l), .int .i64 0]) w) := by
  have A1 := fun W : World => code_ckkey W pub hp
  have A2 := fun W : World => code_ckmarkof W l (by omega) hl
  have sk : (subL (kOf pub) (nonce.take 16)).length = 32 := subL_length _ _
  have sn : ([0, 0, 0, 0] ++ nonce.drop 16).length = 12 := by rw [List.length_append, List.length_drop, hn]; rfl
  have lm := mOf_length l (by omega)
  have A3 : ∀ W : World, Calls Try.prog 36 #[S (kOf pub), S nonce, S (mOf l), S c] W (Grown (.tuple #[S (cookS pub nonce c l), .int .i64 0]) W) := fun W => code_eLong W (kOf pub) nonce (mOf l) c _ 0 (kOf_length _) hn fun W => code_seal W _ _ (mOf l) c sk sn (by omega) (by omega)
  have A4 := fun W : World => code_ckhead W l (by omega) hl
  have lh := hOf_length l (by omega)
  have ls := cookS_length pub nonce c l
  unfold replyL
  generalize cookS pub nonce c l = A at *
  generalize kOf pub = K at *
  generalize mOf l = M at *
  generalize hOf l = H at *
  have q1 : ((pub.length : Int) != 32) = false := by rw [hp]; rfl
  have q2 : ((nonce.length : Int) != 24) = false := by rw [hn]; rfl
  have q3 : ((c.length : Int) != 16) = false := by rw [hc]; rfl
  have q4 : ¬ ((l.length : Int) < 38) := by omega
  have k1 : H.length + nonce.length ≤ 9223372036854775807 := by omega
  have k2 : (H ++ nonce).length + A.length ≤ 9223372036854775807 := by rw [List.length_append]; omega
  have k3 : H.length + nonce.length + A.length ≤ 9223372036854775807 := by omega
  have r1 := rule_app
  clear hp hn hc sk sn lm lh ls
  unfold S at *
  go_enter Try.func21, Try.ntmps21
  go_wp2_with fail
  (with_reducible refine (A1 _).mono ?_)
  rintro e x1 ⟨rfl, hg1⟩
  go_wp2_with fail
  (with_reducible refine (A2 _).mono ?_)
  rintro e x2 ⟨rfl, rfl⟩
  go_wp2_with fail
  (with_reducible refine (A3 _).mono ?_)
  rintro e x3 ⟨rfl, hg3⟩
  go_wp2_with fail
  (with_reducible refine (A4 _).mono ?_)
  rintro e x4 ⟨rfl, hg4⟩
  go_wp2_with fail
  go_ret2
  exact ⟨by rw [List.append_assoc]; rfl, grow_trans (grow_trans hg1 hg3) hg4⟩

set_option maxHeartbeats 2000000 in
theorem code_ckaccept (w : World) (pub nonce c l : List UInt8) (hp : pub.length = 32) (hn : nonce.length = 24) (hc : c.length = 16) (h : 38 ≤ l.length) (hl : l.length ≤ 9223372036854775807) :
    Calls Try.prog 22 #[S pub, S l, S (replyL pub nonce c l)] w (Grown (.tuple #[S c, .int .i64 0]) w) := by
  have A1 := fun W : World => code_ckkey W pub hp
  have A2 := fun W : World => code_ckmarkof W l (by omega) hl
  have sk : (subL (kOf pub) (nonce.take 16)).length = 32 := subL_length _ _
  have sn : ([0, 0, 0, 0] ++ nonce.drop 16).length = 12 := by rw [List.length_append, List.length_drop, hn]; rfl
  have lm := mOf_length l (by omega)
  have A3 : ∀ W : World, Calls Try.prog 40 #[S (kOf pub), S nonce, S (mOf l), S (cookS pub nonce c l)] W (Grown (.tuple #[S c, .int .i64 0]) W) := fun W => code_eUnlong W (kOf pub) nonce (mOf l) _ c 0 (kOf_length _) hn fun W => by
    have := code_open W (subL (kOf pub) (nonce.take 16)) ([0, 0, 0, 0] ++ nonce.drop 16) (mOf l) (chxL (subL (kOf pub) (nonce.take 16)) ([0, 0, 0, 0] ++ nonce.drop 16) 1 c) sk sn (by omega) (by rw [chxL_length]; omega)
    rwa [chxL_twice _ _ 1 c (by omega)] at this
  have A4 := fun W : World => code_ckhead W l (by omega) hl
  have lh := hOf_length l (by omega)
  have ls := cookS_length pub nonce c l
  have hU : replyL pub nonce c l = hOf l ++ nonce ++ cookS pub nonce c l := rfl
  generalize replyL pub nonce c l = U at *
  generalize cookS pub nonce c l = A at *
  generalize kOf pub = K at *
  generalize mOf l = M at *
  generalize hOf l = H at *
  have lU : U.length = 62 := by rw [hU, List.length_append, List.length_append]; omega
  have t1 : U.take 6 = H := by rw [hU, List.append_assoc, ← lh, List.take_left]
  have d1 : U.drop 6 = nonce ++ A := by rw [hU, List.append_assoc, ← lh, List.drop_left]
  have t2 : (U.drop 6).take 24 = nonce := by rw [d1, ← hn, List.take_left]
  have d2 : U.drop 30 = A := by rw [show (30 : Nat) = 6 + 24 from rfl, ← List.drop_drop, d1, ← hn, List.drop_left]
  have t3 : (U.drop 30).take 32 = A := by rw [d2]; exact List.take_of_length_le (by omega)
  have q1 : ((pub.length : Int) != 32) = false := by rw [hp]; rfl
  have q4 : ¬ ((l.length : Int) < 38) := by omega
  have q5 : ¬ ((U.length : Int) < 62) := by omega
  have q6 : ¬ ((62 : Int) < (U.length : Int)) := by omega
  have k1 : (6 : Int) ≤ (U.length : Int) := by omega
  have k2 : (30 : Int) ≤ (U.length : Int) := by omega
  have k3 : U.length - 30 = 32 := by omega
  have r2 := rule_ext
  have z : (H != H) = false := by simp
  clear hp hn hc sk sn lm lh ls hU d1 d2
  unfold S at *
  go_enter Try.func22, Try.ntmps22
  go_wp2_with fail
  go_region_held3 (fun _ => True) (first | trivial) (first
    | (go_at_call 39; (with_reducible refine (A4 _).mono ?_); rintro e x1 ⟨rfl, hg1⟩))
  all_goals
    have HG1 := Lib.hid (grow_trans (grow_drew (grow_refl _ none)) hg1)
    clear hg1
    go_wp2_with fail
    go_region_held3 (fun _ => True) (first | trivial) (first
      | (go_at_call 37; (with_reducible refine (A1 _).mono ?_); rintro e y1 ⟨rfl, gy1⟩)
      | (go_at_call 38; (with_reducible refine (A2 _).mono ?_); rintro e y2 ⟨rfl, gy2⟩)
      | (go_at_call 40; (with_reducible refine (A3 _).mono ?_); rintro e y3 ⟨rfl, gy3⟩))
  all_goals
    go_wp2_with fail
    go_ret2
    subst gy2
    first
      | exact ⟨rfl, grow_trans (grow_trans HG1.out gy1) gy3⟩
      | exact ⟨rfl, grow_trans (grow_trans (grow_trans HG1.out (grow_drew (grow_refl _ none))) gy1) gy3⟩

end Go.Proofs.Ytdakmkbcepccbaa
