/- Cookies: by a key; made. -/
import Derived.Test.YtdakmkbcepccbaaBlSum
import Derived.Test.YtdakmkbcepccbaaLift
import Derived.Test.YtdakmkbcepccbaaWire
namespace Go.Proofs.Ytdakmkbcepccbaa
open Go.RowKit
set_option linter.unusedVariables false

theorem code_cby (w : World) (key s : List UInt8) (n : Nat) (hk : key.length ≤ 32) (m1 : 1 ≤ n) (m2 : n ≤ 32) (hs : s.length ≤ 9223372036854775000) :
    Calls Try.prog 32 #[S key, S s, .int .i64 (n : Int)] w (Grown (S (blL key s n)) w) := by
  have A := fun W : World => code_blsum W key s n hk m1 m2 hs
  generalize blL key s n = V at *
  unfold S at *
  go_enter Try.func32, Try.ntmps32
  go_wp2_with fail
  (with_reducible refine (A _).mono ?_)
  rintro e x ⟨rfl, hg⟩
  go_wp2_with fail
  go_ret
  exact ⟨rfl, hg⟩

def ckText (from_ now : Nat) : List UInt8 := bigB (now / 120) 8 ++ bigB from_ 4

set_option maxHeartbeats 1000000 in
theorem code_cmake (w : World) (secret : List UInt8) (f now : Nat) (hk : secret.length = 32) (hf : f < 4294967296) (hn : now ≤ 1099511627776) :
    Calls Try.prog 18 #[S secret, .int .u32 (f : Int), .int .i64 (now : Int)] w (Grown (.tuple #[S (blL secret (ckText f now) 16), .int .i64 0]) w) := by
  obtain ⟨m, hm⟩ : ∃ m, m = now / 120 := ⟨_, rfl⟩
  have AL1 : ∀ W : World, Calls Try.prog 25 #[.slice none 0 0, .int .u64 (m : Int), .int .i64 8] W (OwnBytes W W.heap.size (bigB m 8)) := fun W => by
    have := wire_appendBig W W.heap.size (.slice none 0 0) [] m 8 (brow_nil _ _) (by omega) (by omega) (by omega) (by simp) (Nat.le_refl _)
    exact this
  have AL2 : ∀ (W : World) (b : Nat) (x : Value), brow W b x (bigB m 8) → b ≤ W.heap.size → Calls Try.prog 25 #[x, .int .u64 (f : Int), .int .i64 4] W (OwnBytes W b (ckText f now)) := fun W b x k1 k2 => by
    have := wire_appendBig W b x (bigB m 8) f 4 k1 (by omega) (by omega) (by omega) (by rw [bigB_length]; omega) k2
    unfold ckText
    rw [← hm]
    exact this
  have lt : (ckText f now).length = 12 := by unfold ckText; rw [List.length_append, bigB_length, bigB_length]
  have AB : ∀ W : World, Calls Try.prog 32 #[S secret, S (ckText f now), .int .i64 16] W (Grown (S (blL secret (ckText f now) 16)) W) := fun W => code_cby W secret (ckText f now) 16 (by omega) (by omega) (by omega) (by omega)
  generalize ckText f now = T at *
  generalize blL secret T 16 = V at *
  generalize bigB m 8 = L at *
  have q1 : ((secret.length : Int) != 32) = false := by rw [hk]; rfl
  have q2 : decide ((now : Int) < 0) = false := by simp
  have q3 : decide ((1099511627776 : Int) < (now : Int)) = false := by simp; omega
  have q4 : Int.tdiv (now : Int) 120 = (m : Int) := by rw [Int.tdiv_eq_ediv_of_nonneg (by omega)]; omega
  have q7 : (now : Int) / 120 = (m : Int) := by omega
  have q5 : IntKind.u64.wrap (f : Int) = (f : Int) := IntWalk.u64_in _ (by omega)
  have q6 : IntKind.u64.wrap (m : Int) = (m : Int) := IntWalk.u64_in _ (by omega)
  unfold S at *
  clear hm lt
  go_enter Try.func18, Try.ntmps18
  go_wp2_with fail
  (with_reducible refine (AL1 _).mono ?_)
  rintro e x ⟨v, rfl, hb, hbl⟩
  have A3 := AL2 x w.heap.size v hb hbl.size
  have HG := Lib.hid (grow_of_below (r := none) hbl)
  clear hb AL1 AL2
  go_wp2_with fail
  (with_reducible refine A3.mono ?_)
  rintro e x2 ⟨v2, rfl, hb2, hbl2⟩
  have hcv := conv_brow hb2
  unfold S at hcv
  have HG2 := Lib.hid (grow_of_below (r := none) (hbl.trans hbl2))
  clear hb2 hbl hbl2 A3 HG
  go_wp2_with fail
  (with_reducible refine (AB _).mono ?_)
  rintro e x3 ⟨rfl, hg3⟩
  go_wp2_with fail
  go_ret2
  exact ⟨rfl, grow_trans HG2.out hg3⟩

theorem code_cmake_bad (w : World) (secret : List UInt8) (f : Nat) (hk : secret.length = 32) :
    Calls Try.prog 18 #[S secret, .int .u32 (f : Int), .int .i64 (-1)] w fun e w' => e = .returned (.tuple #[.string ⟨#[]⟩, .int .i64 1]) ∧ w = w' := by
  have q1 : ((secret.length : Int) != 32) = false := by rw [hk]; rfl
  unfold S
  go_enter Try.func18, Try.ntmps18
  go_wp2_with fail
  go_ret2
  exact ⟨rfl, rfl⟩

end Go.Proofs.Ytdakmkbcepccbaa
