/- SHA-256: a number mixed. -/
import Derived.Test.YtbkgfpebffmffaaShaPlain
namespace Go.Proofs.Ytbkgfpebffmffaa
open Go.RowKit
set_option linter.unusedVariables false

theorem div_lt32 {x : Nat} (hx : x < 4294967296) (c : Nat) : x / 2 ^ c < 4294967296 := Nat.lt_of_le_of_lt (Nat.div_le_self _ _) hx
theorem mixS_lt {x : Nat} (hx : x < 4294967296) (a b c : Nat) : mixS x a b c < 4294967296 := xor32_lt (xor32_lt (rotl32_lt hx) (rotl32_lt hx)) (div_lt32 hx c)
theorem mixR_lt {x : Nat} (hx : x < 4294967296) (a b c : Nat) : mixR x a b c < 4294967296 := xor32_lt (xor32_lt (rotl32_lt hx) (rotl32_lt hx)) (rotl32_lt hx)

set_option maxHeartbeats 1000000 in
theorem code_mixed_down (w : World) (x : Nat) (hx : x < 4294967296) (A B : Int) (sa sb c : Nat) (hA : bits .and .u64 (IntKind.u64.wrap (-A)) 31 = (sa : Int)) (hB : bits .and .u64 (IntKind.u64.wrap (-B)) 31 = (sb : Int))
    (a1 : 0 < sa) (a2 : sa < 32) (b1 : 0 < sb) (b2 : sb < 32) (c1 : 0 < c) (c2 : c < 32) (hC : bits .and .u64 (IntKind.u64.wrap (c : Int)) 31 = (c : Int)) (A1 : -64 ≤ A) (A2 : A ≤ 64) (B1 : -64 ≤ B) (B2 : B ≤ 64) :
    Calls Try.prog 54 #[.int .u32 (x : Int), .int .i64 A, .int .i64 B, .int .i64 (c : Int)] w fun e w' => e = .returned (.int .u32 (((rotl32 x sa ^^^ rotl32 x sb) ^^^ x / 2 ^ c : Nat) : Int)) ∧ w = w' := by
  have RC : ∀ W : World, Calls Try.prog 52 #[.int .u32 (x : Int), .int .i64 (c : Int)] W fun e w' => e = .returned (.int .u32 (rotl32 x c : Nat)) ∧ W = w' := fun W => rot32_any x c _ W hx hC c1 c2
  have RA : ∀ W : World, Calls Try.prog 52 #[.int .u32 (x : Int), .int .i64 (-A)] W fun e w' => e = .returned (.int .u32 (rotl32 x sa : Nat)) ∧ W = w' := fun W => rot32_any x sa _ W hx hA a1 a2
  have RB : ∀ W : World, Calls Try.prog 52 #[.int .u32 (x : Int), .int .i64 (-B)] W fun e w' => e = .returned (.int .u32 (rotl32 x sb : Nat)) ∧ W = w' := fun W => rot32_any x sb _ W hx hB b1 b2
  have l1 := rotl32_lt (s := sa) hx
  have l2 := rotl32_lt (s := sb) hx
  have l3 := div_lt32 hx c
  have hpos : decide ((0 : Int) < (c : Int)) = true := by simp; omega
  have hc0 : (0 : Int) ≤ (c : Int) := by omega
  have hc9 : (c : Int) < 32 := by omega
  clear hA hB hC
  go_enter Try.func54, Try.ntmps54
  go_wp2_with fail
  (with_reducible refine (RC _).mono ?_)
  rintro e w1 ⟨rfl, rfl⟩
  go_wp2_with fail
  (with_reducible refine (RA _).mono ?_)
  rintro e w1 ⟨rfl, rfl⟩
  go_wp2_with fail
  (with_reducible refine (RB _).mono ?_)
  rintro e w1 ⟨rfl, rfl⟩
  go_wp2_with fail
  go_ret
  refine ⟨ret_int ?_, rfl⟩
  rw [u32_xor_nat _ _ l1 l2, show ((x : Int) / 2 ^ c) = ((x / 2 ^ c : Nat) : Int) from by simp, u32_xor_nat _ _ (xor32_lt l1 l2) l3]

set_option maxHeartbeats 1000000 in
theorem code_mixed_turn (w : World) (x : Nat) (hx : x < 4294967296) (A B C : Int) (sa sb sc : Nat) (hA : bits .and .u64 (IntKind.u64.wrap (-A)) 31 = (sa : Int)) (hB : bits .and .u64 (IntKind.u64.wrap (-B)) 31 = (sb : Int)) (hC : bits .and .u64 (IntKind.u64.wrap C) 31 = (sc : Int))
    (a1 : 0 < sa) (a2 : sa < 32) (b1 : 0 < sb) (b2 : sb < 32) (c1 : 0 < sc) (c2 : sc < 32) (A1 : -64 ≤ A) (A2 : A ≤ 64) (B1 : -64 ≤ B) (B2 : B ≤ 64) (C1 : C < 0) :
    Calls Try.prog 54 #[.int .u32 (x : Int), .int .i64 A, .int .i64 B, .int .i64 C] w fun e w' => e = .returned (.int .u32 (((rotl32 x sa ^^^ rotl32 x sb) ^^^ rotl32 x sc : Nat) : Int)) ∧ w = w' := by
  have RC : ∀ W : World, Calls Try.prog 52 #[.int .u32 (x : Int), .int .i64 C] W fun e w' => e = .returned (.int .u32 (rotl32 x sc : Nat)) ∧ W = w' := fun W => rot32_any x sc _ W hx hC c1 c2
  have RA : ∀ W : World, Calls Try.prog 52 #[.int .u32 (x : Int), .int .i64 (-A)] W fun e w' => e = .returned (.int .u32 (rotl32 x sa : Nat)) ∧ W = w' := fun W => rot32_any x sa _ W hx hA a1 a2
  have RB : ∀ W : World, Calls Try.prog 52 #[.int .u32 (x : Int), .int .i64 (-B)] W fun e w' => e = .returned (.int .u32 (rotl32 x sb : Nat)) ∧ W = w' := fun W => rot32_any x sb _ W hx hB b1 b2
  have l1 := rotl32_lt (s := sa) hx
  have l2 := rotl32_lt (s := sb) hx
  have l3 := rotl32_lt (s := sc) hx
  have hpos : decide ((0 : Int) < C) = false := by simp; omega
  clear hA hB hC
  go_enter Try.func54, Try.ntmps54
  go_wp2_with fail
  (with_reducible refine (RC _).mono ?_)
  rintro e w1 ⟨rfl, rfl⟩
  go_wp2_with fail
  (with_reducible refine (RA _).mono ?_)
  rintro e w1 ⟨rfl, rfl⟩
  go_wp2_with fail
  (with_reducible refine (RB _).mono ?_)
  rintro e w1 ⟨rfl, rfl⟩
  go_wp2_with fail
  go_ret
  refine ⟨ret_int ?_, rfl⟩
  rw [u32_xor_nat _ _ l1 l2, u32_xor_nat _ _ (xor32_lt l1 l2) l3]

def Said32 (n : Nat) (w : World) (e : Ending) (w' : World) : Prop := e = .returned (.int .u32 (n : Int)) ∧ w = w'
theorem mix_s0 (w : World) (x : Nat) (hx : x < 4294967296) : Calls Try.prog 54 #[.int .u32 (x : Int), .int .i64 7, .int .i64 18, .int .i64 3] w (Said32 (mixS x 7 18 3) w) :=
  code_mixed_down w x hx 7 18 25 14 3 (by kernel_rfl) (by kernel_rfl) (by omega) (by omega) (by omega) (by omega) (by omega) (by omega) (by kernel_rfl) (by omega) (by omega) (by omega) (by omega)
theorem mix_s1 (w : World) (x : Nat) (hx : x < 4294967296) : Calls Try.prog 54 #[.int .u32 (x : Int), .int .i64 17, .int .i64 19, .int .i64 10] w (Said32 (mixS x 17 19 10) w) :=
  code_mixed_down w x hx 17 19 15 13 10 (by kernel_rfl) (by kernel_rfl) (by omega) (by omega) (by omega) (by omega) (by omega) (by omega) (by kernel_rfl) (by omega) (by omega) (by omega) (by omega)
theorem mix_r1 (w : World) (x : Nat) (hx : x < 4294967296) : Calls Try.prog 54 #[.int .u32 (x : Int), .int .i64 6, .int .i64 11, .int .i64 (-25)] w (Said32 (mixR x 6 11 25) w) :=
  code_mixed_turn w x hx 6 11 (-25) 26 21 7 (by kernel_rfl) (by kernel_rfl) (by kernel_rfl) (by omega) (by omega) (by omega) (by omega) (by omega) (by omega) (by omega) (by omega) (by omega) (by omega) (by omega)
theorem mix_r2 (w : World) (x : Nat) (hx : x < 4294967296) : Calls Try.prog 54 #[.int .u32 (x : Int), .int .i64 2, .int .i64 13, .int .i64 (-22)] w (Said32 (mixR x 2 13 22) w) :=
  code_mixed_turn w x hx 2 13 (-22) 30 19 10 (by kernel_rfl) (by kernel_rfl) (by kernel_rfl) (by omega) (by omega) (by omega) (by omega) (by omega) (by omega) (by omega) (by omega) (by omega) (by omega) (by omega)

end Go.Proofs.Ytbkgfpebffmffaa
