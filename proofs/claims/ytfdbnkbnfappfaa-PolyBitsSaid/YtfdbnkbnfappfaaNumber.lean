/- The statements' own helper: two numbers of sixteen bytes. -/
import Derived.Test.YtfdbnkbnfappfaaSized
import Derived.Test.YtfdbnkbnfappfaaLittle
namespace Go.Proofs.Ytfdbnkbnfappfaa
open Go.RowKit
set_option linter.unusedVariables false

theorem shl_byte (c : UInt8) (j : Nat) (hj : j < 8) : IntKind.u64.wrap (IntKind.u64.wrap (c.toNat : Int) * 2 ^ (8 * j)) = ((c.toNat * 256 ^ j : Nat) : Int) := by
  have hc := u8_lt c
  have h1 : ((c.toNat : Int)) * 2 ^ (8 * j) = ((c.toNat * 256 ^ j : Nat) : Int) := by rw [← pow256]; simp
  have h2 : (256 : Nat) ^ (j + 1) ≤ 256 ^ 8 := Nat.pow_le_pow_right (by omega) (by omega)
  have h3 : (256 : Nat) ^ 8 = 18446744073709551616 := by decide
  have h4 : c.toNat * 256 ^ j < 256 ^ (j + 1) := by
    rw [Nat.pow_succ, Nat.mul_comm]
    exact Nat.mul_lt_mul_of_pos_left hc (Nat.pow_pos (by omega))
  have h5 : IntKind.u64.wrap (c.toNat : Int) = (c.toNat : Int) := IntWalk.u64_in _ (by omega)
  rw [h5, h1, IntWalk.u64_in _ (by omega)]

theorem little_more (l : List UInt8) (j : Nat) (hj : j < 8) (hlj : j < l.length) :
    bits .or .u64 (leN (l.take j) : Int) (IntKind.u64.wrap (IntKind.u64.wrap (l[j].toNat : Int) * 2 ^ (8 * j))) = ((leN (l.take (j + 1)) : Nat) : Int) := by
  have hb : leN (l.take j) < 256 ^ j := by have := leN_lt (l.take j); rwa [List.length_take, Nat.min_eq_left (by omega)] at this
  rw [shl_byte _ _ hj, or_shl (leN (l.take j)) l[j].toNat j hb (u8_lt _) hj, List.take_succ_eq_append_getElem hlj, leN_snoc, List.length_take, Nat.min_eq_left (by omega)]

set_option maxHeartbeats 1000000 in
theorem code_number (w : World) (l : List UInt8) (hl : l.length = 16) :
    Calls Try.prog 26 #[S l] w fun e w' => e = .returned (.tuple #[.int .u64 (leN (l.take 8)), .int .u64 (leN ((l.drop 8).take 8))]) ∧ w = w' := by
  unfold S
  go_enter Try.func26, Try.ntmps26
  go_wp2_with fail
  go_loop [4, 5, 7] (fun va vb vi => ∃ j : Nat, j ≤ 8 ∧ vi = .int .i64 j ∧ va = .int .u64 (leN (l.take j)) ∧ vb = .int .u64 (leN ((l.drop 8).take j))) (fun _ _ vi => 8 - (intOf vi).toNat)
  case atStart => exact ⟨0, by omega, rfl, rfl, rfl⟩
  case round =>
    obtain ⟨j, hj, rfl, rfl, rfl⟩ := hrel
    by_cases hlt : j < 8
    · have E1 := Lib.hid (little_more l j hlt (by omega))
      have E2 := Lib.hid (little_more (l.drop 8) j hlt (by rw [List.length_drop]; omega))
      go_wp2_with fail
      go_round
      case rel =>
        refine ⟨j + 1, by omega, by go_num, ?_, ?_⟩
        · rw [← E1.out]; rfl
        · rw [← E2.out]
          have hd : ∀ h h', (List.drop 8 l)[j]'h = l[8 + j]'h' := fun h h' => List.getElem_drop ..
          rw [hd _ (by omega)]; rfl
      case measure => simp [intOf]; omega
    · obtain rfl : j = 8 := by omega
      go_wp2_with fail
      go_ret2
      exact ⟨rfl, rfl⟩

end Go.Proofs.Ytfdbnkbnfappfaa
