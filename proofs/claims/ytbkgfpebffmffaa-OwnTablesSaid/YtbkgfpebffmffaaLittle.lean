/- Numbers as bytes, the lowest first. -/
import Derived.Test.YtbkgfpebffmffaaBytes
namespace Go.Proofs.Ytbkgfpebffmffaa
open Go.RowKit
set_option linter.unusedVariables false

/-- The number of bytes, the lowest first. -/
def leN : List UInt8 → Nat
  | [] => 0
  | c :: l => c.toNat + 256 * leN l

theorem leN_snoc (l : List UInt8) (c : UInt8) : leN (l ++ [c]) = leN l + c.toNat * 256 ^ l.length := by
  induction l with
  | nil => simp [leN]
  | cons d l ih =>
    simp only [List.cons_append, leN, ih, List.length_cons, Nat.pow_succ]
    rw [Nat.mul_add, ← Nat.add_assoc, Nat.mul_left_comm, Nat.mul_comm 256 (256 ^ l.length)]

theorem leN_lt (l : List UInt8) : leN l < 256 ^ l.length := by
  induction l with
  | nil => simp [leN]
  | cons d l ih =>
    have := u8_lt d
    simp only [leN, List.length_cons, Nat.pow_succ]
    omega

theorem leN_lt8 (l : List UInt8) (h : l.length ≤ 8) : leN l < 18446744073709551616 :=
  Nat.lt_of_lt_of_le (leN_lt l) (Nat.pow_le_pow_right (by omega) h : 256 ^ l.length ≤ 256 ^ 8)

/-- Bytes of a number, the lowest first. -/
def leB (n : Nat) : Nat → List UInt8
  | 0 => []
  | k + 1 => UInt8.ofNat n :: leB (n / 256) k

theorem leB_length (n k : Nat) : (leB n k).length = k := by
  induction k generalizing n with
  | zero => rfl
  | succ k ih => simp [leB, ih]

theorem leB_snoc (n k : Nat) : leB n (k + 1) = leB n k ++ [UInt8.ofNat (n / 256 ^ k)] := by
  induction k generalizing n with
  | zero => simp [leB]
  | succ k ih =>
    rw [leB, ih (n / 256)]
    simp only [leB, List.cons_append, Nat.pow_succ, Nat.div_div_eq_div_mul, Nat.mul_comm]

theorem leN_leB (n k : Nat) : leN (leB n k) = n % 256 ^ k := by
  induction k generalizing n with
  | zero => simp [leB, leN, Nat.mod_one]
  | succ k ih =>
    simp only [leB, leN, ih, UInt8.toNat_ofNat']
    rw [show 256 ^ (k + 1) = 256 * 256 ^ k from by rw [Nat.pow_succ, Nat.mul_comm], Nat.mod_mul]

theorem leB_leN (l : List UInt8) : leB (leN l) l.length = l := by
  induction l with
  | nil => rfl
  | cons c l ih =>
    have hc := u8_lt c
    simp only [leN, List.length_cons, leB]
    rw [show (c.toNat + 256 * leN l) / 256 = leN l from by omega, ih]
    congr 1
    apply UInt8.toNat_inj.1
    rw [UInt8.toNat_ofNat']
    omega

theorem pow256 (j : Nat) : 2 ^ (8 * j) = 256 ^ j := by rw [Nat.pow_mul]

theorem or_shl (N c j : Nat) (hN : N < 256 ^ j) (hc : c < 256) (hj : j < 8) : bits .or .u64 (N : Int) ((c * 256 ^ j : Nat) : Int) = ((N + c * 256 ^ j : Nat) : Int) := by
  have h1 : 256 ^ (j + 1) ≤ 256 ^ 8 := Nat.pow_le_pow_right (by omega) (by omega)
  have h2 : c * 256 ^ j + 256 ^ j ≤ 256 ^ (j + 1) := by
    rw [Nat.pow_succ, ← Nat.succ_mul, Nat.mul_comm]
    exact Nat.mul_le_mul_left _ hc
  have h3 : (256 : Nat) ^ 8 = 18446744073709551616 := by decide
  rw [u64_or_nat _ _ (by omega) (by omega)]
  congr 1
  rw [← pow256, Nat.mul_comm c, Nat.or_comm, ← Nat.two_pow_add_eq_or_of_lt (by rw [pow256]; exact hN), Nat.add_comm]

set_option maxHeartbeats 400000 in
theorem wire_little (w : World) (l : List UInt8) (hl : l.length ≤ 140737488355328) :
    Calls Try.prog 41 #[S l] w fun e w' => e = .returned (.int .u64 (leN (l.take 8))) ∧ w = w' := by
  obtain ⟨m, hm, m8, ml, hmin⟩ : ∃ m : Nat, m = min l.length 8 ∧ m ≤ 8 ∧ m ≤ l.length ∧ (if (8 : Int) < (l.length : Int) then (8 : Int) else (l.length : Int)) = (m : Int) := ⟨_, rfl, by omega, by omega, by split <;> omega⟩
  have htk : l.take 8 = l.take m := by
    rw [hm]
    rcases Nat.lt_or_ge l.length 8 with h | h
    · rw [List.take_of_length_le (by omega), List.take_of_length_le (by omega)]
    · rw [Nat.min_eq_right h]
  rw [htk]
  have HM := Lib.hid hm
  clear hm htk
  unfold S
  go_enter Try.func41, Try.ntmps41
  go_wp2_with fail
  go_loop [3, 8] (fun vn vi => ∃ j : Nat, j ≤ m ∧ vi = .int .i64 j ∧ vn = .int .u64 (leN (l.take j))) (fun _ vi => m - (intOf vi).toNat)
  case atStart => exact ⟨0, by omega, rfl, rfl⟩
  case round =>
    obtain ⟨j, hj, rfl, rfl⟩ := hrel
    by_cases hlt : j < m
    · have hb : leN (l.take j) < 256 ^ j := by have := leN_lt (l.take j); rwa [List.length_take, Nat.min_eq_left (by omega)] at this
      have hlj : j < l.length := by omega
      have hc := u8_lt l[j]
      have hor := or_shl (leN (l.take j)) l[j].toNat j hb hc (by omega)
      have e1 : 8 * (j : Int) ≤ 63 := by omega
      have e : bits .or .u64 (leN (l.take j) : Int) (IntKind.u64.wrap (IntKind.u64.wrap ((ByteArray.mk l.toArray)[j]'(by simpa [ByteArray.size] using hlj)).toNat * 2 ^ (8 * j))) = ((leN (l.take (j + 1)) : Nat) : Int) := by
        have h1 : ((l[j].toNat : Int)) * 2 ^ (8 * j) = ((l[j].toNat * 256 ^ j : Nat) : Int) := by rw [← pow256]; simp
        have h2 : (256 : Nat) ^ (j + 1) ≤ 256 ^ 8 := Nat.pow_le_pow_right (by omega) (by omega)
        have h3 : (256 : Nat) ^ 8 = 18446744073709551616 := by decide
        have h4 : l[j].toNat * 256 ^ j < 256 ^ (j + 1) := by
          rw [Nat.pow_succ, Nat.mul_comm]
          exact Nat.mul_lt_mul_of_pos_left hc (Nat.pow_pos (by omega))
        have h5 : IntKind.u64.wrap (l[j].toNat : Int) = (l[j].toNat : Int) := IntWalk.u64_in _ (by omega)
        show bits .or .u64 (leN (l.take j) : Int) (IntKind.u64.wrap (IntKind.u64.wrap (l[j].toNat : Int) * 2 ^ (8 * j))) = _
        rw [h5, h1, IntWalk.u64_in _ (by omega), hor, List.take_succ_eq_append_getElem hlj, leN_snoc, List.length_take, Nat.min_eq_left (by omega)]
      have E := Lib.hid e
      clear e hor
      go_wp2_with fail
      go_round
      case rel => exact ⟨j + 1, by omega, by go_num, by rw [← E.out]⟩
      case measure => simp [intOf]; omega
    · obtain rfl : j = m := by omega
      go_wp2_with fail
      go_ret
      exact ⟨rfl, rfl⟩

def OwnBytesN (w : World) (base : Nat) (l : List UInt8) (e : Ending) (w' : World) : Prop := ∃ v', e = .returned v' ∧ brow w' base v' l ∧ Below base w w'

set_option maxHeartbeats 400000 in
theorem wire_appendLittle (w : World) (base : Nat) (v : Value) (l : List UInt8) (n k : Nat) (hown : brow w base v l) (hn : n < 18446744073709551616) (hk : k ≤ 8) (hl : l.length + 8 ≤ 140737488355328) (hb : base ≤ w.heap.size) :
    Calls Try.prog 31 #[v, .int .u64 n, .int .i64 k] w (OwnBytesN w base (l ++ leB n k)) := by
  have hP : ∀ j, j ≤ k → (leB n j).length = j := fun j _ => leB_length n j
  go_enter Try.func31, Try.ntmps31
  go_wp2_with fail
  go_loopw [0, 9] (fun vb vi wr => ∃ j : Nat, j ≤ k ∧ vi = .int .i64 j ∧ brow wr base vb (l ++ leB n j) ∧ Below base w wr) (fun _ vi _ => k - (intOf vi).toNat)
  case atStart => exact ⟨0, by omega, rfl, by simpa [leB] using hown, Below.refl _ _⟩
  case round =>
    obtain ⟨j, hj, rfl, hown, HB⟩ := hrel
    have hbz := HB.size
    clear hP
    by_cases hlt : j < k
    · have hlen : (l ++ leB n j).length + 1 ≤ 140737488355328 := by rw [List.length_append, leB_length]; omega
      have HS := Lib.hid (leB_snoc n j)
      have e1 : 0 ≤ 8 * (j : Int) := by omega
      have e2 : 8 * (j : Int) ≤ 64 := by omega
      go_wp2_with (at_builtin; go_must (refine append_byte rfl _ _ rfl base _ _ rfl hown (UInt8.ofNat (n / 256 ^ j)) _ ?c1 rfl hlen (by omega) ?_))
      case c1 => rw [← bcell_of, ← pow256]; simp
      intro v' w' hown' hg'
      replace HB := own_below HB hown (by omega) hg'
      rw [← HS.out] at hown'
      clear hown hg' hbz
      go_wp2_with fail
      go_roundw
      case rel => exact ⟨j + 1, by omega, by go_num, hown', HB⟩
      case measure => simp [intOf]; omega
    · obtain rfl : j = k := by omega
      go_wp2_with fail
      go_ret
      exact ⟨_, rfl, hown, HB⟩

end Go.Proofs.Ytbkgfpebffmffaa
