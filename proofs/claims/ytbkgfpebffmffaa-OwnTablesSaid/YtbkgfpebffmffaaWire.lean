/- The functions of package wire: contracts. -/
import Derived.Test.YtbkgfpebffmffaaBytes
namespace Go.Proofs.Ytbkgfpebffmffaa
open Go.RowKit
set_option linter.unusedVariables false

/-- So many bytes of a number, the highest one first. -/
def bigB (n many : Nat) : List UInt8 := (List.range many).map fun i => UInt8.ofNat (n / 2 ^ (8 * (many - 1 - i)))

def OwnBytes (w : World) (base : Nat) (l : List UInt8) (e : Ending) (w' : World) : Prop := ∃ v', e = .returned v' ∧ brow w' base v' l ∧ Below base w w'

theorem bigB_length (n many : Nat) : (bigB n many).length = many := by simp [bigB]

theorem bigB_snoc (n many j : Nat) (h : j < many) : (bigB n many).take (j + 1) = (bigB n many).take j ++ [UInt8.ofNat (n / 2 ^ (8 * (many - 1 - j)))] := by
  rw [List.take_succ_eq_append_getElem (by rw [bigB_length]; exact h)]
  simp [bigB]

set_option maxHeartbeats 400000 in
theorem wire_appendBig (w : World) (base : Nat) (v : Value) (l : List UInt8) (n : Nat) (many : Int) (hown : brow w base v l) (hn : n < 18446744073709551616) (hm : 0 ≤ many) (hm8 : many ≤ 8) (hl : l.length + 8 ≤ 140737488355328) (hb : base ≤ w.heap.size) :
    Calls Try.prog 46 #[v, .int .u64 n, .int .i64 many] w (OwnBytes w base (l ++ bigB n many.toNat)) := by
  obtain ⟨k, rfl⟩ := Int.eq_ofNat_of_zero_le hm
  rw [Int.toNat_natCast]
  go_enter Try.func46, Try.ntmps46
  go_wp2
  go_loopw [0, 9] (fun vb vi wr => ∃ j : Nat, j ≤ k ∧ vi = .int .i64 j ∧ brow wr base vb (l ++ (bigB n k).take j) ∧ Below base w wr) (fun _ vi _ => k - (intOf vi).toNat)
  case atStart => exact ⟨0, by omega, rfl, by simpa using hown, Below.refl _ _⟩
  case round =>
    obtain ⟨j, hj, rfl, hown, HB⟩ := hrel
    have hlen := bigB_length n k
    have hbz := HB.size
    by_cases hlt : j < k
    · have hsn := bigB_snoc n k j hlt
      have HS := Lib.hid hsn
      clear hsn
      have e1 : 0 ≤ 8 * ((k : Int) - 1 - j) := by omega
      have e2 : 8 * ((k : Int) - 1 - j) ≤ 64 := by omega
      go_wp2_with (at_builtin; go_must (refine append_byte rfl _ _ rfl base _ _ rfl hown (UInt8.ofNat (n / 2 ^ (8 * (k - 1 - j)))) _ ?c1 rfl (by simp; omega) (by omega) ?_))
      case c1 => rw [← bcell_of]; simp
      intro v' w' hown' hg'
      replace HB := own_below HB hown (by omega) hg'
      rw [← HS.out] at hown'
      clear hown hg' hbz
      go_wp2
      go_roundw
      case rel => exact ⟨j + 1, by omega, by go_num, hown', HB⟩
      case measure => simp [intOf]; omega
    · obtain rfl : j = k := by omega
      go_wp2
      go_ret
      exact ⟨_, rfl, by rw [List.take_of_length_le (by omega)] at hown; exact hown, HB⟩

/-- The number of bytes, the highest one first. -/
def bigN (l : List UInt8) : Nat := l.foldl (fun n c => n * 256 + c.toNat) 0

theorem bigN_snoc (l : List UInt8) (c : UInt8) : bigN (l ++ [c]) = bigN l * 256 + c.toNat := by simp [bigN, List.foldl_append]

theorem foldB_lt (l : List UInt8) : ∀ a : Nat, l.foldl (fun n c => n * 256 + c.toNat) a + 1 ≤ (a + 1) * 256 ^ l.length := by
  induction l with
  | nil => intro a; simp
  | cons c l ih =>
    intro a
    have h := ih (a * 256 + c.toNat)
    have hc := u8_lt c
    rw [List.foldl_cons, List.length_cons, Nat.pow_succ]
    refine Nat.le_trans h ?_
    rw [Nat.mul_comm (256 ^ l.length) 256, ← Nat.mul_assoc]
    exact Nat.mul_le_mul_right _ (by omega)

theorem bigN_lt (l : List UInt8) : bigN l < 256 ^ l.length := by
  have := foldB_lt l 0
  simp only [bigN]; omega

theorem bigN_lt8 (l : List UInt8) (h : l.length ≤ 8) : bigN l < 18446744073709551616 :=
  Nat.lt_of_lt_of_le (bigN_lt l) (Nat.pow_le_pow_right (by omega) h : 256 ^ l.length ≤ 256 ^ 8)

theorem bigN_take_lt (l : List UInt8) (j : Nat) (hj : j < l.length) (h : l.length ≤ 8) : bigN (l.take j) < 72057594037927936 := by
  refine Nat.lt_of_lt_of_le (bigN_lt _) (Nat.pow_le_pow_right (by omega) ?_ : 256 ^ (l.take j).length ≤ 256 ^ 7)
  rw [List.length_take]; omega

theorem or_byte (N : Nat) (c : UInt8) (h : N < 72057594037927936) : bits .or .u64 ((N : Int) * 256) (IntKind.u64.wrap (c.toNat : Int)) = ((N * 256 + c.toNat : Nat) : Int) := by
  have hc := u8_lt c
  have e1 : IntKind.u64.wrap (c.toNat : Int) = ((c.toNat : Nat) : Int) := IntWalk.u64_in _ (by omega)
  rw [e1, show ((N : Int) * 256) = ((N * 256 : Nat) : Int) from by simp, u64_or_nat _ _ (by omega) (by omega), nat_join 8 _ _ (by omega) (by omega)]

theorem extract_list (l : List UInt8) (a b : Nat) : ((ByteArray.mk l.toArray).extract a b).data.toList = (l.drop a).take (b - a) := by
  rw [ByteArray.extract_mk]

end Go.Proofs.Ytbkgfpebffmffaa
