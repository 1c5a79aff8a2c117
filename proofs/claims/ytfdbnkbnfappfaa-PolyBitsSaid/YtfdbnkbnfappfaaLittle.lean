/- Numbers as bytes, the lowest first; xor of texts. -/
import Derived.Test.YtfdbnkbnfappfaaBytes
namespace Go.Proofs.Ytfdbnkbnfappfaa
open Go.RowKit
set_option linter.unusedVariables false

/-- The number of bytes, the lowest first. -/
def leN : List UInt8 → Nat
  | [] => 0
  | c :: l => c.toNat + 256 * leN l

theorem leN_snoc (l : List UInt8) (c : UInt8) : leN (l ++ [c]) = leN l + c.toNat * 256 ^ l.length := by
  induction l with
  | nil => simp [leN]
  | cons d l ih =>
    simp only [List.cons_append, leN, ih, List.length_cons, Nat.pow_succ]
    rw [Nat.mul_add, ← Nat.add_assoc, Nat.mul_left_comm, Nat.mul_comm 256 (256 ^ l.length)]

theorem leN_lt (l : List UInt8) : leN l < 256 ^ l.length := by
  induction l with
  | nil => simp [leN]
  | cons d l ih =>
    have := u8_lt d
    simp only [leN, List.length_cons, Nat.pow_succ]
    omega

theorem leN_lt8 (l : List UInt8) (h : l.length ≤ 8) : leN l < 18446744073709551616 :=
  Nat.lt_of_lt_of_le (leN_lt l) (Nat.pow_le_pow_right (by omega) h : 256 ^ l.length ≤ 256 ^ 8)

/-- Bytes of a number, the lowest first. -/
def leB (n : Nat) : Nat → List UInt8
  | 0 => []
  | k + 1 => UInt8.ofNat n :: leB (n / 256) k

theorem leB_length (n k : Nat) : (leB n k).length = k := by
  induction k generalizing n with
  | zero => rfl
  | succ k ih => simp [leB, ih]

theorem leB_snoc (n k : Nat) : leB n (k + 1) = leB n k ++ [UInt8.ofNat (n / 256 ^ k)] := by
  induction k generalizing n with
  | zero => simp [leB]
  | succ k ih =>
    rw [leB, ih (n / 256)]
    simp only [leB, List.cons_append, Nat.pow_succ, Nat.div_div_eq_div_mul, Nat.mul_comm]

theorem leN_leB (n k : Nat) : leN (leB n k) = n % 256 ^ k := by
  induction k generalizing n with
  | zero => simp [leB, leN, Nat.mod_one]
  | succ k ih =>
    simp only [leB, leN, ih, UInt8.toNat_ofNat']
    rw [show 256 ^ (k + 1) = 256 * 256 ^ k from by rw [Nat.pow_succ, Nat.mul_comm], Nat.mod_mul]

theorem leB_leN (l : List UInt8) : leB (leN l) l.length = l := by
  induction l with
  | nil => rfl
  | cons c l ih =>
    have hc := u8_lt c
    simp only [leN, List.length_cons, leB]
    rw [show (c.toNat + 256 * leN l) / 256 = leN l from by omega, ih]
    congr 1
    apply UInt8.toNat_inj.1
    rw [UInt8.toNat_ofNat']
    omega

theorem pow256 (j : Nat) : 2 ^ (8 * j) = 256 ^ j := by rw [Nat.pow_mul]

theorem or_shl (N c j : Nat) (hN : N < 256 ^ j) (hc : c < 256) (hj : j < 8) : bits .or .u64 (N : Int) ((c * 256 ^ j : Nat) : Int) = ((N + c * 256 ^ j : Nat) : Int) := by
  have h1 : 256 ^ (j + 1) ≤ 256 ^ 8 := Nat.pow_le_pow_right (by omega) (by omega)
  have h2 : c * 256 ^ j + 256 ^ j ≤ 256 ^ (j + 1) := by
    rw [Nat.pow_succ, ← Nat.succ_mul, Nat.mul_comm]
    exact Nat.mul_le_mul_left _ hc
  have h3 : (256 : Nat) ^ 8 = 18446744073709551616 := by decide
  rw [u64_or_nat _ _ (by omega) (by omega)]
  congr 1
  rw [← pow256, Nat.mul_comm c, Nat.or_comm, ← Nat.two_pow_add_eq_or_of_lt (by rw [pow256]; exact hN), Nat.add_comm]

set_option maxHeartbeats 400000 in
theorem wire_little (w : World) (l : List UInt8) (hl : l.length ≤ 140737488355328) :
    Calls Try.prog 43 #[S l] w fun e w' => e = .returned (.int .u64 (leN (l.take 8))) ∧ w = w' := by
  obtain ⟨m, hm, m8, ml, hmin⟩ : ∃ m : Nat, m = min l.length 8 ∧ m ≤ 8 ∧ m ≤ l.length ∧ (if (8 : Int) < (l.length : Int) then (8 : Int) else (l.length : Int)) = (m : Int) := ⟨_, rfl, by omega, by omega, by split <;> omega⟩
  have htk : l.take 8 = l.take m := by
    rw [hm]
    rcases Nat.lt_or_ge l.length 8 with h | h
    · rw [List.take_of_length_le (by omega), List.take_of_length_le (by omega)]
    · rw [Nat.min_eq_right h]
  rw [htk]
  have HM := Lib.hid hm
  clear hm htk
  unfold S
  go_enter Try.func43, Try.ntmps43
  go_wp2_with fail
  go_loop [3, 8] (fun vn vi => ∃ j : Nat, j ≤ m ∧ vi = .int .i64 j ∧ vn = .int .u64 (leN (l.take j))) (fun _ vi => m - (intOf vi).toNat)
  case atStart => exact ⟨0, by omega, rfl, rfl⟩
  case round =>
    obtain ⟨j, hj, rfl, rfl⟩ := hrel
    by_cases hlt : j < m
    · have hb : leN (l.take j) < 256 ^ j := by have := leN_lt (l.take j); rwa [List.length_take, Nat.min_eq_left (by omega)] at this
      have hlj : j < l.length := by omega
      have hc := u8_lt l[j]
      have hor := or_shl (leN (l.take j)) l[j].toNat j hb hc (by omega)
      have e1 : 8 * (j : Int) ≤ 63 := by omega
      have e : bits .or .u64 (leN (l.take j) : Int) (IntKind.u64.wrap (IntKind.u64.wrap ((ByteArray.mk l.toArray)[j]'(by simpa [ByteArray.size] using hlj)).toNat * 2 ^ (8 * j))) = ((leN (l.take (j + 1)) : Nat) : Int) := by
        have h1 : ((l[j].toNat : Int)) * 2 ^ (8 * j) = ((l[j].toNat * 256 ^ j : Nat) : Int) := by rw [← pow256]; simp
        have h2 : (256 : Nat) ^ (j + 1) ≤ 256 ^ 8 := Nat.pow_le_pow_right (by omega) (by omega)
        have h3 : (256 : Nat) ^ 8 = 18446744073709551616 := by decide
        have h4 : l[j].toNat * 256 ^ j < 256 ^ (j + 1) := by
          rw [Nat.pow_succ, Nat.mul_comm]
          exact Nat.mul_lt_mul_of_pos_left hc (Nat.pow_pos (by omega))
        have h5 : IntKind.u64.wrap (l[j].toNat : Int) = (l[j].toNat : Int) := IntWalk.u64_in _ (by omega)
        show bits .or .u64 (leN (l.take j) : Int) (IntKind.u64.wrap (IntKind.u64.wrap (l[j].toNat : Int) * 2 ^ (8 * j))) = _
        rw [h5, h1, IntWalk.u64_in _ (by omega), hor, List.take_succ_eq_append_getElem hlj, leN_snoc, List.length_take, Nat.min_eq_left (by omega)]
      have E := Lib.hid e
      clear e hor
      go_wp2_with fail
      go_round
      case rel => exact ⟨j + 1, by omega, by go_num, by rw [← E.out]⟩
      case measure => simp [intOf]; omega
    · obtain rfl : j = m := by omega
      go_wp2_with fail
      go_ret
      exact ⟨rfl, rfl⟩

def OwnBytesN (w : World) (base : Nat) (l : List UInt8) (e : Ending) (w' : World) : Prop := ∃ v', e = .returned v' ∧ brow w' base v' l ∧ Below base w w'

set_option maxHeartbeats 400000 in
theorem wire_appendLittle (w : World) (base : Nat) (v : Value) (l : List UInt8) (n k : Nat) (hown : brow w base v l) (hn : n < 18446744073709551616) (hk : k ≤ 8) (hl : l.length + 8 ≤ 140737488355328) (hb : base ≤ w.heap.size) :
    Calls Try.prog 37 #[v, .int .u64 n, .int .i64 k] w (OwnBytesN w base (l ++ leB n k)) := by
  have hP : ∀ j, j ≤ k → (leB n j).length = j := fun j _ => leB_length n j
  go_enter Try.func37, Try.ntmps37
  go_wp2_with fail
  go_loopw [0, 9] (fun vb vi wr => ∃ j : Nat, j ≤ k ∧ vi = .int .i64 j ∧ brow wr base vb (l ++ leB n j) ∧ Below base w wr) (fun _ vi _ => k - (intOf vi).toNat)
  case atStart => exact ⟨0, by omega, rfl, by simpa [leB] using hown, Below.refl _ _⟩
  case round =>
    obtain ⟨j, hj, rfl, hown, HB⟩ := hrel
    have hbz := HB.size
    clear hP
    by_cases hlt : j < k
    · have hlen : (l ++ leB n j).length + 1 ≤ 140737488355328 := by rw [List.length_append, leB_length]; omega
      have HS := Lib.hid (leB_snoc n j)
      have e1 : 0 ≤ 8 * (j : Int) := by omega
      have e2 : 8 * (j : Int) ≤ 64 := by omega
      go_wp2_with (at_builtin; go_must (refine append_byte rfl _ _ rfl base _ _ rfl hown (UInt8.ofNat (n / 256 ^ j)) _ ?c1 rfl hlen (by omega) ?_))
      case c1 => rw [← bcell_of, ← pow256]; simp
      intro v' w' hown' hg'
      replace HB := own_below HB hown (by omega) hg'
      rw [← HS.out] at hown'
      clear hown hg' hbz
      go_wp2_with fail
      go_roundw
      case rel => exact ⟨j + 1, by omega, by go_num, hown', HB⟩
      case measure => simp [intOf]; omega
    · obtain rfl : j = k := by omega
      go_wp2_with fail
      go_ret
      exact ⟨_, rfl, hown, HB⟩

/-- Two texts, as long as the shorter one. -/
def xorL (a b : List UInt8) : List UInt8 := List.zipWith (· ^^^ ·) a b

theorem xorL_length (a b : List UInt8) : (xorL a b).length = min a.length b.length := List.length_zipWith

def GrowsTo (v : Value) (w : World) (e : Ending) (w' : World) : Prop := e = .returned v ∧ w.grownBy w' none

theorem xor_byte (c d : UInt8) : bits .xor .u8 (c.toNat : Int) (d.toNat : Int) = ((c ^^^ d).toNat : Int) := by
  rw [u8_xor_nat _ _ (u8_lt c) (u8_lt d), UInt8.toNat_xor]

/-- A row of bytes that is filled from its head on. -/
def part (X : List UInt8) (n j : Nat) : List Value := (X.take j).map bcell ++ List.replicate (n - j) (.int .u8 0)

theorem part_zero (X : List UInt8) (n : Nat) : part X n 0 = List.replicate n (.int .u8 0) := by simp [part]

theorem part_all (X : List UInt8) (n : Nat) (h : X.length = n) : part X n n = X.map bcell := by
  unfold part
  rw [List.take_of_length_le (by omega), Nat.sub_self]
  simp

theorem part_set (X : List UInt8) (n j : Nat) (h : X.length = n) (hj : j < n) : (part X n j).set j (bcell (X[j]'(by omega))) = part X n (j + 1) := by
  unfold part
  have h1 : ((X.take j).map bcell).length = j := by simp; omega
  rw [List.set_append_right j _ (by omega), h1, Nat.sub_self, show n - j = (n - (j + 1)) + 1 from by omega, List.replicate_succ, List.set_cons_zero,
    List.take_succ_eq_append_getElem (by omega), List.map_append, List.append_assoc]
  rfl

set_option maxHeartbeats 1000000 in
theorem wire_xor (w : World) (a b : List UInt8) (ha : a.length ≤ 140737488355328) (hb : b.length ≤ 140737488355328) :
    Calls Try.prog 41 #[S a, S b] w (GrowsTo (S (xorL a b)) w) := by
  obtain ⟨i0, hi, hz0, hz1, hz2⟩ := info_parts info_u8
  obtain ⟨n, hn, na, nb, hmin⟩ : ∃ n : Nat, n = min a.length b.length ∧ n ≤ a.length ∧ n ≤ b.length ∧ (if b.length < a.length then (b.length : Int) else (a.length : Int)) = (n : Int) := ⟨_, rfl, by omega, by omega, by split <;> omega⟩
  have hxl : (xorL a b).length = n := by rw [xorL_length, hn]
  have HX := Lib.hid hxl
  clear hxl
  have HN := Lib.hid hn
  clear hn
  unfold S
  go_enter Try.func41, Try.ntmps41
  go_wp2_with (at_make; refine wpList_make_full _ rfl _ _ 45 rfl w.heap.size 5 i0 (.int .u8 0) 1 Try.underlying45 hi hz0 hz1 .i64 .i64 _ _ n rfl rfl (by first | exact hmin | rfl) (by first | exact hmin | rfl) (by rw [hz2]; omega) (by unfold maxLen; omega) (Nat.le_refl _) ?_)
  intro w1 hown hg
  go_wp2_with fail
  have hstart : w1.ownsRow w.heap.size 5 1 (.slice (some ⟨w.heap.size, 0, none⟩) n n) n (part (xorL a b) n 0) := by
    rw [part_zero, ← toList_madeCells_one]
    simpa using hown
  clear hown
  go_loopw [15] (fun vi wr => ∃ j : Nat, j ≤ n ∧ vi = .int .i64 j ∧ wr.ownsRow w.heap.size 5 1 (.slice (some ⟨w.heap.size, 0, none⟩) n n) n (part (xorL a b) n j) ∧ w.grownBy wr none) (fun vi _ => n - (intOf vi).toNat)
  case atStart => exact ⟨0, by omega, rfl, hstart, hg⟩
  case round =>
    clear hstart hg
    obtain ⟨j, hj, rfl, hown, hg⟩ := hrel
    by_cases hlt : j < n
    · have hfz := hown.frozenAt j
      have hst := hown.stored j (bcell ((xorL a b)[j]'(by rw [HX.out]; exact hlt)))
      rw [part_set _ _ _ HX.out hlt] at hst
      obtain ⟨hs1, hs2⟩ := hst
      have ja : j < a.length := by omega
      have jb : j < b.length := by omega
      have hxj : (xorL a b)[j]'(by rw [HX.out]; exact hlt) = a[j] ^^^ b[j] := by simp [xorL]
      rw [hxj] at hs1 hs2
      have hcj := hown.cellAt j (by omega)
      have he : (part (xorL a b) n j)[j]? = some (.int .u8 0) := by
        unfold part
        have h1 : (((xorL a b).take j).map bcell).length = j := by rw [List.length_map, List.length_take, HX.out]; omega
        rw [List.getElem?_append_right (by omega), List.getElem?_replicate, if_pos (by omega)]
      rw [he] at hcj
      have hbc : bcell (a[j] ^^^ b[j]) = .int .u8 ((a[j].toNat ^^^ b[j].toNat : Nat) : Int) := by unfold bcell; rw [UInt8.toNat_xor]
      rw [hbc] at hs1 hs2
      have hA : ∀ h, (ByteArray.mk a.toArray)[j]'h = a[j] := fun h => rfl
      have hB : ∀ h, (ByteArray.mk b.toArray)[j]'h = b[j] := fun h => rfl
      have hx := xor_byte a[j] b[j]
      clear he hxj hbc
      go_wp2_with fail
      go_region
      go_wp2_with fail
      go_roundw
      case rel => exact ⟨j + 1, by omega, by go_num, hs1, grow_drew (grow_trans_new hg hs2 (Nat.le_refl _))⟩
      case measure => simp [intOf]; omega
    · obtain rfl : j = n := by omega
      have hbw : brow wr w.heap.size (.slice (some ⟨w.heap.size, 0, none⟩) j j) (xorL a b) := by
        unfold brow
        rw [HX.out]
        rw [part_all _ _ HX.out] at hown
        exact hown
      have hcv := conv_brow hbw
      unfold S at hcv
      go_wp2_with fail
      go_ret
      exact ⟨rfl, hg⟩

end Go.Proofs.Ytfdbnkbnfappfaa
