/- wire.Xor: its contract (where the seat has no wire.Little). -/
import Derived.Test.YtmomfbkpniblgaaGreatDoorDgBytes
import Derived.Test.YtmomfbkpniblgaaGreatDoorDgBytesW
namespace Go.Proofs.YtmomfbkpniblgaaGreatDoor
open Go.RowKit
set_option linter.unusedVariables false

def xorL (a b : List UInt8) : List UInt8 := List.zipWith (· ^^^ ·) a b

theorem xorL_length (a b : List UInt8) : (xorL a b).length = min a.length b.length := List.length_zipWith

def GrowsTo (v : Value) (w : World) (e : Ending) (w' : World) : Prop := e = .returned v ∧ w.grownBy w' none

theorem xor_byte (c d : UInt8) : bits .xor .u8 (c.toNat : Int) (d.toNat : Int) = ((c ^^^ d).toNat : Int) := by
  rw [u8_xor_nat _ _ (u8_lt c) (u8_lt d), UInt8.toNat_xor]

/-- A row of bytes that is filled from its head on. -/
def part (X : List UInt8) (n j : Nat) : List Value := (X.take j).map bcell ++ List.replicate (n - j) (.int .u8 0)

theorem part_zero (X : List UInt8) (n : Nat) : part X n 0 = List.replicate n (.int .u8 0) := by simp [part]

theorem part_all (X : List UInt8) (n : Nat) (h : X.length = n) : part X n n = X.map bcell := by
  unfold part
  rw [List.take_of_length_le (by omega), Nat.sub_self]
  simp

theorem part_set (X : List UInt8) (n j : Nat) (h : X.length = n) (hj : j < n) : (part X n j).set j (bcell (X[j]'(by omega))) = part X n (j + 1) := by
  unfold part
  have h1 : ((X.take j).map bcell).length = j := by simp; omega
  rw [List.set_append_right j _ (by omega), h1, Nat.sub_self, show n - j = (n - (j + 1)) + 1 from by omega, List.replicate_succ, List.set_cons_zero,
    List.take_succ_eq_append_getElem (by omega), List.map_append, List.append_assoc]
  rfl

set_option maxHeartbeats 1000000 in
theorem wire_xor (w : World) (a b : List UInt8) (ha : a.length ≤ 140737488355328) (hb : b.length ≤ 140737488355328) :
    Calls Tryz.prog 202 #[S a, S b] w (GrowsTo (S (xorL a b)) w) := by
  obtain ⟨i0, hi, hz0, hz1, hz2⟩ := info_parts info_u8
  obtain ⟨n, hn, na, nb, hmin, hmin2⟩ : ∃ n : Nat, n = min a.length b.length ∧ n ≤ a.length ∧ n ≤ b.length ∧ (if b.length < a.length then (b.length : Int) else (a.length : Int)) = (n : Int) ∧ min (a.length : Int) (b.length : Int) = (n : Int) := ⟨_, rfl, by omega, by omega, by split <;> omega, by omega⟩
  have hxl : (xorL a b).length = n := by rw [xorL_length, hn]
  have HX := Lib.hid hxl
  clear hxl
  have HN := Lib.hid hn
  clear hn
  unfold S
  go_enter Tryz.func202, Tryz.ntmps202
  go_wp2_with (at_make; refine wpList_make_full _ rfl _ _ 83 rfl w.heap.size 5 i0 (.int .u8 0) 1 Tryz.underlying83 hi hz0 hz1 .i64 .i64 _ _ n rfl rfl (by first | exact hmin | exact hmin2 | rfl) (by first | exact hmin | exact hmin2 | rfl) (by rw [hz2]; omega) (by unfold maxLen; omega) (Nat.le_refl _) ?_)
  intro w1 hown hg
  go_wp2_with fail
  have hstart : w1.ownsRow w.heap.size 5 1 (.slice (some ⟨w.heap.size, 0, none⟩) n n) n (part (xorL a b) n 0) := by
    rw [part_zero, ← toList_madeCells_one]
    simpa using hown
  clear hown
  go_loopw [15] (fun vi wr => ∃ j : Nat, j ≤ n ∧ vi = .int .i64 j ∧ wr.ownsRow w.heap.size 5 1 (.slice (some ⟨w.heap.size, 0, none⟩) n n) n (part (xorL a b) n j) ∧ w.grownBy wr none) (fun vi _ => n - (intOf vi).toNat)
  case atStart => exact ⟨0, by omega, rfl, hstart, hg⟩
  case round =>
    clear hstart hg
    obtain ⟨j, hj, rfl, hown, hg⟩ := hrel
    by_cases hlt : j < n
    · have hfz := hown.frozenAt j
      have hst := hown.stored j (bcell ((xorL a b)[j]'(by rw [HX.out]; exact hlt)))
      rw [part_set _ _ _ HX.out hlt] at hst
      obtain ⟨hs1, hs2⟩ := hst
      have ja : j < a.length := by omega
      have jb : j < b.length := by omega
      have hxj : (xorL a b)[j]'(by rw [HX.out]; exact hlt) = a[j] ^^^ b[j] := by simp [xorL]
      rw [hxj] at hs1 hs2
      have hcj := hown.cellAt j (by omega)
      have he : (part (xorL a b) n j)[j]? = some (.int .u8 0) := by
        unfold part
        have h1 : (((xorL a b).take j).map bcell).length = j := by rw [List.length_map, List.length_take, HX.out]; omega
        rw [List.getElem?_append_right (by omega), List.getElem?_replicate, if_pos (by omega)]
      rw [he] at hcj
      have hbc : bcell (a[j] ^^^ b[j]) = .int .u8 ((a[j].toNat ^^^ b[j].toNat : Nat) : Int) := by unfold bcell; rw [UInt8.toNat_xor]
      rw [hbc] at hs1 hs2
      have hA : ∀ h, (ByteArray.mk a.toArray)[j]'h = a[j] := fun h => rfl
      have hB : ∀ h, (ByteArray.mk b.toArray)[j]'h = b[j] := fun h => rfl
      have hx := xor_byte a[j] b[j]
      clear he hxj hbc
      go_wp2_with fail
      go_region
      go_wp2_with fail
      go_roundw
      case rel => exact ⟨j + 1, by omega, by go_num, hs1, grow_drew (grow_trans_new hg hs2 (Nat.le_refl _))⟩
      case measure => simp [intOf]; omega
    · obtain rfl : j = n := by omega
      have hbw : brow wr w.heap.size (.slice (some ⟨w.heap.size, 0, none⟩) j j) (xorL a b) := by
        unfold brow
        rw [HX.out]
        rw [part_all _ _ HX.out] at hown
        exact hown
      have hcv := conv_brow hbw
      unfold S at hcv
      go_wp2_with fail
      go_ret
      exact ⟨rfl, hg⟩

end Go.Proofs.YtmomfbkpniblgaaGreatDoor
