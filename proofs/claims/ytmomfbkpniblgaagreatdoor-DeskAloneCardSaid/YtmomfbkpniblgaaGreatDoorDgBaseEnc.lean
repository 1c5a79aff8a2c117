/- Base: its contract. -/
import Derived.Test.YtmomfbkpniblgaaGreatDoorDgBytes
import Derived.Test.YtmomfbkpniblgaaGreatDoorDgBytesW
import Derived.StillTailTactics
namespace Go.Proofs.YtmomfbkpniblgaaGreatDoor
open Go.RowKit
set_option linter.unusedVariables false

def signsL : List UInt8 := [65, 66, 67, 68, 69, 70, 71, 72, 73, 74, 75, 76, 77, 78, 79, 80, 81, 82, 83, 84, 85, 86, 87, 88, 89, 90, 97, 98, 99, 100, 101, 102, 103, 104, 105, 106, 107, 108, 109, 110, 111, 112, 113, 114, 115, 116, 117, 118, 119, 120, 121, 122, 48, 49, 50, 51, 52, 53, 54, 55, 56, 57, 43, 47]
def signD (n : Nat) : UInt8 := signsL.getD n 0

def baseL : List UInt8 → List UInt8
  | a :: b :: c :: r => signD (a.toNat / 4) :: signD (a.toNat % 4 * 16 + b.toNat / 16) :: signD (b.toNat % 16 * 4 + c.toNat / 64) :: signD (c.toNat % 64) :: baseL r
  | [a, b] => [signD (a.toNat / 4), signD (a.toNat % 4 * 16 + b.toNat / 16), signD (b.toNat % 16 * 4), 61]
  | [a] => [signD (a.toNat / 4), signD (a.toNat % 4 * 16), 61, 61]
  | [] => []

theorem baseL_length : ∀ l : List UInt8, (baseL l).length = (l.length + 2) / 3 * 4
  | a :: b :: c :: r => by
    have := baseL_length r
    simp only [baseL, List.length_cons, this]
    omega
  | [a, b] => by simp [baseL]
  | [a] => by simp [baseL]
  | [] => rfl

theorem baseL_len_le (l : List UInt8) : (baseL l).length = (l.length + 2) / 3 * 4 := baseL_length l

theorem base_room (l acc r : List UInt8) (hl : l.length ≤ 70368744177664) (h : baseL l = acc ++ baseL r) : acc.length + (baseL r).length ≤ 93824992236888 := by
  have e := congrArg List.length h
  rw [List.length_append, baseL_length] at e
  omega

theorem or32_zero (n : Nat) (h : n < 4294967296) : bits .or .u32 0 (n : Int) = (n : Int) := by
  rw [show (0 : Int) = ((0 : Nat) : Int) from rfl, u32_or_nat _ _ (by omega) h, Nat.zero_or]

theorem or32_join (s x y : Nat) (hs : s ≤ 32) (hx : x * 2 ^ s < 4294967296) (hy : y < 2 ^ s) : bits .or .u32 ((x * 2 ^ s : Nat) : Int) (y : Int) = ((x * 2 ^ s + y : Nat) : Int) := by
  have hy2 : y < 4294967296 := Nat.lt_of_lt_of_le hy (Nat.pow_le_pow_right (by omega) hs : 2 ^ s ≤ 2 ^ 32)
  rw [u32_or_nat _ _ hx hy2, Nat.mul_comm x, Nat.two_pow_add_eq_or_of_lt hy]

theorem and32_63 (n : Nat) (N : Int) (D : Nat) (hn : n < 4294967296) (hN : N = n) (hD : D = n % 64) : bits .and .u32 N 63 = (D : Int) := by
  subst hN hD
  rw [show (63 : Int) = ((63 : Nat) : Int) from rfl, u32_and_nat _ _ hn (by omega), nat_mask6]

theorem sign_cell (D : Nat) (h : D < 64) : Value.int .u8 (((ByteArray.mk #[65, 66, 67, 68, 69, 70, 71, 72, 73, 74, 75, 76, 77, 78, 79, 80, 81, 82, 83, 84, 85, 86, 87, 88, 89, 90, 97, 98, 99, 100, 101, 102, 103, 104, 105, 106, 107, 108, 109, 110, 111, 112, 113, 114, 115, 116, 117, 118, 119, 120, 121, 122, 48, 49, 50, 51, 52, 53, 54, 55, 56, 57, 43, 47])[D]'h).toNat : Int) = bcell (signD D) := by
  unfold bcell signD signsL
  simp only [List.getD]
  rw [List.getElem?_eq_getElem (by simpa using h)]
  rfl

def encLen : Value → Nat
  | .string s => s.size
  | _ => 0

theorem extract3 (a b c : UInt8) (r : List UInt8) : (ByteArray.mk (a :: b :: c :: r).toArray).extract 3 (r.length + 1 + 1 + 1) = ⟨r.toArray⟩ := by
  apply ByteArray.ext
  rw [ByteArray.data_extract]
  apply Array.toList_inj.1
  simp

theorem ext3 (a b c : UInt8) (r : List UInt8) : Value.string ((ByteArray.mk (a :: b :: c :: r).toArray).extract 3 (r.length + 1 + 1 + 1)) = Value.string ⟨r.toArray⟩ := by rw [extract3]

theorem strLen_ext3 (a b c : UInt8) (r : List UInt8) : encLen (Value.string ((ByteArray.mk (a :: b :: c :: r).toArray).extract 3 (r.length + 1 + 1 + 1))) < encLen (Value.string ⟨(a :: b :: c :: r).toArray⟩) := by
  rw [extract3]
  simp [encLen, ByteArray.size]
  omega

set_option maxHeartbeats 1000000 in
theorem code_base (w : World) (l : List UInt8) (hl : l.length ≤ 70368744177664) :
    Calls Tryz.prog 46 #[S l] w fun e w' => e = .returned (S (baseL l)) ∧ w.grownBy w' none := by
  unfold S
  go_enter Tryz.func46, Tryz.ntmps46
  go_wp2
  go_loopw [0, 3] (fun vs vb wr => ∃ r acc : List UInt8, baseL l = acc ++ baseL r ∧ vs = .string ⟨r.toArray⟩ ∧ brow wr w.heap.size vb acc ∧ Below w.heap.size w wr) (fun vs _ _ => encLen vs)
  case atStart => exact ⟨l, [], rfl, rfl, brow_nil _ _, Below.refl _ _⟩
  case round =>
    obtain ⟨r, acc, hacc, rfl, hown, HB⟩ := hrel
    match r with
    | [] =>
      have hcv := conv_brow hown
      go_wp2
      go_ret
      have e : acc = baseL l := by rw [hacc]; simp [baseL]
      exact ⟨by rw [e]; rfl, grow_of_below HB⟩
    | [a] =>
      have hz := HB.size
      have la := u8_lt a
      have c0 : ∀ h, ((ByteArray.mk ([a]).toArray)[0]'h).toNat = a.toNat := fun _ => rfl
      have hbl := Lib.hid (base_room l acc ([a]) hl hacc)
      have ha1 := baseL_len_le l
      have hal : acc.length + 4 ≤ 140737488355328 := by have := hbl.out; simp only [baseL, List.length_cons, List.length_nil] at this; omega
      clear ha1
      have HA := Lib.hid hacc
      clear hacc
      obtain ⟨A, hA⟩ : ∃ A, A = a.toNat := ⟨_, rfl⟩
      rw [← hA] at c0 la
      have m0 : (A : Int) % 4294967296 = (A : Int) := by omega
      obtain ⟨N0, hN0⟩ : ∃ N0, N0 = A * 65536 := ⟨_, rfl⟩
      have m1 : (A : Int) * 65536 % 4294967296 = (N0 : Int) := by omega
      have o0 : bits .or .u32 0 (N0 : Int) = (N0 : Int) := or32_zero N0 (by omega)
      obtain ⟨D0, hD0⟩ : ∃ D, D = A / 4 := ⟨_, rfl⟩
      have d0 : bits .and .u32 (((N0 : Nat) : Int) / 262144) 63 = (D0 : Int) := and32_63 (N0 / 262144) _ _ (by omega) (by omega) (by omega)
      have e0 : (0 : Int) ≤ (D0 : Int) := by omega
      have f0 : (D0 : Int) < 64 := by omega
      have g0 : D0 < 64 := by omega
      obtain ⟨D1, hD1⟩ : ∃ D, D = A % 4 * 16 := ⟨_, rfl⟩
      have d1 : bits .and .u32 (((N0 : Nat) : Int) / 4096) 63 = (D1 : Int) := and32_63 (N0 / 4096) _ _ (by omega) (by omega) (by omega)
      have e1 : (0 : Int) ≤ (D1 : Int) := by omega
      have f1 : (D1 : Int) < 64 := by omega
      have g1 : D1 < 64 := by omega
      have HhA := Lib.hid hA
      have HhN0 := Lib.hid hN0
      have HhD0 := Lib.hid hD0
      have HhD1 := Lib.hid hD1
      clear hA hN0 hD0 hD1 la
      go_wp2
      refine wp_loop_rounds 4 ?_
      rw [rounds_succ]
      go_wp2
      rw [rounds_succ]
      go_wp2
      clear c0 m0 m1 o0
      refine wp_loop_rounds 5 ?_
      rw [rounds_succ]
      go_wp2_with (at_builtin; go_must (refine append_byteW rfl _ _ rfl w.heap.size _ _ rfl (hown.alloc _) (signD D0) _ ?c1 wr.heap.size rfl (obj_new wr _) (by simp; omega) ?c2 ?_))
      case c1 => exact sign_cell D0 g0
      case c2 => exact Nat.le_trans hz (by simp)
      intro v0 w0 hown0 hg0
      have HB0 := own_below HB hown hz (grow_trans (World.grownBy_alloc wr _ _) hg0)
      clear HB hown hz hg0
      have hz0 := HB0.size
      go_wp2
      rw [rounds_succ]
      go_wp2_with (at_builtin; go_must (refine append_byteW rfl _ _ rfl w.heap.size _ _ rfl (hown0.alloc _) (signD D1) _ ?c1 w0.heap.size rfl (obj_new w0 _) (by simp; omega) ?c2 ?_))
      case c1 => exact sign_cell D1 g1
      case c2 => exact Nat.le_trans hz0 (by simp)
      intro v1 w1 hown1 hg1
      have HB1 := own_below HB0 hown0 hz0 (grow_trans (World.grownBy_alloc w0 _ _) hg1)
      clear HB0 hown0 hz0 hg1
      have hz1 := HB1.size
      go_wp2
      rw [rounds_succ]
      go_wp2_with (at_builtin; go_must (refine append_byteW rfl _ _ rfl w.heap.size _ _ rfl (hown1.alloc _) (61) _ ?c1 w1.heap.size rfl (obj_new w1 _) (by simp; omega) ?c2 ?_))
      case c1 => exact rfl
      case c2 => exact Nat.le_trans hz1 (by simp)
      intro v2 w2 hown2 hg2
      have HB2 := own_below HB1 hown1 hz1 (grow_trans (World.grownBy_alloc w1 _ _) hg2)
      clear HB1 hown1 hz1 hg2
      have hz2 := HB2.size
      go_wp2
      rw [rounds_succ]
      go_wp2_with (at_builtin; go_must (refine append_byteW rfl _ _ rfl w.heap.size _ _ rfl (hown2.alloc _) (61) _ ?c1 w2.heap.size rfl (obj_new w2 _) (by simp; omega) ?c2 ?_))
      case c1 => exact rfl
      case c2 => exact Nat.le_trans hz2 (by simp)
      intro v3 w3 hown3 hg3
      have HB3 := own_below HB2 hown2 hz2 (grow_trans (World.grownBy_alloc w2 _ _) hg3)
      clear HB2 hown2 hz2 hg3
      have hz3 := HB3.size
      go_wp2
      rw [rounds_succ]
      go_wp2
      refine ⟨⟨[], acc ++ [signD D0, signD D1, 61, 61], ?_, rfl, hown3, HB3⟩, by simp [encLen, ByteArray.size]⟩
      · have hacc := HA.out
        have hA := HhA.out
        have hD0 := HhD0.out
        have hD1 := HhD1.out
        rw [hacc]
        simp only [baseL, hD0, hD1, hA, List.append_assoc, List.cons_append, List.nil_append]
    | [a, b] =>
      have hz := HB.size
      have la := u8_lt a
      have c0 : ∀ h, ((ByteArray.mk ([a, b]).toArray)[0]'h).toNat = a.toNat := fun _ => rfl
      have lb := u8_lt b
      have c1 : ∀ h, ((ByteArray.mk ([a, b]).toArray)[1]'h).toNat = b.toNat := fun _ => rfl
      have hbl := Lib.hid (base_room l acc ([a, b]) hl hacc)
      have ha1 := baseL_len_le l
      have hal : acc.length + 4 ≤ 140737488355328 := by have := hbl.out; simp only [baseL, List.length_cons, List.length_nil] at this; omega
      clear ha1
      have HA := Lib.hid hacc
      clear hacc
      obtain ⟨A, hA⟩ : ∃ A, A = a.toNat := ⟨_, rfl⟩
      rw [← hA] at c0 la
      obtain ⟨B, hB⟩ : ∃ B, B = b.toNat := ⟨_, rfl⟩
      rw [← hB] at c1 lb
      have m0 : (A : Int) % 4294967296 = (A : Int) := by omega
      obtain ⟨N0, hN0⟩ : ∃ N0, N0 = A * 65536 := ⟨_, rfl⟩
      have m1 : (A : Int) * 65536 % 4294967296 = (N0 : Int) := by omega
      have o0 : bits .or .u32 0 (N0 : Int) = (N0 : Int) := or32_zero N0 (by omega)
      have n0 : (B : Int) % 4294967296 = (B : Int) := by omega
      obtain ⟨B1, hB1⟩ : ∃ B1, B1 = B * 256 := ⟨_, rfl⟩
      have n1 : (B : Int) * 256 % 4294967296 = (B1 : Int) := by omega
      obtain ⟨N1, hN1⟩ : ∃ N1, N1 = A * 65536 + B * 256 := ⟨_, rfl⟩
      have o1 : bits .or .u32 (N0 : Int) (B1 : Int) = (N1 : Int) := by rw [hN0, hB1, hN1]; exact or32_join 16 A _ (by omega) (by omega) (by omega)
      obtain ⟨D0, hD0⟩ : ∃ D, D = A / 4 := ⟨_, rfl⟩
      have d0 : bits .and .u32 (((N1 : Nat) : Int) / 262144) 63 = (D0 : Int) := and32_63 (N1 / 262144) _ _ (by omega) (by omega) (by omega)
      have e0 : (0 : Int) ≤ (D0 : Int) := by omega
      have f0 : (D0 : Int) < 64 := by omega
      have g0 : D0 < 64 := by omega
      obtain ⟨D1, hD1⟩ : ∃ D, D = A % 4 * 16 + B / 16 := ⟨_, rfl⟩
      have d1 : bits .and .u32 (((N1 : Nat) : Int) / 4096) 63 = (D1 : Int) := and32_63 (N1 / 4096) _ _ (by omega) (by omega) (by omega)
      have e1 : (0 : Int) ≤ (D1 : Int) := by omega
      have f1 : (D1 : Int) < 64 := by omega
      have g1 : D1 < 64 := by omega
      obtain ⟨D2, hD2⟩ : ∃ D, D = B % 16 * 4 := ⟨_, rfl⟩
      have d2 : bits .and .u32 (((N1 : Nat) : Int) / 64) 63 = (D2 : Int) := and32_63 (N1 / 64) _ _ (by omega) (by omega) (by omega)
      have e2 : (0 : Int) ≤ (D2 : Int) := by omega
      have f2 : (D2 : Int) < 64 := by omega
      have g2 : D2 < 64 := by omega
      have HhA := Lib.hid hA
      have HhB := Lib.hid hB
      have HhN0 := Lib.hid hN0
      have HhB1 := Lib.hid hB1
      have HhN1 := Lib.hid hN1
      have HhD0 := Lib.hid hD0
      have HhD1 := Lib.hid hD1
      have HhD2 := Lib.hid hD2
      clear hA hB hN0 hB1 hN1 hD0 hD1 hD2 la lb
      go_wp2
      refine wp_loop_rounds 4 ?_
      rw [rounds_succ]
      go_wp2
      rw [rounds_succ]
      go_wp2
      rw [rounds_succ]
      go_wp2
      clear c0 m0 m1 o0 c1 n0 n1 o1
      refine wp_loop_rounds 5 ?_
      rw [rounds_succ]
      go_wp2_with (at_builtin; go_must (refine append_byteW rfl _ _ rfl w.heap.size _ _ rfl (hown.alloc _) (signD D0) _ ?c1 wr.heap.size rfl (obj_new wr _) (by simp; omega) ?c2 ?_))
      case c1 => exact sign_cell D0 g0
      case c2 => exact Nat.le_trans hz (by simp)
      intro v0 w0 hown0 hg0
      have HB0 := own_below HB hown hz (grow_trans (World.grownBy_alloc wr _ _) hg0)
      clear HB hown hz hg0
      have hz0 := HB0.size
      go_wp2
      rw [rounds_succ]
      go_wp2_with (at_builtin; go_must (refine append_byteW rfl _ _ rfl w.heap.size _ _ rfl (hown0.alloc _) (signD D1) _ ?c1 w0.heap.size rfl (obj_new w0 _) (by simp; omega) ?c2 ?_))
      case c1 => exact sign_cell D1 g1
      case c2 => exact Nat.le_trans hz0 (by simp)
      intro v1 w1 hown1 hg1
      have HB1 := own_below HB0 hown0 hz0 (grow_trans (World.grownBy_alloc w0 _ _) hg1)
      clear HB0 hown0 hz0 hg1
      have hz1 := HB1.size
      go_wp2
      rw [rounds_succ]
      go_wp2_with (at_builtin; go_must (refine append_byteW rfl _ _ rfl w.heap.size _ _ rfl (hown1.alloc _) (signD D2) _ ?c1 w1.heap.size rfl (obj_new w1 _) (by simp; omega) ?c2 ?_))
      case c1 => exact sign_cell D2 g2
      case c2 => exact Nat.le_trans hz1 (by simp)
      intro v2 w2 hown2 hg2
      have HB2 := own_below HB1 hown1 hz1 (grow_trans (World.grownBy_alloc w1 _ _) hg2)
      clear HB1 hown1 hz1 hg2
      have hz2 := HB2.size
      go_wp2
      rw [rounds_succ]
      go_wp2_with (at_builtin; go_must (refine append_byteW rfl _ _ rfl w.heap.size _ _ rfl (hown2.alloc _) (61) _ ?c1 w2.heap.size rfl (obj_new w2 _) (by simp; omega) ?c2 ?_))
      case c1 => exact rfl
      case c2 => exact Nat.le_trans hz2 (by simp)
      intro v3 w3 hown3 hg3
      have HB3 := own_below HB2 hown2 hz2 (grow_trans (World.grownBy_alloc w2 _ _) hg3)
      clear HB2 hown2 hz2 hg3
      have hz3 := HB3.size
      go_wp2
      rw [rounds_succ]
      go_wp2
      refine ⟨⟨[], acc ++ [signD D0, signD D1, signD D2, 61], ?_, rfl, hown3, HB3⟩, by simp [encLen, ByteArray.size]⟩
      · have hacc := HA.out
        have hA := HhA.out
        have hB := HhB.out
        have hD0 := HhD0.out
        have hD1 := HhD1.out
        have hD2 := HhD2.out
        rw [hacc]
        simp only [baseL, hD0, hD1, hD2, hA, hB, List.append_assoc, List.cons_append, List.nil_append]
    | a :: b :: c :: r =>
      have hz := HB.size
      have la := u8_lt a
      have c0 : ∀ h, ((ByteArray.mk (a :: b :: c :: r).toArray)[0]'h).toNat = a.toNat := fun _ => rfl
      have lb := u8_lt b
      have c1 : ∀ h, ((ByteArray.mk (a :: b :: c :: r).toArray)[1]'h).toNat = b.toNat := fun _ => rfl
      have lc := u8_lt c
      have c2 : ∀ h, ((ByteArray.mk (a :: b :: c :: r).toArray)[2]'h).toNat = c.toNat := fun _ => rfl
      have hbl := Lib.hid (base_room l acc (a :: b :: c :: r) hl hacc)
      have ha1 := baseL_len_le l
      have hal : acc.length + 4 ≤ 140737488355328 := by have := hbl.out; simp only [baseL, List.length_cons, List.length_nil] at this; omega
      clear ha1
      have HA := Lib.hid hacc
      clear hacc
      obtain ⟨A, hA⟩ : ∃ A, A = a.toNat := ⟨_, rfl⟩
      rw [← hA] at c0 la
      obtain ⟨B, hB⟩ : ∃ B, B = b.toNat := ⟨_, rfl⟩
      rw [← hB] at c1 lb
      obtain ⟨C, hC⟩ : ∃ C, C = c.toNat := ⟨_, rfl⟩
      rw [← hC] at c2 lc
      have m0 : (A : Int) % 4294967296 = (A : Int) := by omega
      obtain ⟨N0, hN0⟩ : ∃ N0, N0 = A * 65536 := ⟨_, rfl⟩
      have m1 : (A : Int) * 65536 % 4294967296 = (N0 : Int) := by omega
      have o0 : bits .or .u32 0 (N0 : Int) = (N0 : Int) := or32_zero N0 (by omega)
      have n0 : (B : Int) % 4294967296 = (B : Int) := by omega
      obtain ⟨B1, hB1⟩ : ∃ B1, B1 = B * 256 := ⟨_, rfl⟩
      have n1 : (B : Int) * 256 % 4294967296 = (B1 : Int) := by omega
      obtain ⟨N1, hN1⟩ : ∃ N1, N1 = A * 65536 + B * 256 := ⟨_, rfl⟩
      have o1 : bits .or .u32 (N0 : Int) (B1 : Int) = (N1 : Int) := by rw [hN0, hB1, hN1]; exact or32_join 16 A _ (by omega) (by omega) (by omega)
      have p0 : (C : Int) % 4294967296 = (C : Int) := by omega
      obtain ⟨N2, hN2⟩ : ∃ N2, N2 = A * 65536 + B * 256 + C := ⟨_, rfl⟩
      have o2 : bits .or .u32 (N1 : Int) (C : Int) = (N2 : Int) := by rw [hN1, hN2, show A * 65536 + B * 256 = (A * 256 + B) * 256 from by omega]; exact or32_join 8 (A * 256 + B) _ (by omega) (by omega) (by omega)
      obtain ⟨D0, hD0⟩ : ∃ D, D = A / 4 := ⟨_, rfl⟩
      have d0 : bits .and .u32 (((N2 : Nat) : Int) / 262144) 63 = (D0 : Int) := and32_63 (N2 / 262144) _ _ (by omega) (by omega) (by omega)
      have e0 : (0 : Int) ≤ (D0 : Int) := by omega
      have f0 : (D0 : Int) < 64 := by omega
      have g0 : D0 < 64 := by omega
      obtain ⟨D1, hD1⟩ : ∃ D, D = A % 4 * 16 + B / 16 := ⟨_, rfl⟩
      have d1 : bits .and .u32 (((N2 : Nat) : Int) / 4096) 63 = (D1 : Int) := and32_63 (N2 / 4096) _ _ (by omega) (by omega) (by omega)
      have e1 : (0 : Int) ≤ (D1 : Int) := by omega
      have f1 : (D1 : Int) < 64 := by omega
      have g1 : D1 < 64 := by omega
      obtain ⟨D2, hD2⟩ : ∃ D, D = B % 16 * 4 + C / 64 := ⟨_, rfl⟩
      have d2 : bits .and .u32 (((N2 : Nat) : Int) / 64) 63 = (D2 : Int) := and32_63 (N2 / 64) _ _ (by omega) (by omega) (by omega)
      have e2 : (0 : Int) ≤ (D2 : Int) := by omega
      have f2 : (D2 : Int) < 64 := by omega
      have g2 : D2 < 64 := by omega
      obtain ⟨D3, hD3⟩ : ∃ D, D = C % 64 := ⟨_, rfl⟩
      have d3 : bits .and .u32 ((N2 : Int)) 63 = (D3 : Int) := and32_63 (N2) _ _ (by omega) (by omega) (by omega)
      have e3 : (0 : Int) ≤ (D3 : Int) := by omega
      have f3 : (D3 : Int) < 64 := by omega
      have g3 : D3 < 64 := by omega
      have HhA := Lib.hid hA
      have HhB := Lib.hid hB
      have HhC := Lib.hid hC
      have HhN0 := Lib.hid hN0
      have HhB1 := Lib.hid hB1
      have HhN1 := Lib.hid hN1
      have HhN2 := Lib.hid hN2
      have HhD0 := Lib.hid hD0
      have HhD1 := Lib.hid hD1
      have HhD2 := Lib.hid hD2
      have HhD3 := Lib.hid hD3
      clear hA hB hC hN0 hB1 hN1 hN2 hD0 hD1 hD2 hD3 la lb lc
      go_wp2
      refine wp_loop_rounds 4 ?_
      rw [rounds_succ]
      go_wp2
      rw [rounds_succ]
      go_wp2
      rw [rounds_succ]
      go_wp2
      rw [rounds_succ]
      go_wp2
      clear c0 m0 m1 o0 c1 n0 n1 o1 c2 p0 o2
      refine wp_loop_rounds 5 ?_
      rw [rounds_succ]
      go_wp2_with (at_builtin; go_must (refine append_byteW rfl _ _ rfl w.heap.size _ _ rfl (hown.alloc _) (signD D0) _ ?c1 wr.heap.size rfl (obj_new wr _) (by simp; omega) ?c2 ?_))
      case c1 => exact sign_cell D0 g0
      case c2 => exact Nat.le_trans hz (by simp)
      intro v0 w0 hown0 hg0
      have HB0 := own_below HB hown hz (grow_trans (World.grownBy_alloc wr _ _) hg0)
      clear HB hown hz hg0
      have hz0 := HB0.size
      go_wp2
      rw [rounds_succ]
      go_wp2_with (at_builtin; go_must (refine append_byteW rfl _ _ rfl w.heap.size _ _ rfl (hown0.alloc _) (signD D1) _ ?c1 w0.heap.size rfl (obj_new w0 _) (by simp; omega) ?c2 ?_))
      case c1 => exact sign_cell D1 g1
      case c2 => exact Nat.le_trans hz0 (by simp)
      intro v1 w1 hown1 hg1
      have HB1 := own_below HB0 hown0 hz0 (grow_trans (World.grownBy_alloc w0 _ _) hg1)
      clear HB0 hown0 hz0 hg1
      have hz1 := HB1.size
      go_wp2
      rw [rounds_succ]
      go_wp2_with (at_builtin; go_must (refine append_byteW rfl _ _ rfl w.heap.size _ _ rfl (hown1.alloc _) (signD D2) _ ?c1 w1.heap.size rfl (obj_new w1 _) (by simp; omega) ?c2 ?_))
      case c1 => exact sign_cell D2 g2
      case c2 => exact Nat.le_trans hz1 (by simp)
      intro v2 w2 hown2 hg2
      have HB2 := own_below HB1 hown1 hz1 (grow_trans (World.grownBy_alloc w1 _ _) hg2)
      clear HB1 hown1 hz1 hg2
      have hz2 := HB2.size
      go_wp2
      rw [rounds_succ]
      go_wp2_with (at_builtin; go_must (refine append_byteW rfl _ _ rfl w.heap.size _ _ rfl (hown2.alloc _) (signD D3) _ ?c1 w2.heap.size rfl (obj_new w2 _) (by simp; omega) ?c2 ?_))
      case c1 => exact sign_cell D3 g3
      case c2 => exact Nat.le_trans hz2 (by simp)
      intro v3 w3 hown3 hg3
      have HB3 := own_below HB2 hown2 hz2 (grow_trans (World.grownBy_alloc w2 _ _) hg3)
      clear HB2 hown2 hz2 hg3
      have hz3 := HB3.size
      go_wp2
      rw [rounds_succ]
      go_wp2
      refine ⟨⟨r, acc ++ [signD D0, signD D1, signD D2, signD D3], ?_, ext3 a b c r, hown3, HB3⟩, strLen_ext3 a b c r⟩
      · have hacc := HA.out
        have hA := HhA.out
        have hB := HhB.out
        have hC := HhC.out
        have hD0 := HhD0.out
        have hD1 := HhD1.out
        have hD2 := HhD2.out
        have hD3 := HhD3.out
        rw [hacc]
        simp only [baseL, hD0, hD1, hD2, hD3, hA, hB, hC, List.append_assoc, List.cons_append, List.nil_append]

end Go.Proofs.YtmomfbkpniblgaaGreatDoor
