/- The walks of AesKeys, AesBack, AesKnown. -/
import Derived.Test.YtpeheefpidggfaaAesNew
import Derived.Test.YtpeheefpidggfaaKeepBytes
import Derived.Test.YtpeheefpidggfaaOpen
namespace Go.Proofs.Ytpeheefpidggfaa
open Go.RowKit
set_option linter.unusedVariables false

set_option maxHeartbeats 1000000 in
theorem walk_AesKeys (s0 : ByteArray) (w0 : s0.size ≤ maxLen) (w : World) :
    Calls Try.prog 3 #[.string s0] w fun e w' => e = .returned (.bool true) ∧ Below w.heap.size w w' := by
  obtain ⟨k, rfl, hk⟩ := listB s0
  clear hk w0
  by_cases h : k.length = 16 ∨ k.length = 32
  · have hp := expL_pre k h
    have hpre : Lib.hasPrefix (ByteArray.mk (expL k).toArray).data.toList (ByteArray.mk k.toArray).data.toList = true := by
      obtain ⟨r, hr⟩ := hp.2
      rw [hr]
      show List.isPrefixOf k (k ++ r) = true
      rw [List.isPrefixOf_iff_prefix]
      exact List.prefix_append k r
    have hlen : ((expL k).length : Int) = 16 * ((k.length : Int) / 4 + 7) := by rw [hp.1]; omega
    have hC := fun W : World => code_expand W k h
    generalize expL k = X at *
    have HP := Lib.hid hpre
    have q1 : ((X.length : Int) == 16 * ((k.length : Int) / 4 + 7)) = true := by simpa using hlen
    clear hp hpre hlen
    have q2 : (((k.length : Int) != 16) = false ∧ True) ∨ (((k.length : Int) != 16) = true ∧ ((k.length : Int) != 32) = false) := by
      rcases h with h | h
      · left; refine ⟨?_, trivial⟩; simp; omega
      · right; refine ⟨?_, ?_⟩ <;> simp <;> omega
    have hb : k.length ≤ 32 := by omega
    clear h
    unfold S at *
    rcases q2 with ⟨q2, _⟩ | ⟨q2, q3⟩
    · go_enter Try.func3, Try.ntmps3
      go_wp2_with fail
      refine (hC _).mono ?_
      rintro e x1 ⟨rfl, hg⟩
      go_wp2_with fail
      refine (Try.strings_HasPrefix _ _ _).mono ?_
      rintro e x7 ⟨rfl, rfl⟩
      rw [HP.out]
      go_wp2_with fail
      go_ret
      exact ⟨rfl, grow_below hg _ (Nat.le_refl _) (by simp)⟩
    · go_enter Try.func3, Try.ntmps3
      go_wp2_with fail
      refine (hC _).mono ?_
      rintro e x1 ⟨rfl, hg⟩
      go_wp2_with fail
      refine (Try.strings_HasPrefix _ _ _).mono ?_
      rintro e x7 ⟨rfl, rfl⟩
      rw [HP.out]
      go_wp2_with fail
      go_ret
      exact ⟨rfl, grow_below hg _ (Nat.le_refl _) (by simp)⟩
  · have q2 : ((k.length : Int) != 16) = true := by simp; omega
    have q3 : ((k.length : Int) != 32) = true := by simp; omega
    have hC := fun W : World => code_expand_err W k h
    clear h
    unfold S at *
    go_enter Try.func3, Try.ntmps3
    go_wp2_with fail
    refine (hC _).mono ?_
    rintro e x1 ⟨rfl, rfl⟩
    go_wp2_with fail
    go_ret
    exact ⟨rfl, Below.refl _ _⟩

set_option maxHeartbeats 1000000 in
theorem back_key (w : World) (b : List UInt8) (K : List UInt8) (hK : K.length = 16 ∨ K.length = 32) (hb : b.length = 16) :
    (∀ W : World, Calls Try.prog 15 #[S K, S b] W fun e w' => e = .returned (.tuple #[S (encL K b), .int .i64 0]) ∧ W.grownBy w' none) ∧
    (∀ W : World, Calls Try.prog 18 #[S K, S (encL K b)] W fun e w' => e = .returned (.tuple #[S b, .int .i64 0]) ∧ W.grownBy w' none) ∧
    (∀ W : World, Calls Try.prog 18 #[S K, S b] W fun e w' => e = .returned (.tuple #[S (decL K b), .int .i64 0]) ∧ W.grownBy w' none) ∧
    (∀ W : World, Calls Try.prog 15 #[S K, S (decL K b)] W fun e w' => e = .returned (.tuple #[S b, .int .i64 0]) ∧ W.grownBy w' none) :=
  ⟨fun W => code_aenc W K b hK hb, fun W => by
    have := code_adec W K (encL K b) hK (encL_length K b hK hb)
    rwa [decL_encL K b hK hb] at this, fun W => code_adec W K b hK hb, fun W => by
    have := code_aenc W K (decL K b) hK (decL_length K b hK hb)
    rwa [encL_decL K b hK hb] at this⟩

set_option maxHeartbeats 1000000 in
theorem walk_AesBack (s0 s1 : ByteArray) (b2 : Bool) (w0 : s0.size ≤ maxLen) (w1 : s1.size ≤ maxLen) (w : World) :
    Calls Try.prog 5 #[.string s0, .string s1, .bool b2] w fun e w' => e = .returned (.bool true) ∧ Below w.heap.size w w' := by
  obtain ⟨k, rfl, hk⟩ := listB s0
  obtain ⟨b, rfl, hb⟩ := listB s1
  unfold maxLen at w0 w1
  rw [← hk] at w0
  rw [← hb] at w1
  clear hk hb
  have A1 : ∀ W : World, Calls Try.prog 17 #[.string ⟨k.toArray⟩, .int .i64 32] W (Grown (S (sizedL k 32)) W) := fun W => code_sized W k 32 w0 (by omega)
  have A2 : ∀ W : World, Calls Try.prog 17 #[.string ⟨b.toArray⟩, .int .i64 16] W (Grown (S (sizedL b 16)) W) := fun W => code_sized W b 16 w1 (by omega)
  have lk := sizedL_length k 32
  have lb := sizedL_length b 16
  generalize sizedL k 32 = K at *
  generalize sizedL b 16 = B at *
  cases b2
  · have lt : (K.take 16).length = 16 := by rw [List.length_take]; omega
    obtain ⟨C1, C2, C3, C4⟩ := back_key w B (K.take 16) (Or.inl lt) lb
    have le := encL_length (K.take 16) B (Or.inl lt) lb
    have ld := decL_length (K.take 16) B (Or.inl lt) lb
    generalize encL (K.take 16) B = E at *
    generalize decL (K.take 16) B = D at *
    have q1 : ((E.length : Int) == 16) = true := by simp; omega
    have q2 : ((D.length : Int) == 16) = true := by simp; omega
    have k1 : (16 : Int) ≤ (K.length : Int) := by omega
    have k2 : 16 ≤ K.length := by omega
    have r2 := rule_ext
    clear lk lb lt le ld w0 w1
    unfold S at *
    go_enter Try.func5, Try.ntmps5
    go_wp2_with (first
      | (go_at_call 17; (with_reducible refine (A1 _).mono ?_); rintro e x1 ⟨rfl, hg1⟩)
      | (go_at_call 17; (with_reducible refine (A2 _).mono ?_); rintro e x2 ⟨rfl, hg2⟩)
      | fail)
    refine (C1 _).mono ?_
    rintro e x3 ⟨rfl, hg3⟩
    have hgA := grow_trans (grow_trans hg1 hg2) hg3
    clear hg1 hg2 hg3
    go_wp2_with fail
    refine (C2 _).mono ?_
    rintro e x4 ⟨rfl, hg4⟩
    go_wp2_with fail
    refine (C3 _).mono ?_
    rintro e x5 ⟨rfl, hg5⟩
    go_wp2_with fail
    refine (C4 _).mono ?_
    rintro e x6 ⟨rfl, hg6⟩
    go_wp2_with fail
    go_ret
    exact ⟨rfl, grow_below (grow_trans (grow_trans (grow_trans hgA hg4) hg5) hg6) _ (Nat.le_refl _) (by simp)⟩
  · obtain ⟨C1, C2, C3, C4⟩ := back_key w B K (Or.inr lk) lb
    have le := encL_length K B (Or.inr lk) lb
    have ld := decL_length K B (Or.inr lk) lb
    generalize encL K B = E at *
    generalize decL K B = D at *
    have q1 : ((E.length : Int) == 16) = true := by simp; omega
    have q2 : ((D.length : Int) == 16) = true := by simp; omega
    clear lk lb le ld w0 w1
    unfold S at *
    go_enter Try.func5, Try.ntmps5
    go_wp2_with (first
      | (go_at_call 17; (with_reducible refine (A1 _).mono ?_); rintro e x1 ⟨rfl, hg1⟩)
      | (go_at_call 17; (with_reducible refine (A2 _).mono ?_); rintro e x2 ⟨rfl, hg2⟩)
      | fail)
    refine (C1 _).mono ?_
    rintro e x3 ⟨rfl, hg3⟩
    have hgA := grow_trans (grow_trans hg1 hg2) hg3
    clear hg1 hg2 hg3
    go_wp2_with fail
    refine (C2 _).mono ?_
    rintro e x4 ⟨rfl, hg4⟩
    go_wp2_with fail
    refine (C3 _).mono ?_
    rintro e x5 ⟨rfl, hg5⟩
    go_wp2_with fail
    refine (C4 _).mono ?_
    rintro e x6 ⟨rfl, hg6⟩
    go_wp2_with fail
    go_ret
    exact ⟨rfl, grow_below (grow_trans (grow_trans (grow_trans hgA hg4) hg5) hg6) _ (Nat.le_refl _) (by simp)⟩

def ahB : List UInt8 := [48, 48, 49, 49, 50, 50, 51, 51, 52, 52, 53, 53, 54, 54, 55, 55, 56, 56, 57, 57, 97, 97, 98, 98, 99, 99, 100, 100, 101, 101, 102, 102]
def ahK1 : List UInt8 := [48, 48, 48, 49, 48, 50, 48, 51, 48, 52, 48, 53, 48, 54, 48, 55, 48, 56, 48, 57, 48, 97, 48, 98, 48, 99, 48, 100, 48, 101, 48, 102]
def ahK2 : List UInt8 := [48, 48, 48, 49, 48, 50, 48, 51, 48, 52, 48, 53, 48, 54, 48, 55, 48, 56, 48, 57, 48, 97, 48, 98, 48, 99, 48, 100, 48, 101, 48, 102, 49, 48, 49, 49, 49, 50, 49, 51, 49, 52, 49, 53, 49, 54, 49, 55, 49, 56, 49, 57, 49, 97, 49, 98, 49, 99, 49, 100, 49, 101, 49, 102]
def ahK3 : List UInt8 := [50, 98, 55, 101, 49, 53, 49, 54, 50, 56, 97, 101, 100, 50, 97, 54, 97, 98, 102, 55, 49, 53, 56, 56, 48, 57, 99, 102, 52, 102, 51, 99]
def ahC1 : List UInt8 := [54, 57, 99, 52, 101, 48, 100, 56, 54, 97, 55, 98, 48, 52, 51, 48, 100, 56, 99, 100, 98, 55, 56, 48, 55, 48, 98, 52, 99, 53, 53, 97]
def ahC2 : List UInt8 := [56, 101, 97, 50, 98, 55, 99, 97, 53, 49, 54, 55, 52, 53, 98, 102, 101, 97, 102, 99, 52, 57, 57, 48, 52, 98, 52, 57, 54, 48, 56, 57]
def ahC3 : List UInt8 := [100, 48, 49, 52, 102, 57, 97, 56, 99, 57, 101, 101, 50, 53, 56, 57, 101, 49, 51, 102, 48, 99, 99, 56, 98, 54, 54, 51, 48, 99, 97, 54]
def avB : List UInt8 := [0, 17, 34, 51, 68, 85, 102, 119, 136, 153, 170, 187, 204, 221, 238, 255]
def avK1 : List UInt8 := [0, 1, 2, 3, 4, 5, 6, 7, 8, 9, 10, 11, 12, 13, 14, 15]
def avK2 : List UInt8 := [0, 1, 2, 3, 4, 5, 6, 7, 8, 9, 10, 11, 12, 13, 14, 15, 16, 17, 18, 19, 20, 21, 22, 23, 24, 25, 26, 27, 28, 29, 30, 31]
def avK3 : List UInt8 := [43, 126, 21, 22, 40, 174, 210, 166, 171, 247, 21, 136, 9, 207, 79, 60]
def avC1 : List UInt8 := [105, 196, 224, 216, 106, 123, 4, 48, 216, 205, 183, 128, 112, 180, 197, 90]
def avC2 : List UInt8 := [142, 162, 183, 202, 81, 103, 69, 191, 234, 252, 73, 144, 75, 73, 96, 137]
def avC3 : List UInt8 := [208, 20, 249, 168, 201, 238, 37, 137, 225, 63, 12, 200, 182, 99, 12, 166]
theorem au0 : okR ahB = true ∧ unhexR ahB = avB := by decide +kernel
theorem au1 : okR ahK1 = true ∧ unhexR ahK1 = avK1 := by decide +kernel
theorem au2 : okR ahK2 = true ∧ unhexR ahK2 = avK2 := by decide +kernel
theorem au3 : okR ahK3 = true ∧ unhexR ahK3 = avK3 := by decide +kernel
theorem au4 : okR ahC1 = true ∧ unhexR ahC1 = avC1 := by decide +kernel
theorem au5 : okR ahC2 = true ∧ unhexR ahC2 = avC2 := by decide +kernel
theorem au6 : okR ahC3 = true ∧ unhexR ahC3 = avC3 := by decide +kernel
theorem ae1 : encL avK1 avB = avC1 := by decide +kernel
theorem ae2 : encL avK2 avB = avC2 := by decide +kernel
theorem ae3 : Lib.hasSuffix (expL avK3) avC3 = true ∧ (expL avK3).length ≤ 1000 := by decide +kernel

set_option maxHeartbeats 1000000 in
theorem walk_AesKnown (w : World) :
    Calls Try.prog 4 #[] w fun e w' => e = .returned (.bool true) ∧ Below w.heap.size w w' := by
  have B1 : ∀ W : World, Calls Try.prog 15 #[S avK1, S avB] W fun e w' => e = .returned (.tuple #[S avC1, .int .i64 0]) ∧ W.grownBy w' none := fun W => by
    have := code_aenc W avK1 avB (Or.inl (by decide)) (by decide)
    rwa [ae1] at this
  have B2 : ∀ W : World, Calls Try.prog 15 #[S avK2, S avB] W fun e w' => e = .returned (.tuple #[S avC2, .int .i64 0]) ∧ W.grownBy w' none := fun W => by
    have := code_aenc W avK2 avB (Or.inr (by decide)) (by decide)
    rwa [ae2] at this
  have B3 : ∀ W : World, Calls Try.prog 12 #[S avK3] W fun e w' => e = .returned (.tuple #[S (expL avK3), .int .i64 0]) ∧ W.grownBy w' none := fun W => code_expand W avK3 (Or.inl (by decide))
  have A0 : ∀ W : World, Calls Try.prog 14 #[S ahB] W (Grown (S avB) W) := fun W => code_bytes W ahB avB (by decide) au0.1 au0.2
  have A1 : ∀ W : World, Calls Try.prog 14 #[S ahK1] W (Grown (S avK1) W) := fun W => code_bytes W ahK1 avK1 (by decide) au1.1 au1.2
  have A2 : ∀ W : World, Calls Try.prog 14 #[S ahK2] W (Grown (S avK2) W) := fun W => code_bytes W ahK2 avK2 (by decide) au2.1 au2.2
  have A3 : ∀ W : World, Calls Try.prog 14 #[S ahK3] W (Grown (S avK3) W) := fun W => code_bytes W ahK3 avK3 (by decide) au3.1 au3.2
  have A4 : ∀ W : World, Calls Try.prog 14 #[S ahC1] W (Grown (S avC1) W) := fun W => code_bytes W ahC1 avC1 (by decide) au4.1 au4.2
  have A5 : ∀ W : World, Calls Try.prog 14 #[S ahC2] W (Grown (S avC2) W) := fun W => code_bytes W ahC2 avC2 (by decide) au5.1 au5.2
  have A6 : ∀ W : World, Calls Try.prog 14 #[S ahC3] W (Grown (S avC3) W) := fun W => code_bytes W ahC3 avC3 (by decide) au6.1 au6.2
  have hsuf := ae3
  generalize expL avK3 = X at *
  generalize avB = vB at *
  generalize avK1 = vK1 at *
  generalize avK2 = vK2 at *
  generalize avK3 = vK3 at *
  generalize avC1 = vC1 at *
  generalize avC2 = vC2 at *
  generalize avC3 = vC3 at *
  have HS := Lib.hid hsuf
  clear hsuf
  unfold S at *
  unfold ahB at A0
  unfold ahK1 at A1
  unfold ahK2 at A2
  unfold ahK3 at A3
  unfold ahC1 at A4
  unfold ahC2 at A5
  unfold ahC3 at A6
  go_enter Try.func4, Try.ntmps4
  go_wp2_with fail
  refine (A0 _).mono ?_
  rintro e x0 ⟨rfl, hg0⟩
  go_wp2_with fail
  refine (A1 _).mono ?_
  rintro e x1 ⟨rfl, hg1⟩
  go_wp2_with fail
  refine (B1 _).mono ?_
  rintro e x2 ⟨rfl, hg2⟩
  have G2 := grow_trans (grow_trans hg0 hg1) hg2
  clear hg0 hg1 hg2 A0 A1 B1
  go_wp2_with fail
  refine (A2 _).mono ?_
  rintro e x3 ⟨rfl, hg3⟩
  go_wp2_with fail
  refine (B2 _).mono ?_
  rintro e x4 ⟨rfl, hg4⟩
  have G4 := grow_trans (grow_trans G2 hg3) hg4
  clear G2 hg3 hg4 A2 B2
  go_wp2_with fail
  refine (A3 _).mono ?_
  rintro e x5 ⟨rfl, hg5⟩
  go_wp2_with fail
  refine (B3 _).mono ?_
  rintro e x6 ⟨rfl, hg6⟩
  have G6 := grow_trans (grow_trans G4 hg5) hg6
  clear G4 hg5 hg6 A3 B3
  go_wp2_with fail
  refine (A4 _).mono ?_
  rintro e x7 ⟨rfl, hg7⟩
  go_wp2_with fail
  refine (A5 _).mono ?_
  rintro e x8 ⟨rfl, hg8⟩
  go_wp2_with fail
  refine (A6 _).mono ?_
  rintro e x9 ⟨rfl, hg9⟩
  have G9 := grow_trans (grow_trans (grow_trans G6 hg7) hg8) hg9
  clear G6 hg7 hg8 hg9 A4 A5 A6
  go_wp2_with fail
  refine (Try.strings_HasSuffix _ _ _ (by have := HS.out.2; simp only [ByteArray.size, List.size_toArray]; omega)).mono ?_
  rintro e x10 ⟨rfl, rfl⟩
  rw [show Lib.hasSuffix (ByteArray.mk X.toArray).data.toList (ByteArray.mk vC3.toArray).data.toList = true from HS.out.1]
  go_wp2_with fail
  go_ret
  exact ⟨rfl, grow_below G9 _ (Nat.le_refl _) (by simp)⟩

end Go.Proofs.Ytpeheefpidggfaa
