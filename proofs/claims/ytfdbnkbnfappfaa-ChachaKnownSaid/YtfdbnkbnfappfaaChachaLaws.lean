/- The walks of ChachaTwice, ChachaSplits, ChachaKnown. -/
import Derived.Test.YtfdbnkbnfappfaaStreamPlain
import Derived.Test.YtfdbnkbnfappfaaSubKey
import Derived.Test.YtfdbnkbnfappfaaXored
import Derived.Test.YtfdbnkbnfappfaaRunhex
import Derived.Test.YtfdbnkbnfappfaaRest
import Derived.Test.YtfdbnkbnfappfaaOpen
import Derived.Deep.RegionWith
import Derived.Deep.RegionHeld3
namespace Go.Proofs.Ytfdbnkbnfappfaa
open Go.RowKit
set_option linter.unusedVariables false

theorem listB (s : ByteArray) : ∃ l : List UInt8, s = ⟨l.toArray⟩ ∧ l.length = s.size := ⟨s.data.toList, rfl, by rw [Array.length_toList]; rfl⟩

set_option maxRecDepth 20000 in
set_option maxHeartbeats 1000000 in
theorem walk_ChachaTwice (s0 s1 : ByteArray) (a2 : Int) (s3 s4 : ByteArray) (w0 : s0.size ≤ maxLen) (w1 : s1.size ≤ maxLen) (w2 : (Lit.int .u32 a2).wf = true) (w3 : s3.size ≤ maxLen) (w4 : s4.size ≤ maxLen) (w : World) :
    Calls Try.prog 5 #[.string s0, .string s1, .int .u32 a2, .string s3, .string s4] w fun e w' => e = .returned (.bool true) ∧ Below w.heap.size w w' := by
  obtain ⟨k, rfl, hk⟩ := listB s0
  obtain ⟨o, rfl, ho⟩ := listB s1
  obtain ⟨s, rfl, hs⟩ := listB s3
  obtain ⟨t, rfl, ht⟩ := listB s4
  obtain ⟨n, rfl, h32⟩ : ∃ z : Nat, a2 = (z : Int) ∧ z < 4294967296 := by have := bounds_u32 w2; exact ⟨a2.toNat, by omega, by omega⟩
  unfold maxLen at w0 w1 w3 w4
  rw [← hk] at w0
  rw [← ho] at w1
  rw [← hs] at w3
  rw [← ht] at w4
  clear hk ho hs ht w2
  have r2 := rule_ext
  obtain ⟨m, m1, m2, hmin⟩ : ∃ m : Nat, m ≤ 1000 ∧ m ≤ s.length ∧ min (s.length : Int) 1000 = (m : Int) := ⟨min s.length 1000, by omega, by omega, by omega⟩
  have b0 : (0 : Int) ≤ (m : Int) := by omega
  have b1 : (m : Int) ≤ (s.length : Int) := by omega
  have A1 : ∀ W : World, Calls Try.prog 20 #[.string ⟨k.toArray⟩, .int .i64 32] W (Grown (S (sizedL k 32)) W) := fun W => code_sized W k 32 w0 (by omega)
  have A2 : ∀ W : World, Calls Try.prog 20 #[.string ⟨o.toArray⟩, .int .i64 12] W (Grown (S (sizedL o 12)) W) := fun W => code_sized W o 12 w1 (by omega)
  have kl := sizedL_length k 32
  have ol := sizedL_length o 12
  generalize sizedL k 32 = K at *
  generalize sizedL o 12 = O at *
  have KL := Lib.hid kl
  have OL := Lib.hid ol
  clear kl ol
  have l1 : (s.take m).length ≤ 1000 := by rw [List.length_take]; omega
  go_enter Try.func5, Try.ntmps5
  go_wp2_with fail
  go_region_held3 (fun _ => True) (first | trivial) (first
    | (go_at_call 20; (with_reducible refine (A1 _).mono ?_); rintro e x1 ⟨rfl, hg1⟩; unfold S)
    | (go_at_call 20; (with_reducible refine (A2 _).mono ?_); rintro e x2 ⟨rfl, hg2⟩; unfold S))
  all_goals
    have hg := grow_trans (grow_trans (grow_drew (grow_refl w none)) hg1) hg2
    clear A1 A2 hg1 hg2 hmin b0 b1
    generalize s.take m = s1 at *
    have KS := Lib.hid (sizedL_length t s1.length)
    go_wp2_with fail
    refine (code_sized x2 t s1.length w4 (by omega)).mono ?_
    rintro e x3 ⟨rfl, hg3⟩
    generalize sizedL t s1.length = t1 at *
    have F1 := Lib.hid (chxL_twice K O n s1 h32)
    have F2 := Lib.hid (chxL_pair K O n s1 t1 h32 KS.out)
    have L1 := Lib.hid (chxL_length K O n s1)
    have L2 := Lib.hid (chxL_length K O n t1)
    have lt1 : t1.length ≤ 1000 := by rw [KS.out]; omega
    have la1 : (chxL K O n s1).length ≤ 1000 := by rw [L1.out]; omega
    have lc1 : (chxL K O n t1).length ≤ 1000 := by rw [L2.out]; omega
    unfold S
    go_wp2_with fail
    refine (code_cxor _ K O s1 n KL.out OL.out h32 (by omega)).mono ?_
    rintro e x4 ⟨rfl, hg4⟩
    unfold S
    go_wp2_with fail
    refine (code_cxor _ K O (chxL K O n s1) n KL.out OL.out h32 (by omega)).mono ?_
    rintro e x5 ⟨rfl, hg5⟩
    rw [F1.out]
    unfold S
    go_wp2_with fail
    refine (code_cxor _ K O t1 n KL.out OL.out h32 (by omega)).mono ?_
    rintro e x6 ⟨rfl, hg6⟩
    have lcl : ((chxL K O n t1).length : Int) = ((chxL K O n s1).length : Int) := by rw [L1.out, L2.out, KS.out]
    have hgA := grow_trans (grow_trans (grow_trans (grow_trans hg hg3) hg4) hg5) hg6
    clear hg hg3 hg4 hg5 hg6
    generalize chxL K O n s1 = c1 at *
    generalize chxL K O n t1 = c2 at *
    unfold S
    go_wp2_with fail
    refine (keep_xored _ c1 c2 (by omega) (by omega)).mono ?_
    rintro e x7 ⟨rfl, hg7⟩
    rw [F2.out]
    unfold S
    go_wp2_with fail
    refine (keep_xored _ s1 t1 (by omega) (by omega)).mono ?_
    rintro e x8 ⟨rfl, hg8⟩
    unfold S
    go_wp2_with fail
    go_ret
    exact ⟨rfl, grow_below (grow_trans (grow_trans hgA hg7) hg8) _ (Nat.le_refl _) (by simp)⟩

theorem code_bytes (w : World) (l r : List UInt8) (hl : l.length ≤ 1000000) (hok : okR l = true) (hr : unhexR l = r) : Calls Try.prog 16 #[S l] w (Grown (S r) w) := by
  subst hr
  unfold S
  go_enter Try.func16, Try.ntmps16
  go_wp2_with fail
  refine (code_unhexR w l hl hok).mono ?_
  rintro e w1 ⟨rfl, hg⟩
  unfold S
  go_wp2_with fail
  go_ret
  exact ⟨rfl, hg⟩

/-- The vectors, reckoned by the kernel. -/
def kKey : List UInt8 := [0, 1, 2, 3, 4, 5, 6, 7, 8, 9, 10, 11, 12, 13, 14, 15, 16, 17, 18, 19, 20, 21, 22, 23, 24, 25, 26, 27, 28, 29, 30, 31]
def hexK : List UInt8 := [48, 48, 48, 49, 48, 50, 48, 51, 48, 52, 48, 53, 48, 54, 48, 55, 48, 56, 48, 57, 48, 97, 48, 98, 48, 99, 48, 100, 48, 101, 48, 102, 49, 48, 49, 49, 49, 50, 49, 51, 49, 52, 49, 53, 49, 54, 49, 55, 49, 56, 49, 57, 49, 97, 49, 98, 49, 99, 49, 100, 49, 101, 49, 102]
def hexN : List UInt8 := [48, 48, 48, 48, 48, 48, 48, 57, 48, 48, 48, 48, 48, 48, 52, 97, 48, 48, 48, 48, 48, 48, 48, 48]
def hexN2 : List UInt8 := [48, 48, 48, 48, 48, 48, 48, 57, 48, 48, 48, 48, 48, 48, 52, 97, 48, 48, 48, 48, 48, 48, 48, 48, 51, 49, 52, 49, 53, 57, 50, 55]
def hexP : List UInt8 := [49, 48, 102, 49, 101, 55, 101, 52, 100, 49, 51, 98, 53, 57, 49, 53, 53, 48, 48, 102, 100, 100, 49, 102, 97, 51, 50, 48, 55, 49, 99, 52]
def hexQ : List UInt8 := [56, 50, 52, 49, 51, 98, 52, 50, 50, 55, 98, 50, 55, 98, 102, 101, 100, 51, 48, 101, 52, 50, 53, 48, 56, 97, 56, 55, 55, 100, 55, 51, 97, 48, 102, 57, 101, 52, 100, 53, 56, 97, 55, 52, 97, 56, 53, 51, 99, 49, 50, 101, 99, 52, 49, 51, 50, 54, 100, 51, 101, 99, 100, 99]
def vP : List UInt8 := [16, 241, 231, 228, 209, 59, 89, 21, 80, 15, 221, 31, 163, 32, 113, 196]
def vQ : List UInt8 := [130, 65, 59, 66, 39, 178, 123, 254, 211, 14, 66, 80, 138, 135, 125, 115, 160, 249, 228, 213, 138, 116, 168, 83, 193, 46, 196, 19, 38, 211, 236, 220]

theorem vec_k : okR hexK = true ∧ unhexR hexK = kKey := by decide +kernel
theorem vec_n : okR hexN = true ∧ unhexR hexN = [0, 0, 0, 9, 0, 0, 0, 74, 0, 0, 0, 0] := by decide +kernel
theorem vec_n2 : okR hexN2 = true ∧ unhexR hexN2 = [0, 0, 0, 9, 0, 0, 0, 74, 0, 0, 0, 0, 49, 65, 89, 39] := by decide +kernel
theorem vec_p : okR hexP = true ∧ unhexR hexP = vP := by decide +kernel
theorem vec_q : okR hexQ = true ∧ unhexR hexQ = vQ := by decide +kernel
theorem vec_block : Lib.hasPrefix (blockL kKey [0, 0, 0, 9, 0, 0, 0, 74, 0, 0, 0, 0] 1) vP = true := by decide +kernel
theorem vec_sub : subL kKey [0, 0, 0, 9, 0, 0, 0, 74, 0, 0, 0, 0, 49, 65, 89, 39] = vQ := by decide +kernel

end Go.Proofs.Ytfdbnkbnfappfaa
