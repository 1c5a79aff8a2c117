/- The walk of ChachaSplits. -/
import Derived.Test.YtfdbnkbnfappfaaChachaLaws
namespace Go.Proofs.Ytfdbnkbnfappfaa
open Go.RowKit
set_option linter.unusedVariables false

set_option maxRecDepth 20000 in
set_option maxHeartbeats 1000000 in
theorem walk_ChachaSplits (s0 s1 : ByteArray) (a2 a3 : Int) (s4 : ByteArray) (w0 : s0.size ≤ maxLen) (w1 : s1.size ≤ maxLen) (w2 : (Lit.int .u32 a2).wf = true) (w3 : (Lit.int .i64 a3).wf = true) (w4 : s4.size ≤ maxLen) (w : World) :
    Calls Try.prog 6 #[.string s0, .string s1, .int .u32 a2, .int .i64 a3, .string s4] w fun e w' => e = .returned (.bool true) ∧ Below w.heap.size w w' := by
  obtain ⟨k, rfl, hk⟩ := listB s0
  obtain ⟨o, rfl, ho⟩ := listB s1
  obtain ⟨s, rfl, hs⟩ := listB s4
  obtain ⟨n, rfl, h32⟩ : ∃ z : Nat, a2 = (z : Int) ∧ z < 4294967296 := by have := bounds_u32 w2; exact ⟨a2.toNat, by omega, by omega⟩
  have b3 := bounds_i64 w3
  unfold maxLen at w0 w1 w4
  rw [← hk] at w0
  rw [← ho] at w1
  rw [← hs] at w4
  clear hk ho hs w2 w3
  obtain ⟨m, m1, m2, hmin⟩ : ∃ m : Nat, m ≤ 500 ∧ m ≤ s.length ∧ min (s.length : Int) 500 = (m : Int) := ⟨min s.length 500, by omega, by omega, by omega⟩
  have r2 := rule_ext
  have r1 := rule_app
  have l1 : (s.take m).length ≤ 500 := by rw [List.length_take]; omega
  have A1 : ∀ W : World, Calls Try.prog 20 #[.string ⟨k.toArray⟩, .int .i64 32] W (Grown (S (sizedL k 32)) W) := fun W => code_sized W k 32 w0 (by omega)
  have A2 : ∀ W : World, Calls Try.prog 20 #[.string ⟨o.toArray⟩, .int .i64 12] W (Grown (S (sizedL o 12)) W) := fun W => code_sized W o 12 w1 (by omega)
  have kl := sizedL_length k 32
  have ol := sizedL_length o 12
  generalize sizedL k 32 = K at *
  generalize sizedL o 12 = O at *
  have KL := Lib.hid kl
  have OL := Lib.hid ol
  clear kl ol
  go_enter Try.func6, Try.ntmps6
  go_wp2_with (first
    | (go_at_call 20; (with_reducible refine (A1 _).mono ?_); rintro e x1 ⟨rfl, hg1⟩; unfold S)
    | (go_at_call 20; (with_reducible refine (A2 _).mono ?_); rintro e x2 ⟨rfl, hg2⟩; unfold S)
    | fail)
  have hg := grow_trans hg1 hg2
  clear A1 A2 hg1 hg2
  refine (rest_any a3 5 _ b3.1 b3.2 (by omega) (by omega)).mono ?_
  rintro e x3 ⟨rfl, rfl⟩
  obtain ⟨j, hj, j4⟩ : ∃ j : Nat, a3 % 5 = (j : Int) ∧ j ≤ 4 := ⟨(a3 % 5).toNat, by omega, by omega⟩
  rw [hj]
  clear hj b3
  go_wp2_with fail
  clear hmin
  generalize s.take m = s at *
  have e64 : 64 * (j : Int) = ((64 * j : Nat) : Int) := by omega
  rw [e64]
  clear e64
  refine (code_sized _ s (64 * j) (by omega) (by omega)).mono ?_
  rintro e x4 ⟨rfl, hg4⟩
  have fl := sizedL_length s (64 * j)
  generalize sizedL s (64 * j) = f at *
  have hfs : (f ++ s).length ≤ 2000 := by rw [List.length_append]; omega
  have hcat : f.length + s.length ≤ 9223372036854775807 := by omega
  have F1 := Lib.hid (chxL_split K O n j f s h32 fl)
  have F2 := Lib.hid (chxL_zeros K O n h32)
  have L1 := Lib.hid (chxL_length K O n f)
  have L2 := Lib.hid (chxL_length K O (addn32 n j) s)
  have LB := Lib.hid (blockL_length K O n)
  have HFS := Lib.hid hfs
  have f1 : f.length ≤ 256 := by omega
  have lo : (chxL K O n f).length ≤ 256 := by rw [L1.out]; omega
  have lp : (chxL K O (addn32 n j) s).length ≤ 500 := by rw [L2.out]; omega
  have hcat2 : (chxL K O n f).length + (chxL K O (addn32 n j) s).length ≤ 9223372036854775807 := by omega
  have hadd := Lib.hid (show ((n : Int) + (j : Int)) % 4294967296 = ((addn32 n j : Nat) : Int) from by unfold addn32; omega)
  have hjm : (j : Int) % 4294967296 = (j : Int) := by omega
  clear fl hfs
  unfold S

  go_wp2_with fail
  refine (code_cxor _ K O (f ++ s) n KL.out OL.out h32 HFS.out).mono ?_
  rintro e x5 ⟨rfl, hg5⟩
  rw [F1.out]
  unfold S
  go_wp2_with fail
  refine (code_cxor _ K O f n KL.out OL.out h32 (by omega)).mono ?_
  rintro e x6 ⟨rfl, hg6⟩
  unfold S
  go_wp2_with fail
  rw [hadd.out]
  refine (code_cxor _ K O s (addn32 n j) KL.out OL.out (Nat.mod_lt _ (by omega)) (by omega)).mono ?_
  rintro e x7 ⟨rfl, hg7⟩
  unfold S
  have hgA := grow_trans (grow_trans (grow_trans (grow_trans hg hg4) hg5) hg6) hg7
  clear hg hg4 hg5 hg6 hg7
  go_wp2_with fail
  refine (code_block _ K O n KL.out OL.out h32).mono ?_
  rintro e x8 ⟨rfl, hg8⟩
  unfold S
  go_wp2_with fail
  refine (code_zeros _ 64 (by omega)).mono ?_
  rintro e x9 ⟨rfl, hg9⟩
  have lz := zerosL_length 64
  generalize zerosL 64 = Z at *
  unfold S
  go_wp2_with fail
  refine (code_cxor _ K O Z n KL.out OL.out h32 (by omega)).mono ?_
  rintro e x10 ⟨rfl, hg10⟩
  rw [F2.out]
  unfold S
  have hgB := grow_trans (grow_trans (grow_trans hgA hg8) hg9) hg10
  clear hgA hg8 hg9 hg10
  have lb : ((blockL K O n).length : Int) = 64 := by rw [LB.out]; rfl
  generalize blockL K O n = bl at *
  generalize chxL K O n f = c1 at *
  generalize chxL K O (addn32 n j) s = c2 at *
  clear lz
  go_wp2_with fail
  go_ret
  exact ⟨rfl, grow_below hgB _ (Nat.le_refl _) (by simp)⟩


end Go.Proofs.Ytfdbnkbnfappfaa
