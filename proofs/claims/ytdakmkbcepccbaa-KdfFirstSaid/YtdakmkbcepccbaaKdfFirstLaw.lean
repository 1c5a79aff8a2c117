/- The walk of KdfFirst. -/
import Derived.Test.YtdakmkbcepccbaaEqStr
import Derived.Test.YtdakmkbcepccbaaLift
import Derived.Test.YtdakmkbcepccbaaRest
namespace Go.Proofs.Ytdakmkbcepccbaa
open Go.RowKit
set_option linter.unusedVariables false

theorem listB (s : ByteArray) : ∃ l : List UInt8, s = ⟨l.toArray⟩ ∧ l.length = s.size := ⟨s.data.toList, rfl, by rw [Array.length_toList]; rfl⟩
theorem outM_at (su : Nat) (p : List UInt8) (n i : Nat) (h : i < n) : (outM su p n)[i]'(by rw [outM_length]; exact h) = lastM su p (i + 1) := by
  unfold outM
  rw [List.getElem_map, List.getElem_range]

set_option maxHeartbeats 2000000 in
theorem walk_KdfFirst (x0 : Int) (s1 s2 : ByteArray) (w0 : (Lit.int .i64 x0).wf = true) (w1 : s1.size ≤ maxLen) (w2 : s2.size ≤ maxLen) (w : World)
    (z1 : s1.size ≤ 140737488351232) (z2 : s2.size ≤ 140737488351232) :
    Calls Try.prog 4 #[.int .i64 x0, .string s1, .string s2] w fun e w' => e = .returned (.bool true) ∧ Below w.heap.size w w' := by
  obtain ⟨key, rfl, hk⟩ := listB s1
  obtain ⟨s, rfl, hs⟩ := listB s2
  rw [← hk] at z1
  rw [← hs] at z2
  clear w1 w2 hk hs
  simp only [Lit.wf, Bool.and_eq_true, decide_eq_true_eq] at w0
  have w0' : -9223372036854775808 ≤ x0 ∧ x0 ≤ 9223372036854775807 := w0
  clear w0
  obtain ⟨r, hr, hr2⟩ : ∃ r : Nat, x0 % 2 = (r : Int) ∧ r < 2 := ⟨(x0 % 2).toNat, by omega, by omega⟩
  have RS : ∀ W : World, Calls Try.prog 13 #[.int .i64 x0, .int .i64 2] W fun e w' => e = .returned (.int .i64 (r : Int)) ∧ W = w' := fun W => by
    have := rest_any x0 2 W w0'.1 w0'.2 (by omega) (by omega)
    rw [hr] at this
    exact this
  obtain ⟨su, hsu, hsu12⟩ : ∃ su : Nat, (1 : Int) + (r : Int) = (su : Int) ∧ (su = 1 ∨ su = 2) := ⟨1 + r, by omega, by omega⟩
  have su2 : su ≤ 2 := by omega
  have D3 : ∀ W : World, Calls Try.prog 14 #[.int .i64 (su : Int), S key, S s, .int .i64 3] W (DerIs (outM su (macM su key s) 3) W) := fun W => code_derive W su hsu12 key s 3 (by omega) (by omega) (by omega) (by omega)
  have DN := fun (W : World) (n : Nat) (n1 : 1 ≤ n) (n3 : n ≤ 3) => code_derive W su hsu12 key s n n1 n3 (by omega) (by omega)
  have M1 := fun W : World => code_mac W su hsu12 key s (by omega) (by omega)
  have lp := macM_length su key s
  generalize macM su key s = p at *
  have M2 : ∀ W : World, Calls Try.prog 16 #[.int .i64 (su : Int), S p, S [1]] W (Grown (.tuple #[S (lastM su p 1), .int .i64 0]) W) := fun W => code_mac W su hsu12 p [1] (by omega) (by decide)
  have L1 : (lastM su p 1).length = 32 := macM_length _ _ _
  have L3 : (lastM su p 3).length = 32 := macM_length _ _ _
  have HDN := Lib.hid DN
  have HAT := Lib.hid (outM_at su p)
  have HOL := Lib.hid (outM_length su p)
  have hg : Hid (w.grownBy w none) := Lib.hid (grow_refl _ _)
  clear hr hr2 w0' z1 z2 hsu12 DN lp
  unfold S at *
  go_enter Try.func4, Try.ntmps4
  go_wp2_with fail
  (with_reducible refine (RS _).mono ?_)
  rintro e y ⟨rfl, rfl⟩
  clear RS
  go_wp2_with fail
  (with_reducible refine (D3 _).mono ?_)
  rintro e x ⟨v, rfl, hv, hgx⟩
  obtain ⟨g, cap, rfl, hbg, hgl, hlc, hcm, hcell⟩ := srow_cells hv (by intro e; have := HOL.out 3; rw [e] at this; simp at this)
  rw [HOL.out] at hlc ⊢
  have hcA : ∀ j, j < 3 → x.cell? ⟨g, j, none⟩ = some (S (lastM su p (j + 1))) := fun j hj => by have := hcell j (by rw [HOL.out]; omega); rwa [HAT.out 3 j hj] at this
  have c0 : x.cell? ⟨g, 0, none⟩ = some (S (lastM su p 1)) := hcA 0 (by omega)
  have c2 : x.cell? ⟨g, 2, none⟩ = some (S (lastM su p 3)) := hcA 2 (by omega)
  have HCA := Lib.hid hcA
  have HG := Lib.hid hgx
  have HCAP : cap ≤ 9223372036854775807 := by unfold maxLen at hcm; omega
  have HBG := Lib.hid hbg
  have HGL := Lib.hid hgl
  clear hv hgx hcell hcm D3 hg hbg hgl hcA
  unfold S at c0 c2
  have z1 : (((lastM su p 1).length : Int) != 32) = false := by rw [L1]; rfl
  have z2 : (((lastM su p 3).length : Int) != 32) = false := by rw [L3]; rfl
  have HL1 := Lib.hid L1
  have HL3 := Lib.hid L3
  clear L1 L3
  go_wp2_with fail
  clear c0 c2 z1 z2
  go_loopw [9] (fun v9 wr => ∃ i : Nat, 1 ≤ i ∧ i ≤ 3 ∧ v9 = .int .i64 i ∧ Hid (w.grownBy wr none) ∧ Hid (∀ j, j < 3 → wr.cell? ⟨g, j, none⟩ = some (S (lastM su p (j + 1)))) ∧ Hid (g < wr.heap.size)) (fun v9 _ => 3 - (intOf v9).toNat)
  case atStart => exact ⟨1, by omega, by omega, rfl, HG, HCA, HGL⟩
  case round =>
    clear HG HCA HGL
    obtain ⟨i, hi1, hi3, rfl, hg, hc, hgl⟩ := hrel
    by_cases hlt : i < 3
    · have hd : decide ((i : Int) < 3) = true := by simp; omega
      have D : ∀ W : World, Calls Try.prog 14 #[.int .i64 (su : Int), .string ⟨key.toArray⟩, .string ⟨s.toArray⟩, .int .i64 (i : Int)] W (DerIs (outM su p i) W) := fun W => HDN.out W i hi1 hi3
      go_wp2_with fail
      (with_reducible refine (D _).mono ?_)
      rintro e x2 ⟨v2, rfl, hv2, hgx2⟩
      obtain ⟨g2, cap2, rfl, hbg2, hgl2, hlc2, hcm2, hcell2⟩ := srow_cells hv2 (by intro e; have := HOL.out i; rw [e] at this; simp at this; omega)
      rw [HOL.out]
      have q1 : ∀ j (hj : j < (outM su p i).length), x2.cell? ⟨g, j, none⟩ = some (S (outM su p i)[j]) := fun j hj => by
        rw [HOL.out] at hj
        rw [World.cell?_of_block (hgx2.block g hgl.out (by simp)), HAT.out i j hj]
        exact hc.out j (by omega)
      have EQ := code_eqs x2 g2 g i cap2 cap (outM su p i) (HOL.out i) (by omega) hcell2 q1
      have HG2 := Lib.hid (grow_trans hg.out hgx2)
      have HC2 : Hid (∀ j, j < 3 → x2.cell? ⟨g, j, none⟩ = some (S (lastM su p (j + 1)))) := Lib.hid fun j hj => by
        rw [World.cell?_of_block (hgx2.block g hgl.out (by simp))]
        exact hc.out j hj
      have HGL2 := Lib.hid (Nat.lt_of_lt_of_le hgl.out hgx2.size)
      have HEQ := Lib.hid EQ
      clear hv2 hgx2 hcell2 q1 EQ hg hc hgl D hbg2 hgl2 hlc2 hcm2
      go_wp2_with fail
      (with_reducible refine (HEQ.out).mono ?_)
      rintro e x3 ⟨rfl, rfl⟩
      go_wp2_with fail
      go_roundw
      case rel => exact ⟨i + 1, by omega, by omega, by go_num, HG2, HC2, HGL2⟩
      case measure => simp [intOf]; omega
    · obtain rfl : i = 3 := by omega
      have hd : decide ((3 : Int) < 3) = false := by simp
      have c0 : wr.cell? ⟨g, 0, none⟩ = some (S (lastM su p 1)) := hc.out 0 (by omega)
      clear hc
      go_wp2_with fail
      (with_reducible refine (M1 _).mono ?_)
      rintro e x1 ⟨rfl, hg1⟩
      go_wp2_with fail
      (with_reducible refine (M2 _).mono ?_)
      rintro e x2 ⟨rfl, hg2⟩
      have k1 : x2.cell? ⟨g, 0, none⟩ = some (S (lastM su p 1)) := by
        rw [World.cell?_of_block (hg2.block g (Nat.lt_of_lt_of_le hgl.out hg1.size) (by simp)), World.cell?_of_block (hg1.block g hgl.out (by simp))]
        exact c0
      unfold S at k1
      go_wp2_with fail
      go_ret
      exact ⟨by simp, grow_below (grow_trans hg.out (grow_trans hg1 hg2)) _ (Nat.le_refl _) (by simp)⟩

end Go.Proofs.Ytdakmkbcepccbaa
