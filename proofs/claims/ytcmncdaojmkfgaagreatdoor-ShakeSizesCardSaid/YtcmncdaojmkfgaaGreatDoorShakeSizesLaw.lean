/- The walk of ShakeSizes. -/
import Derived.Test.YtcmncdaojmkfgaaGreatDoorShakeMeetsLaw
import Derived.Test.YtcmncdaojmkfgaaGreatDoorShakeHearNo
namespace Go.Proofs.YtcmncdaojmkfgaaGreatDoor
open Go.RowKit
set_option linter.unusedVariables false

set_option maxRecDepth 20000 in
set_option maxHeartbeats 4000000 in
theorem walk_ShakeSizes (c0 : Int) (s1 s2 s3 s4 s5 s6 : ByteArray) (n7 n8 n9 : Int) (s10 : ByteArray) (h0 : (Lit.int .i64 c0).wf = true) (w1 : s1.size ≤ maxLen) (w2 : s2.size ≤ maxLen) (w3 : s3.size ≤ maxLen) (w4 : s4.size ≤ maxLen) (w5 : s5.size ≤ maxLen) (w6 : s6.size ≤ maxLen)
    (h7 : (Lit.int .u32 n7).wf = true) (h8 : (Lit.int .u32 n8).wf = true) (h9 : (Lit.int .i64 n9).wf = true) (w10 : s10.size ≤ maxLen) (w : World) (z4 : s4.size ≤ 140737488351232) (z5 : s5.size ≤ 140737488351232) (z6 : s6.size ≤ 140737488351232) (zA : s10.size ≤ 140737488351232) :
    Calls Tryz.prog 4 #[.agg #[.int .i64 c0, .string s1, .string s2, .string s3], .string s4, .string s5, .string s6, .int .u32 n7, .int .u32 n8, .int .i64 n9, .string s10] w fun e w' => e = .returned (.bool true) ∧ Below w.heap.size w w' := by
  obtain ⟨cown, rfl, e1⟩ := list_of s1
  obtain ⟨cpeer, rfl, e2⟩ := list_of s2
  obtain ⟨cpsk, rfl, e3⟩ := list_of s3
  obtain ⟨peer, rfl, e4⟩ := list_of s4
  obtain ⟨once, rfl, e5⟩ := list_of s5
  obtain ⟨other, rfl, e6⟩ := list_of s6
  obtain ⟨rest, rfl, eA⟩ := list_of s10
  rw [← e1] at w1
  rw [← e3] at w3
  rw [← e4] at w4
  rw [← e5] at w5
  rw [← e6] at w6
  rw [← eA] at zA
  obtain ⟨t, o, AM⟩ := met_law c0 1 1 cown cpeer cpsk peer once other n7 n8 w1 w3 w4 w5 w6 h0 rfl rfl h7 h8
  obtain ⟨ha, hb⟩ := wf_i64_of h9
  obtain ⟨r, hr, R⟩ := rest_nat n9 115 115 rfl ha hb (by decide) (by decide)
  have lf := o.first_length
  have ls := o.second_length
  have AM1 := AM (w.alloc (.cells #[.int .i64 c0, S cown, S cpeer, S cpsk] 23))
  have AZ : ∀ W : World, Calls Tryz.prog 7 #[S peer, .int .i64 32] W (Grown (S (sizedL peer 32)) W) := fun W => code_sized W peer 32 (by unfold maxLen at w4; omega) (by omega)
  have lp := sizedL_length peer 32
  unfold MetTo at AM1
  clear AM o w1 w2 w3 w4 w5 w6 w10 z4 z5 z6 e1 e2 e3 e4 e5 e6 eA h0 h7 h8 h9 ha hb
  generalize t.first = first at *
  generalize t.second = second at *
  generalize t.k1 = k1 at *
  generalize t.k2 = k2 at *
  generalize sizedL peer 32 = own at *
  have N1 := fun W : World => code_shear_no W own (first.take r) lp 4 rfl (fun W => code_sform_short W _ 1 115 (by rw [List.length_take]; omega) (by omega))
  have N2 := fun W : World => code_shear_no W own (first ++ [120] ++ rest) lp 5 rfl (fun W => code_sform_long W _ 1 115 (by simp; omega) (by simp; omega) (by omega))
  have N3 := fun W : World => code_shear_no W own (second ++ first) lp 5 rfl (fun W => code_sform_long W _ 1 115 (by simp; omega) (by simp; omega) (by omega))
  have N2' : ∀ W : World, Calls Tryz.prog 8 #[S own, S (first ++ 120 :: rest)] W (Grown (.tuple #[toldZ, .pointer none, .int .i64 5]) W) := fun W => by
    have := N2 W
    rwa [List.append_assoc] at this
  unfold Grown toldZ at N1 N2 N3 N2'
  have r1 := rule_app
  have r2 := rule_ext
  have k1' : (r : Int) ≤ (first.length : Int) := by omega
  have k2' : first.length + 1 ≤ 9223372036854775807 := by omega
  have k3' : ¬ (9223372036854775807 < first.length + 1) := by omega
  have k4' : first.length + (rest.length + 1) ≤ 9223372036854775807 := by omega
  have k5' : ¬ (9223372036854775807 < first.length + (rest.length + 1)) := by omega
  have k6' : first.length + 1 + rest.length ≤ 9223372036854775807 := by omega
  have k7' : ¬ (9223372036854775807 < first.length + 1 + rest.length) := by omega
  have k8' : second.length + first.length ≤ 9223372036854775807 := by omega
  have k9' : ¬ (9223372036854775807 < second.length + first.length) := by omega
  unfold S at *
  go_enter Tryz.func4, Tryz.ntmps4
  go_wp2_with fail
  (with_reducible refine AM1.mono ?_)
  rintro e y ⟨rfl, g⟩
  have HG := Lib.hid (grow_alloc (grow_alloc (grow_trans (World.grownBy_alloc w _ none) g) (.cells #[.string ⟨k1.toArray⟩, .string ⟨k2.toArray⟩] 26)) (.cells #[.string ⟨k2.toArray⟩, .string ⟨k1.toArray⟩] 26))
  clear g AM1
  go_wp2_with fail
  (with_reducible refine (AZ _).mono ?_)
  rintro e y1 ⟨rfl, g1⟩
  have HG1 := Lib.hid (grow_trans HG.out g1)
  clear g1 AZ HG
  go_wp2_with fail
  (with_reducible refine (R _).mono ?_)
  rintro e z ⟨rfl, rfl⟩
  go_wp2_with fail
  (with_reducible refine (N1 _).mono ?_)
  rintro e y2 ⟨rfl, g2⟩
  have HG2 := Lib.hid (grow_alloc (grow_trans HG1.out g2) (.cells #[.int .i64 0, .int .u32 0, .string ⟨#[]⟩, .int .i64 0, .int .i64 0, .int .i64 0] 34))
  clear g2 N1 HG1 R
  go_wp2_with fail
  (first | (with_reducible refine (N2' _).mono ?_) | (with_reducible refine (N2 _).mono ?_))
  rintro e y3 ⟨rfl, g3⟩
  have HG3 := Lib.hid (grow_alloc (grow_trans HG2.out g3) (.cells #[.int .i64 0, .int .u32 0, .string ⟨#[]⟩, .int .i64 0, .int .i64 0, .int .i64 0] 34))
  clear g3 N2 N2' HG2
  go_wp2_with fail
  (with_reducible refine (N3 _).mono ?_)
  rintro e y4 ⟨rfl, g4⟩
  have HG4 := Lib.hid (grow_alloc (grow_trans HG3.out g4) (.cells #[.int .i64 0, .int .u32 0, .string ⟨#[]⟩, .int .i64 0, .int .i64 0, .int .i64 0] 34))
  clear g4 N3 HG3
  go_wp2_with fail
  go_ret
  exact ⟨rfl, grow_below HG4.out _ (Nat.le_refl _) (by simp)⟩

end Go.Proofs.YtcmncdaojmkfgaaGreatDoor
