/- The walk of ShakeMeets. -/
import Derived.Test.YtcmncdaojmkfgaaGreatDoorShakeMet
namespace Go.Proofs.YtcmncdaojmkfgaaGreatDoor
open Go.RowKit
set_option linter.unusedVariables false

theorem wf_u32_of {n : Int} (h : (Lit.int .u32 n).wf = true) : 0 ≤ n ∧ n ≤ 4294967295 := by
  simp only [Lit.wf, Bool.and_eq_true, decide_eq_true_eq] at h
  exact h
/-- met, called by a law. -/
theorem met_law (c0 best worst : Int) (cown cpeer cpsk peer once other : List UInt8) (index id : Int) (w1 : cown.length ≤ maxLen) (w3 : cpsk.length ≤ maxLen) (w4 : peer.length ≤ maxLen) (w5 : once.length ≤ maxLen) (w6 : other.length ≤ maxLen)
    (hc : (Lit.int .i64 c0).wf = true) (hb : (Lit.int .i64 best).wf = true) (hq : (Lit.int .i64 worst).wf = true) (hi : (Lit.int .u32 index).wf = true) (hj : (Lit.int .u32 id).wf = true) :
    ∃ t : Met, t.ok ∧ ∀ W : World, Calls Tryz.prog 6 #[.agg #[.int .i64 c0, S cown, S cpeer, S cpsk], S peer, S once, S other, .int .i64 best, .int .i64 worst, .int .u32 index, .int .u32 id] W (MetTo W t) := by
  unfold maxLen at w1 w3 w4 w5 w6
  obtain ⟨hc0, hc1⟩ := wf_i64_of hc
  obtain ⟨hb0, hb1⟩ := wf_i64_of hb
  obtain ⟨hq0, hq1⟩ := wf_i64_of hq
  obtain ⟨r, hr, R0⟩ := rest_nat c0 2 2 rfl hc0 hc1 (by decide) (by decide)
  obtain ⟨rb, hrb, R1⟩ := rest_nat best 2 2 rfl hb0 hb1 (by decide) (by decide)
  obtain ⟨rq, hrq, R2⟩ := rest_nat worst 2 2 rfl hq0 hq1 (by decide) (by decide)
  obtain ⟨ix, rfl, hix⟩ : ∃ n : Nat, index = (n : Int) ∧ n < 4294967296 := by
    have h := wf_u32_of hi
    exact ⟨index.toNat, by omega, by omega⟩
  obtain ⟨ij, rfl, hij⟩ : ∃ n : Nat, id = (n : Int) ∧ n < 4294967296 := by
    have h := wf_u32_of hj
    exact ⟨id.toNat, by omega, by omega⟩
  have o := metOf_ok r rb rq cown cpsk peer once other ix ij hr hrb hrq hix hij
  exact ⟨_, o, fun W => code_met W _ o r rb rq c0 best worst cown cpeer cpsk peer once other rfl rfl rfl R0 R1 R2
    (fun W => code_sized W cown 32 (by omega) (by omega)) (fun W => code_sized W cpsk 32 (by omega) (by omega)) (fun W => code_sized W peer 32 (by omega) (by omega))
    (fun W => code_sized W once 32 (by omega) (by omega)) (fun W => code_sized W other 32 (by omega) (by omega))⟩

set_option maxRecDepth 20000 in
set_option maxHeartbeats 4000000 in
theorem walk_ShakeMeets (c0 : Int) (s1 s2 s3 s4 s5 s6 : ByteArray) (n7 n8 n9 n10 : Int) (h0 : (Lit.int .i64 c0).wf = true) (w1 : s1.size ≤ maxLen) (w2 : s2.size ≤ maxLen) (w3 : s3.size ≤ maxLen) (w4 : s4.size ≤ maxLen) (w5 : s5.size ≤ maxLen) (w6 : s6.size ≤ maxLen)
    (h7 : (Lit.int .i64 n7).wf = true) (h8 : (Lit.int .i64 n8).wf = true) (h9 : (Lit.int .u32 n9).wf = true) (h10 : (Lit.int .u32 n10).wf = true) (w : World) :
    Calls Tryz.prog 3 #[.agg #[.int .i64 c0, .string s1, .string s2, .string s3], .string s4, .string s5, .string s6, .int .i64 n7, .int .i64 n8, .int .u32 n9, .int .u32 n10] w fun e w' => e = .returned (.bool true) ∧ Below w.heap.size w w' := by
  obtain ⟨cown, rfl, e1⟩ := list_of s1
  obtain ⟨cpeer, rfl, e2⟩ := list_of s2
  obtain ⟨cpsk, rfl, e3⟩ := list_of s3
  obtain ⟨peer, rfl, e4⟩ := list_of s4
  obtain ⟨once, rfl, e5⟩ := list_of s5
  obtain ⟨other, rfl, e6⟩ := list_of s6
  rw [← e1] at w1
  rw [← e3] at w3
  rw [← e4] at w4
  rw [← e5] at w5
  rw [← e6] at w6
  obtain ⟨t, o, AM⟩ := met_law c0 n7 n8 cown cpeer cpsk peer once other n9 n10 w1 w3 w4 w5 w6 h0 h7 h8 h9 h10
  have l1 : t.k1.length = 32 := mk1_length _ _ _
  have l2 : t.k2.length = 32 := mk2_length _ _ _
  have q1 : ((t.k1.length : Int) == 32) = true := by rw [l1]; rfl
  have q2 : ((t.k2.length : Int) == 32) = true := by rw [l2]; rfl
  have AM1 := AM (w.alloc (.cells #[.int .i64 c0, S cown, S cpeer, S cpsk] 23))
  unfold MetTo at AM1
  clear AM o w1 w2 w3 w4 w5 w6 e1 e2 e3 e4 e5 e6 h0 h7 h8 h9 h10
  generalize t.first = first at *
  generalize t.second = second at *
  generalize t.k1 = k1 at *
  generalize t.k2 = k2 at *
  unfold S at *
  go_enter Tryz.func3, Tryz.ntmps3
  go_wp2_with fail
  (with_reducible refine AM1.mono ?_)
  rintro e y ⟨rfl, g⟩
  have HG := Lib.hid (grow_trans (World.grownBy_alloc w _ none) g)
  clear g AM1
  go_wp2_with fail
  go_ret
  exact ⟨rfl, grow_below (grow_alloc (grow_alloc HG.out _) _) _ (Nat.le_refl _) (by simp)⟩

end Go.Proofs.YtcmncdaojmkfgaaGreatDoor
