/- The walk of StampBack. -/
import Derived.Test.YtejjlmdpejdajaaStampLaws
namespace Go.Proofs.Ytejjlmdpejdajaa
open Go.RowKit
set_option linter.unusedVariables false

set_option maxHeartbeats 4000000 in
theorem walk_StampBack (x0 x1 : Int) (s1 : ByteArray) (_ : (Lit.int .i64 x0).wf = true) (_ : (Lit.int .i64 x1).wf = true) (w1 : s1.size ≤ maxLen) (w : World) :
    Calls Try.prog 7 #[.agg #[.int .i64 x0, .int .i64 x1], .string s1] w fun e w' => e = .returned (.bool true) ∧ Below w.heap.size w w' := by
  obtain ⟨l, rfl, hl⟩ := list_of s1
  rw [← hl] at w1
  clear hl
  unfold maxLen at w1
  cases hs : isT x0 x1
  · have HS := Lib.hid hs
    clear hs
    go_enter Try.func7, Try.ntmps7
    go_wp2_with fail
    refine (stamp_write_no _ _ _ HS.out).mono ?_
    rintro e q1 ⟨rfl, hg1⟩
    have HB4 := grow_below (grow_trans (World.grownBy_alloc w _ none) hg1) w.heap.size (Nat.le_refl _) (by simp)
    clear hg1
    unfold S
    go_wp2_with fail
    rcases Nat.lt_trichotomy l.length 12 with h12 | h12 | h12
    · refine (stamp_read_short _ l h12).mono ?_
      rintro e q5 ⟨rfl, hg5⟩
      have HB5 := below_step HB4 hg5 (by simp)
      clear h12 hg5 HB4
      go_wp2_with fail
      go_ret
      refine ⟨rfl, ?_⟩
      exact HB5.trans (grow_below (r := none) (by repeat (first | with_reducible exact grow_refl _ _ | with_reducible apply grow_alloc | with_reducible apply grow_drew)) _ HB5.size (by simp))
    · refine (stamp_read_12 _ l h12).mono ?_
      rintro e q5 ⟨rfl, hg5⟩
      have HB5 := below_step HB4 hg5 (by simp)
      clear hg5 HB4
      cases hT : isT (stampSec l) (stampNano l)
      · rw [if_neg (by simp)]
        clear h12 hT
        unfold t0
        go_wp2_with fail
        go_ret
        refine ⟨rfl, ?_⟩
        exact HB5.trans (grow_below (r := none) (by repeat (first | with_reducible exact grow_refl _ _ | with_reducible apply grow_alloc | with_reducible apply grow_drew)) _ HB5.size (by simp))
      · rw [if_pos rfl]
        have hbk := stamp_back h12 hT
        have HT := Lib.hid hT
        have HK := Lib.hid hbk
        clear h12 hT hbk
        unfold t1
        go_wp2_with fail
        refine (stamp_write_ok _ _ _ HT.out).mono ?_
        rintro e q6 ⟨rfl, hg6⟩
        rw [HK.out]
        unfold S
        go_wp2_with fail
        go_ret
        refine ⟨rfl, ?_⟩
        exact HB5.trans (grow_below (r := none) (grow_trans (by repeat (first | with_reducible exact grow_refl _ _ | with_reducible apply grow_alloc | with_reducible apply grow_drew)) hg6) _ HB5.size (by simp))
    · refine (stamp_read_long _ l h12 (by omega)).mono ?_
      rintro e q5 ⟨rfl, hg5⟩
      have HB5 := below_step HB4 hg5 (by simp)
      clear h12 hg5 HB4
      unfold t0
      go_wp2_with fail
      go_ret
      refine ⟨rfl, ?_⟩
      exact HB5.trans (grow_below (r := none) (by repeat (first | with_reducible exact grow_refl _ _ | with_reducible apply grow_alloc | with_reducible apply grow_drew)) _ HB5.size (by simp))
  · have HS := Lib.hid hs
    have hb := stamp_there hs
    have HT1 := Lib.hid hb.1
    have HT2 := Lib.hid hb.2
    clear hs hb
    go_enter Try.func7, Try.ntmps7
    go_wp2_with fail
    refine (stamp_write_ok _ _ _ HS.out).mono ?_
    rintro e q1 ⟨rfl, hg1⟩
    go_wp2_with fail
    refine (stamp_read_12 _ _ (stampB_length x0 x1)).mono ?_
    rintro e q2 ⟨rfl, hg2⟩
    rw [HT1.out, HT2.out, if_pos HS.out]
    unfold t1
    rw [HT1.out, HT2.out]
    have ob := obj_new w (.cells #[.int .i64 x0, .int .i64 x1] 45)
    have ob2 := grow_obj hg2 (grow_obj hg1 ob (by simp)) (by simp)
    have c0 : q2.cell? ⟨w.heap.size, 0, none⟩ = some (.int .i64 x0) := by rw [obj_cell ob2]; rfl
    have c1 : q2.cell? ⟨w.heap.size, 1, none⟩ = some (.int .i64 x1) := by rw [obj_cell ob2]; rfl
    have HB := grow_below (grow_trans (grow_trans (World.grownBy_alloc w _ none) hg1) hg2) w.heap.size (Nat.le_refl _) (by simp)
    have d0 := cell_alloc (.cells #[.int .i64 x0, .int .i64 x1] 45) c0
    have d1 := cell_alloc (.cells #[.int .i64 x0, .int .i64 x1] 45) c1
    have hl12 := stampB_length x0 x1
    have HL := Lib.hid hl12
    have hl13 : ((stampB x0 x1).length : Int) = 12 := by rw [hl12]; rfl
    have HA : ∃ x, x = q2.alloc (.cells #[.int .i64 x0, .int .i64 x1] 45) := ⟨_, rfl⟩
    clear ob ob2 hg1 hg2 hl12
    unfold S
    go_wp2_with fail
    have HB4 : Below w.heap.size w (q2.alloc (.cells #[.int .i64 x0, .int .i64 x1] 45)) := HB.alloc HB.size _
    clear HB c0 c1 d0 d1
    rcases Nat.lt_trichotomy l.length 12 with h12 | h12 | h12
    · refine (stamp_read_short _ l h12).mono ?_
      rintro e q5 ⟨rfl, hg5⟩
      have HB5 := below_step HB4 hg5 (by simp)
      clear h12 hg5 HB4
      go_wp2_with fail
      go_ret
      refine ⟨rfl, ?_⟩
      exact HB5.trans (grow_below (r := none) (by repeat (first | with_reducible exact grow_refl _ _ | with_reducible apply grow_alloc | with_reducible apply grow_drew)) _ HB5.size (by simp))
    · refine (stamp_read_12 _ l h12).mono ?_
      rintro e q5 ⟨rfl, hg5⟩
      have HB5 := below_step HB4 hg5 (by simp)
      clear hg5 HB4
      cases hT : isT (stampSec l) (stampNano l)
      · rw [if_neg (by simp)]
        clear h12 hT
        unfold t0
        go_wp2_with fail
        go_ret
        refine ⟨rfl, ?_⟩
        exact HB5.trans (grow_below (r := none) (by repeat (first | with_reducible exact grow_refl _ _ | with_reducible apply grow_alloc | with_reducible apply grow_drew)) _ HB5.size (by simp))
      · rw [if_pos rfl]
        have hbk := stamp_back h12 hT
        have HT := Lib.hid hT
        have HK := Lib.hid hbk
        clear h12 hT hbk
        unfold t1
        go_wp2_with fail
        refine (stamp_write_ok _ _ _ HT.out).mono ?_
        rintro e q6 ⟨rfl, hg6⟩
        rw [HK.out]
        unfold S
        go_wp2_with fail
        go_ret
        refine ⟨rfl, ?_⟩
        exact HB5.trans (grow_below (r := none) (grow_trans (by repeat (first | with_reducible exact grow_refl _ _ | with_reducible apply grow_alloc | with_reducible apply grow_drew)) hg6) _ HB5.size (by simp))
    · refine (stamp_read_long _ l h12 (by omega)).mono ?_
      rintro e q5 ⟨rfl, hg5⟩
      have HB5 := below_step HB4 hg5 (by simp)
      clear h12 hg5 HB4
      unfold t0
      go_wp2_with fail
      go_ret
      refine ⟨rfl, ?_⟩
      exact HB5.trans (grow_below (r := none) (by repeat (first | with_reducible exact grow_refl _ _ | with_reducible apply grow_alloc | with_reducible apply grow_drew)) _ HB5.size (by simp))

end Go.Proofs.Ytejjlmdpejdajaa
