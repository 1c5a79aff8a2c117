/- The walks of the three statements on the timer. -/
import Derived.Test.YtejjlmdpejdajaaTimer
import Derived.Test.YtejjlmdpejdajaaRest
namespace Go.Proofs.Ytejjlmdpejdajaa
open Go.RowKit
set_option linter.unusedVariables false

theorem TmAt.kept {a b : World} {r : Option Nat} {k : Nat} {t : Tm} (h : TmAt a k t) (g : a.grownBy b r) (hr : some k ≠ r) : TmAt b k t := grow_obj g h hr


set_option maxHeartbeats 1000000 in
theorem walk_TimerAlive (a0 a1 a2 : Int) (w0 : (Lit.int .i64 a0).wf = true) (w1 : (Lit.int .i64 a1).wf = true) (w2 : (Lit.int .i64 a2).wf = true) (w : World) :
    Calls Try.prog 10 #[.int .i64 a0, .int .i64 a1, .int .i64 a2] w fun e w' => e = .returned (.bool true) ∧ Below w.heap.size w w' := by
  have b0 := bounds_i64 w0
  have b1 := bounds_i64 w1
  have b2 := bounds_i64 w2
  clear w0 w1 w2
  go_enter Try.func10, Try.ntmps10
  go_wp2_with fail
  refine (timer_new w).mono ?_
  rintro e x1 ⟨rfl, ht1, hg1⟩
  have hz : ∀ k, (some w.heap.size : Option Nat) = some k → w.heap.size ≤ k := by simp
  have hy : ∀ k, (none : Option Nat) = some k → w.heap.size ≤ k := by simp
  have HB := grow_below hg1 w.heap.size (by omega) (by simp)
  clear hg1
  go_wp2_with fail
  refine (rest_any a0 1073741824 _ b0.1 b0.2 (by omega) (by omega)).mono ?_
  rintro e x2 ⟨rfl, rfl⟩
  have n0 : 0 ≤ a0 % 1073741824 := by omega
  have n1 : a0 % 1073741824 < 1073741824 := by omega
  generalize a0 % 1073741824 = N at *
  go_wp2_with fail
  refine (rest_any a1 20 _ b1.1 b1.2 (by omega) (by omega)).mono ?_
  rintro e x2 ⟨rfl, rfl⟩
  have m0 : 0 ≤ a1 % 20 := by omega
  have m1 : a1 % 20 < 20 := by omega
  generalize a1 % 20 = A at *
  go_wp2_with fail
  refine (rest_any a2 20 _ b2.1 b2.2 (by omega) (by omega)).mono ?_
  rintro e x2 ⟨rfl, rfl⟩
  have k0 : 0 ≤ a2 % 20 := by omega
  have k1 : a2 % 20 < 20 := by omega
  generalize a2 % 20 = B at *
  clear b0 b1 b2
  go_wp2_with fail
  refine (timer_heard_new _ _ _ N ht1 n0 (by omega) rfl).mono ?_
  rintro e x2 ⟨rfl, ht2, hg2⟩
  replace HB := below_step HB hg2 hz; clear hg2
  go_wp2_with fail
  refine (timer_heard_owes _ _ _ (N + A) ht2 (by omega) (by omega) rfl).mono ?_
  rintro e x3 ⟨rfl, ht3, hg3⟩
  replace HB := below_step HB hg3 hz; clear hg3
  go_wp2_with fail
  refine (timer_next _ _ _ (N + B) ht3 (by simp) (by simp) (by simpa using n0) (by simp; omega)).mono ?_
  rintro e x4 ⟨rfl, hg4⟩
  have ht4 := ht3.kept hg4 (by simp)
  replace HB := below_step HB hg4 hy; clear hg4
  by_cases hB : 10 ≤ B
  · have d1 : decide (10 ≤ B) = true := by simpa using hB
    have e4 : tmNext { wants := false, tries := 0, last := 0, owes := true, since := N } (N + B) = 2 := by simp [tmNext]; omega
    rw [e4]; clear e4
    go_wp2_with fail
    refine (timer_sent _ _ _ (N + B) ht4 (by omega) (by omega)).mono ?_
    rintro e x5 ⟨rfl, ht5, hg5⟩
    replace HB := below_step HB hg5 hz; clear hg5
    go_wp2_with fail
    refine (timer_next _ _ _ (N + 100) ht5 (by simp) (by simp) (by simpa using n0) (by simp; omega)).mono ?_
    rintro e x6 ⟨rfl, hg6⟩
    have ht6 := ht5.kept hg6 (by simp)
    replace HB := below_step HB hg6 hy; clear hg6
    have e6 : tmNext { wants := false, tries := 0, last := 0, owes := false, since := N } (N + 100) = 0 := by simp [tmNext]
    rw [e6]; clear e6
    go_wp2_with fail
    refine (timer_heard_new _ _ _ (N + A) ht6 (by omega) (by omega) rfl).mono ?_
    rintro e x7 ⟨rfl, ht7, hg7⟩
    replace HB := below_step HB hg7 hz; clear hg7
    go_wp2_with fail
    refine (timer_next _ _ _ (N + A + B) ht7 (by simp) (by simp) (by simp; omega) (by simp; omega)).mono ?_
    rintro e x8 ⟨rfl, hg8⟩
    replace HB := below_step HB hg8 hy; clear hg8
    have e8 : tmNext { wants := false, tries := 0, last := 0, owes := true, since := N + A } (N + A + B) = 2 := by simp [tmNext]; omega
    rw [e8]; clear e8
    go_wp2_with fail
    go_ret
    exact ⟨rfl, HB⟩
  · have d1 : decide (10 ≤ B) = false := by simpa using hB
    have e4 : tmNext { wants := false, tries := 0, last := 0, owes := true, since := N } (N + B) = 0 := by simp [tmNext]; omega
    rw [e4]; clear e4
    go_wp2_with fail
    refine (timer_sent _ _ _ (N + B) ht4 (by omega) (by omega)).mono ?_
    rintro e x5 ⟨rfl, ht5, hg5⟩
    replace HB := below_step HB hg5 hz; clear hg5
    go_wp2_with fail
    refine (timer_next _ _ _ (N + 100) ht5 (by simp) (by simp) (by simpa using n0) (by simp; omega)).mono ?_
    rintro e x6 ⟨rfl, hg6⟩
    have ht6 := ht5.kept hg6 (by simp)
    replace HB := below_step HB hg6 hy; clear hg6
    have e6 : tmNext { wants := false, tries := 0, last := 0, owes := false, since := N } (N + 100) = 0 := by simp [tmNext]
    rw [e6]; clear e6
    go_wp2_with fail
    refine (timer_heard_new _ _ _ (N + A) ht6 (by omega) (by omega) rfl).mono ?_
    rintro e x7 ⟨rfl, ht7, hg7⟩
    replace HB := below_step HB hg7 hz; clear hg7
    go_wp2_with fail
    refine (timer_next _ _ _ (N + A + B) ht7 (by simp) (by simp) (by simp; omega) (by simp; omega)).mono ?_
    rintro e x8 ⟨rfl, hg8⟩
    replace HB := below_step HB hg8 hy; clear hg8
    have e8 : tmNext { wants := false, tries := 0, last := 0, owes := true, since := N + A } (N + A + B) = 0 := by simp [tmNext]; omega
    rw [e8]; clear e8
    go_wp2_with fail
    go_ret
    exact ⟨rfl, HB⟩

set_option maxHeartbeats 1000000 in
theorem walk_TimerTries (a0 : Int) (w0 : (Lit.int .i64 a0).wf = true) (w : World) :
    Calls Try.prog 11 #[.int .i64 a0] w fun e w' => e = .returned (.bool true) ∧ Below w.heap.size w w' := by
  have b0 := bounds_i64 w0
  clear w0
  go_enter Try.func11, Try.ntmps11
  go_wp2_with fail
  refine (timer_new w).mono ?_
  rintro e x1 ⟨rfl, ht1, hg1⟩
  have hz : ∀ k, (some w.heap.size : Option Nat) = some k → w.heap.size ≤ k := by simp
  have hy : ∀ k, (none : Option Nat) = some k → w.heap.size ≤ k := by simp
  have HB := grow_below hg1 w.heap.size (by omega) (by simp)
  clear hg1
  go_wp2_with fail
  refine (rest_any a0 1073741824 _ b0.1 b0.2 (by omega) (by omega)).mono ?_
  rintro e x2 ⟨rfl, rfl⟩
  have n0 : 0 ≤ a0 % 1073741824 := by omega
  have n1 : a0 % 1073741824 < 1073741824 := by omega
  generalize a0 % 1073741824 = N at *
  clear b0
  go_wp2_with fail
  refine (timer_wanted _ _ _ N ht1 n0 (by omega)).mono ?_
  rintro e x2 ⟨rfl, ht2, hg2⟩
  replace HB := below_step HB hg2 hz; clear hg2 ht1
  go_wp2_with fail
  go_loopw [0, 14] (fun now i wr => ∃ k : Nat, ∃ L : Int, k ≤ 6 ∧ i = .int .i64 k ∧ now = .int .i64 (N + 5 * k) ∧ TmAt wr w.heap.size ⟨true, k, L, false, 0⟩ ∧ (k = 0 ∨ L + 5 = N + 5 * k) ∧ 0 ≤ L ∧ L ≤ 1099511627776 ∧ Below w.heap.size w wr) (fun _ i _ => 6 - (intOf i).toNat)
  case atStart => exact ⟨0, 0, by omega, rfl, by simp, ht2, Or.inl rfl, by omega, by omega, HB⟩
  case round =>
    obtain ⟨k, L, hk, rfl, rfl, ht, hL, l0, l1, HB⟩ := hrel
    clear ht2
    by_cases hlt : k < 6
    · have e4 : tmNext { wants := true, tries := k, last := L, owes := false, since := 0 } (N + 5 * k) = 1 := by
        simp [tmNext]; omega
      go_wp2_with fail
      refine (timer_next _ _ _ (N + 5 * k) ht l0 l1 (by simp) (by simp)).mono ?_
      rintro e x3 ⟨rfl, hg3⟩
      have ht3 := ht.kept hg3 (by simp)
      replace HB := below_step HB hg3 hy; clear hg3 ht
      rw [e4]; clear e4
      go_wp2_with fail
      refine (timer_tries _ _ _ ht3).mono ?_
      rintro e x4 ⟨rfl, rfl⟩
      go_wp2_with fail
      refine (timer_began _ _ _ (N + 5 * k) ht3 (by omega) (by omega)).mono ?_
      rintro e x4 ⟨rfl, ht4, hg4⟩
      replace HB := below_step HB hg4 hz; clear hg4 ht3
      replace ht4 : TmAt x4 w.heap.size ⟨true, (k : Int) + 1, N + 5 * k, false, 0⟩ := by
        have ew : wrap64 ((k : Int) + 1) = (k : Int) + 1 := IntWalk.wrap64_in _ (by omega)
        simpa [ew] using ht4
      go_wp2_with fail
      go_loopw [0, 33] (fun now i wi => ∃ j : Nat, j ≤ 4 ∧ i = .int .i64 j ∧ now = .int .i64 (N + 5 * k + j) ∧ TmAt wi w.heap.size ⟨true, (k : Int) + 1, N + 5 * k, false, 0⟩ ∧ Below w.heap.size w wi) (fun _ i _ => 4 - (intOf i).toNat)
      case atStart => exact ⟨0, by omega, rfl, by simp, ht4, HB⟩
      case round =>
        obtain ⟨j, hj, rfl, rfl, ht, HB⟩ := hrel
        clear ht4
        by_cases hlt' : j < 4
        · have e5 : tmNext { wants := true, tries := (k : Int) + 1, last := N + 5 * k, owes := false, since := 0 } (N + 5 * k + j + 1) = 0 := by
            simp [tmNext]; omega
          go_wp2_with fail
          refine (timer_next _ _ _ (N + 5 * k + j + 1) ht (by simp; omega) (by simp; omega) (by simp) (by simp)).mono ?_
          rintro e x5 ⟨rfl, hg5⟩
          have ht5 := ht.kept hg5 (by simp)
          replace HB := below_step HB hg5 hy; clear hg5 ht
          rw [e5]; clear e5
          go_wp2_with fail
          go_roundw
          case rel => exact ⟨j + 1, by omega, by go_num, by congr 1; omega, ht5, HB⟩
          case measure => simp [intOf]; omega
        · obtain rfl : j = 4 := by omega
          go_wp2_with fail
          go_roundw
          case rel => exact ⟨k + 1, N + 5 * k, by omega, by go_num, by congr 1; omega, by simpa using ht, by omega, by omega, by omega, HB⟩
          case measure => simp [intOf]; omega
    · obtain rfl : k = 6 := by omega
      have hL' : L + 5 = N + 30 := by omega
      have e4 : tmNext { wants := true, tries := ((6 : Nat) : Int), last := L, owes := false, since := 0 } (N + 30) = 3 := by
        simp [tmNext]; omega
      go_wp2_with fail
      refine (timer_next _ _ _ (N + 30) ht l0 l1 (by simp) (by simp)).mono ?_
      rintro e x3 ⟨rfl, hg3⟩
      have ht3 := ht.kept hg3 (by simp)
      replace HB := below_step HB hg3 hy; clear hg3 ht
      rw [e4]; clear e4 hL
      have HL := Lib.hid hL'
      clear hL'
      go_wp2_with fail
      refine (timer_silenced _ _ _ (N + 30) ht3 (by omega) (by omega)).mono ?_
      rintro e x4 ⟨rfl, ht4, hg4⟩
      replace HB := below_step HB hg4 hz; clear hg4 ht3
      go_wp2_with fail
      refine (timer_next _ _ _ (N + 30) ht4 (by simp) (by simp) (by simp) (by simp)).mono ?_
      rintro e x5 ⟨rfl, hg5⟩
      have ht5 := ht4.kept hg5 (by simp)
      replace HB := below_step HB hg5 hy; clear hg5 ht4
      rw [show tmNext { wants := false, tries := 0, last := 0, owes := false, since := 0 } (N + 30) = 0 from by simp [tmNext]]
      go_wp2_with fail
      refine (timer_next _ _ _ (N + 30 + 100) ht5 (by simp) (by simp) (by simp) (by simp)).mono ?_
      rintro e x6 ⟨rfl, hg6⟩
      have ht6 := ht5.kept hg6 (by simp)
      replace HB := below_step HB hg6 hy; clear hg6 ht5
      rw [show tmNext { wants := false, tries := 0, last := 0, owes := false, since := 0 } (N + 30 + 100) = 0 from by simp [tmNext]]
      go_wp2_with fail
      refine (timer_tries _ _ _ ht6).mono ?_
      rintro e x7 ⟨rfl, rfl⟩
      go_wp2_with fail
      go_ret
      exact ⟨rfl, HB⟩

end Go.Proofs.Ytejjlmdpejdajaa
