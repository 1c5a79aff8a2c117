/- The walk of TimerQuiet. -/
import Derived.Test.YtejjlmdpejdajaaTimerLaws
import Derived.Test.YtejjlmdpejdajaaRest
import Derived.Test.YtejjlmdpejdajaaSteps
namespace Go.Proofs.Ytejjlmdpejdajaa
open Go.RowKit
set_option linter.unusedVariables false


def timer0 : Tm := ⟨false, 0, 0, false, 0⟩

set_option maxHeartbeats 1000000 in
theorem walk_TimerQuiet (a0 : Option Addr) (len0 cap0 : Nat) (a1 a2 : Int) (w1 : (Lit.int .i64 a1).wf = true) (w2 : (Lit.int .i64 a2).wf = true) (w : World) (r0 : IsRecs stepKs w a0 len0 cap0) :
    Calls Try.prog 12 #[.slice a0 len0 cap0, .int .i64 a1, .int .i64 a2] w fun e w' => e = .returned (.bool true) ∧ Below w.heap.size w w' := by
  obtain ⟨⟨hl, hm⟩, hin⟩ := steps_in r0
  have b1 := bounds_i64 w1
  clear w1 w2 r0
  unfold maxLen at hm
  go_enter Try.func12, Try.ntmps12
  go_wp2_with fail
  refine (timer_new w).mono ?_
  rintro e x1 ⟨rfl, ht1, hg1⟩
  have hz : ∀ k, (some w.heap.size : Option Nat) = some k → w.heap.size ≤ k := by simp
  have hy : ∀ k, (none : Option Nat) = some k → w.heap.size ≤ k := by simp
  have HB := grow_below hg1 w.heap.size (by omega) (by simp)
  clear hg1
  go_wp2_with fail
  go_loopw [15] (fun i wr => ∃ k : Nat, ∃ t : Tm, k ≤ len0 ∧ i = .int .i64 k ∧ TmAt wr w.heap.size t ∧ TmOk t ∧ Below w.heap.size w wr) (fun i _ => len0 - (intOf i).toNat)
  case atStart => exact ⟨0, _, by omega, rfl, ht1, by simp [TmOk], HB⟩
  case round =>
    clear ht1 HB
    obtain ⟨k, t, hk, rfl, ht, hok, HB⟩ := hrel
    by_cases hlk : k < len0
    · obtain ⟨v, hv⟩ := hin k hlk
      have hv2 := hv.later HB
      have hvok := hv2.1
      obtain ⟨x, rfl, hxl, c0, c1, c2, c3, c4, c5, c6, c7⟩ := hv2.cells8
      clear hv2 hv
      go_wp2_with fail
      have ga : wr.grownBy (wr.alloc (.cells v.cells 40)) none := World.grownBy_alloc _ _ _
      have ht2 := ht.kept ga (by simp)
      replace HB := below_step HB ga hy
      refine (timer_any _ _ t v.kind v.a ht2 hok).mono ?_
      rintro e x3 ⟨n3, t3, rfl, ht3, hok3, hg3⟩
      replace HB := below_step HB hg3 hz
      clear ga ht ht2 hg3 c0 c1 c2 c3 c4 c5 c6 c7
      go_wp2_with fail
      go_roundw
      case rel => exact ⟨k + 1, t3, by omega, by go_num, ht3, hok3, HB⟩
      case measure => simp [intOf]; omega
    · obtain ⟨o1, o2, o3, o4⟩ := hok
      go_wp2_with fail
      refine (rest_any a1 1099511627776 _ b1.1 b1.2 (by omega) (by omega)).mono ?_
      rintro e x2 ⟨rfl, rfl⟩
      have n0 : 0 ≤ a1 % 1099511627776 := by omega
      have n1 : a1 % 1099511627776 < 1099511627776 := by omega
      generalize a1 % 1099511627776 = N at *
      go_wp2_with fail
      refine (timer_made _ _ t N ht n0 (by omega)).mono ?_
      rintro e x2 ⟨rfl, ht2, hg2⟩
      replace HB := below_step HB hg2 hz
      clear hg2 ht
      go_wp2_with fail
      refine (timer_sent _ _ _ N ht2 n0 (by omega)).mono ?_
      rintro e x3 ⟨rfl, ht3, hg3⟩
      replace HB := below_step HB hg3 hz
      clear hg3 ht2
      go_wp2_with fail
      refine (timer_next _ _ _ a2 ht3 o1 o2 o3 o4).mono ?_
      rintro e x4 ⟨rfl, hg4⟩
      have ht4 := ht3.kept hg4 (by simp)
      replace HB := below_step HB hg4 hy
      clear hg4 ht3
      rw [show tmNext { wants := false, tries := 0, last := t.last, owes := false, since := t.since } a2 = 0 from by simp [tmNext]]
      go_wp2_with fail
      refine (timer_tries _ _ _ ht4).mono ?_
      rintro e x5 ⟨rfl, rfl⟩
      go_wp2_with fail
      refine (timer_wanted _ _ _ N ht4 n0 (by omega)).mono ?_
      rintro e x5 ⟨rfl, ht5, hg5⟩
      replace HB := below_step HB hg5 hz
      clear hg5 ht4
      go_wp2_with fail
      refine (timer_next _ _ _ a2 ht5 o1 o2 o3 o4).mono ?_
      rintro e x6 ⟨rfl, hg6⟩
      replace HB := below_step HB hg6 hy
      rw [show tmNext { wants := true, tries := 0, last := t.last, owes := false, since := t.since } a2 = 1 from by simp [tmNext]]
      go_wp2_with fail
      go_ret
      exact ⟨rfl, HB⟩

end Go.Proofs.Ytejjlmdpejdajaa
