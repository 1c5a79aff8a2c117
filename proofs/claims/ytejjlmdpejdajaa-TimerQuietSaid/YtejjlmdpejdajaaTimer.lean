/- The timer's functions: contracts over one block of five cells. -/
import Derived.Test.YtejjlmdpejdajaaBase
namespace Go.Proofs.Ytejjlmdpejdajaa
open Go.RowKit
set_option linter.unusedVariables false

/-- What a timer holds. -/
structure Tm where
  wants : Bool
  tries : Int
  last : Int
  owes : Bool
  since : Int

def TmAt (w : World) (b : Nat) (t : Tm) : Prop :=
  w.heap[b]? = some (.cells #[.bool t.wants, .int .i64 t.tries, .int .i64 t.last, .bool t.owes, .int .i64 t.since] 77 (0, 0))

set_option maxHeartbeats 400000 in
theorem timer_new (w : World) : Calls Try.prog 25 #[] w fun e w' => e = .returned (.pointer (some ⟨w.heap.size, 0, none⟩)) ∧ TmAt w' w.heap.size ⟨false, 0, 0, false, 0⟩ ∧ w.grownBy w' none := by
  go_enter Try.func25, Try.ntmps25
  go_wp2
  go_ret
  exact ⟨rfl, obj_new _ _, grow_alloc (grow_refl _ _) _⟩

theorem TmAt.cells {w : World} {b : Nat} {t : Tm} (h : TmAt w b t) :
    w.cell? ⟨b, 0, none⟩ = some (.bool t.wants) ∧ w.cell? ⟨b, 1, none⟩ = some (.int .i64 t.tries) ∧ w.cell? ⟨b, 2, none⟩ = some (.int .i64 t.last) ∧ w.cell? ⟨b, 3, none⟩ = some (.bool t.owes) ∧ w.cell? ⟨b, 4, none⟩ = some (.int .i64 t.since) ∧ (∀ o, w.frozen? ⟨b, o, none⟩ = false) := by
  unfold TmAt at h
  refine ⟨?_, ?_, ?_, ?_, ?_, fun o => ?_⟩ <;> simp [World.cell?, World.frozen?, h]

theorem TmAt.set {w : World} {b : Nat} {t : Tm} (h : TmAt w b t) (o : Nat) (v : Value) (t' : Tm)
    (he : (#[.bool t.wants, .int .i64 t.tries, .int .i64 t.last, .bool t.owes, .int .i64 t.since] : Array Value).setIfInBounds o v = #[.bool t'.wants, .int .i64 t'.tries, .int .i64 t'.last, .bool t'.owes, .int .i64 t'.since]) : TmAt (w.setCell ⟨b, o, none⟩ v) b t' := by
  unfold TmAt; rw [obj_setCell h, he]

set_option maxHeartbeats 400000 in
theorem timer_sent (w : World) (b : Nat) (t : Tm) (now : Int) (h : TmAt w b t) (h0 : 0 ≤ now) (h1 : now ≤ 1099511627776) :
    Calls Try.prog 26 #[.pointer (some ⟨b, 0, none⟩), .int .i64 1, .int .i64 now] w fun e w' => e = .returned (.int .i64 0) ∧ TmAt w' b { t with owes := false } ∧ w.grownBy w' (some b) := by
  obtain ⟨c0, c1, c2, c3, c4, cf⟩ := h.cells
  go_enter Try.func26, Try.ntmps26
  go_wp2
  go_ret
  exact ⟨rfl, h.set _ _ _ rfl, grow_setCell (grow_refl _ _) _ _⟩

set_option maxHeartbeats 400000 in
theorem timer_heard_owes (w : World) (b : Nat) (t : Tm) (now : Int) (h : TmAt w b t) (h0 : 0 ≤ now) (h1 : now ≤ 1099511627776) (ho : t.owes = true) :
    Calls Try.prog 26 #[.pointer (some ⟨b, 0, none⟩), .int .i64 2, .int .i64 now] w fun e w' => e = .returned (.int .i64 0) ∧ TmAt w' b t ∧ w.grownBy w' (some b) := by
  obtain ⟨c0, c1, c2, c3, c4, cf⟩ := h.cells
  go_enter Try.func26, Try.ntmps26
  go_wp2
  go_ret
  exact ⟨rfl, h, grow_refl _ _⟩

set_option maxHeartbeats 400000 in
theorem timer_heard_new (w : World) (b : Nat) (t : Tm) (now : Int) (h : TmAt w b t) (h0 : 0 ≤ now) (h1 : now ≤ 1099511627776) (ho : t.owes = false) :
    Calls Try.prog 26 #[.pointer (some ⟨b, 0, none⟩), .int .i64 2, .int .i64 now] w fun e w' => e = .returned (.int .i64 0) ∧ TmAt w' b { t with owes := true, since := now } ∧ w.grownBy w' (some b) := by
  obtain ⟨c0, c1, c2, c3, c4, cf⟩ := h.cells
  go_enter Try.func26, Try.ntmps26
  go_wp2
  go_ret
  exact ⟨rfl, (h.set 3 (.bool true) { t with owes := true } rfl).set 4 _ _ rfl, grow_setCell (grow_setCell (grow_refl _ _) _ _) _ _⟩

set_option maxHeartbeats 400000 in
theorem timer_wanted (w : World) (b : Nat) (t : Tm) (now : Int) (h : TmAt w b t) (h0 : 0 ≤ now) (h1 : now ≤ 1099511627776) :
    Calls Try.prog 26 #[.pointer (some ⟨b, 0, none⟩), .int .i64 3, .int .i64 now] w fun e w' => e = .returned (.int .i64 0) ∧ TmAt w' b { t with wants := true } ∧ w.grownBy w' (some b) := by
  obtain ⟨c0, c1, c2, c3, c4, cf⟩ := h.cells
  go_enter Try.func26, Try.ntmps26
  go_wp2
  go_ret
  exact ⟨rfl, h.set _ _ _ rfl, grow_setCell (grow_refl _ _) _ _⟩

set_option maxHeartbeats 400000 in
theorem timer_began (w : World) (b : Nat) (t : Tm) (now : Int) (h : TmAt w b t) (h0 : 0 ≤ now) (h1 : now ≤ 1099511627776) :
    Calls Try.prog 26 #[.pointer (some ⟨b, 0, none⟩), .int .i64 4, .int .i64 now] w fun e w' => e = .returned (.int .i64 0) ∧ TmAt w' b { t with wants := true, tries := wrap64 (t.tries + 1), last := now } ∧ w.grownBy w' (some b) := by
  obtain ⟨c0, c1, c2, c3, c4, cf⟩ := h.cells
  go_enter Try.func26, Try.ntmps26
  go_wp2
  go_ret
  exact ⟨rfl, ((h.set 0 (.bool true) { t with wants := true } rfl).set 1 _ { t with wants := true, tries := wrap64 (t.tries + 1) } rfl).set 2 _ _ rfl, by repeat (first | exact grow_refl _ _ | apply grow_setCell)⟩

set_option maxHeartbeats 400000 in
theorem timer_made (w : World) (b : Nat) (t : Tm) (now : Int) (h : TmAt w b t) (h0 : 0 ≤ now) (h1 : now ≤ 1099511627776) :
    Calls Try.prog 26 #[.pointer (some ⟨b, 0, none⟩), .int .i64 5, .int .i64 now] w fun e w' => e = .returned (.int .i64 0) ∧ TmAt w' b { t with wants := false, tries := 0 } ∧ w.grownBy w' (some b) := by
  obtain ⟨c0, c1, c2, c3, c4, cf⟩ := h.cells
  go_enter Try.func26, Try.ntmps26
  go_wp2
  go_ret
  exact ⟨rfl, (h.set 0 (.bool false) { t with wants := false } rfl).set 1 _ _ rfl, by repeat (first | exact grow_refl _ _ | apply grow_setCell)⟩

set_option maxHeartbeats 400000 in
theorem timer_silenced (w : World) (b : Nat) (t : Tm) (now : Int) (h : TmAt w b t) (h0 : 0 ≤ now) (h1 : now ≤ 1099511627776) :
    Calls Try.prog 26 #[.pointer (some ⟨b, 0, none⟩), .int .i64 6, .int .i64 now] w fun e w' => e = .returned (.int .i64 0) ∧ TmAt w' b ⟨false, 0, 0, false, 0⟩ ∧ w.grownBy w' (some b) := by
  obtain ⟨c0, c1, c2, c3, c4, cf⟩ := h.cells
  go_enter Try.func26, Try.ntmps26
  go_wp2
  go_ret
  exact ⟨rfl, ((((h.set 0 (.bool false) { t with wants := false } rfl).set 1 (.int .i64 0) { t with wants := false, tries := 0 } rfl).set 2 (.int .i64 0) { t with wants := false, tries := 0, last := 0 } rfl).set 3 (.bool false) { t with wants := false, tries := 0, last := 0, owes := false } rfl).set 4 _ _ rfl, by repeat (first | exact grow_refl _ _ | apply grow_setCell)⟩

def tmNext (t : Tm) (now : Int) : Int :=
  if t.wants = true ∧ t.tries = 0 then 1 else
  if t.wants = true ∧ t.last + 5 ≤ now then (if t.tries = 6 then 3 else 1) else
  if t.owes = true ∧ t.since + 10 ≤ now then 2 else 0

set_option maxHeartbeats 400000 in
theorem timer_next (w : World) (b : Nat) (t : Tm) (now : Int) (h : TmAt w b t) (h0 : 0 ≤ t.last) (h1 : t.last ≤ 1099511627776) (h2 : 0 ≤ t.since) (h3 : t.since ≤ 1099511627776) :
    Calls Try.prog 27 #[.pointer (some ⟨b, 0, none⟩), .int .i64 now] w fun e w' => e = .returned (.int .i64 (tmNext t now)) ∧ w.grownBy w' none := by
  obtain ⟨c0, c1, c2, c3, c4, cf⟩ := h.cells
  go_enter Try.func27, Try.ntmps27
  go_wp2
  all_goals
    go_ret
    refine ⟨ret_int ?_, grow_refl _ _⟩
    unfold tmNext
    simp_all
    try omega

/-- The bounds that the times of a timer keep. -/
def TmOk (t : Tm) : Prop := 0 ≤ t.last ∧ t.last ≤ 1099511627776 ∧ 0 ≤ t.since ∧ t.since ≤ 1099511627776

set_option maxHeartbeats 400000 in
theorem timer_tries (w : World) (b : Nat) (t : Tm) (h : TmAt w b t) :
    Calls Try.prog 28 #[.pointer (some ⟨b, 0, none⟩)] w fun e w' => e = .returned (.int .i64 t.tries) ∧ w = w' := by
  obtain ⟨c0, c1, c2, c3, c4, cf⟩ := h.cells
  go_enter Try.func28, Try.ntmps28
  go_wp2
  go_ret
  exact ⟨rfl, rfl⟩

def SomeErr (w : World) (b : Nat) (e : Ending) (w' : World) : Prop := ∃ n : Int, ∃ t : Tm, e = .returned (.int .i64 n) ∧ TmAt w' b t ∧ TmOk t ∧ w.grownBy w' (some b)

set_option maxHeartbeats 400000 in
theorem timer_badtime (w : World) (b : Nat) (t : Tm) (kind now : Int) (h : TmAt w b t) (ht : TmOk t) (hn : now < 0 ∨ 1099511627776 < now) :
    Calls Try.prog 26 #[.pointer (some ⟨b, 0, none⟩), .int .i64 kind, .int .i64 now] w (SomeErr w b) := by
  rcases hn with hn | hn
  · go_enter Try.func26, Try.ntmps26
    go_wp2
    go_ret
    exact ⟨1, t, rfl, h, ht, grow_refl _ _⟩
  · have hn' : ¬ now < 0 := by omega
    go_enter Try.func26, Try.ntmps26
    go_wp2
    go_ret
    exact ⟨1, t, rfl, h, ht, grow_refl _ _⟩

set_option maxHeartbeats 400000 in
theorem timer_badkind (w : World) (b : Nat) (t : Tm) (kind now : Int) (h : TmAt w b t) (ht : TmOk t) (h0 : 0 ≤ now) (h1 : now ≤ 1099511627776) (hk : kind < 1 ∨ 6 < kind) :
    Calls Try.prog 26 #[.pointer (some ⟨b, 0, none⟩), .int .i64 kind, .int .i64 now] w (SomeErr w b) := by
  have k1 : (kind == 1) = false := by rw [beq_eq_false_iff_ne]; omega
  have k2 : (kind == 2) = false := by rw [beq_eq_false_iff_ne]; omega
  have k3 : (kind == 3) = false := by rw [beq_eq_false_iff_ne]; omega
  have k4 : (kind == 4) = false := by rw [beq_eq_false_iff_ne]; omega
  have k5 : (kind == 5) = false := by rw [beq_eq_false_iff_ne]; omega
  have k6 : (kind == 6) = false := by rw [beq_eq_false_iff_ne]; omega
  go_enter Try.func26, Try.ntmps26
  go_wp2
  go_ret
  exact ⟨1, t, rfl, h, ht, grow_refl _ _⟩

theorem timer_any (w : World) (b : Nat) (t : Tm) (kind now : Int) (h : TmAt w b t) (ht : TmOk t) :
    Calls Try.prog 26 #[.pointer (some ⟨b, 0, none⟩), .int .i64 kind, .int .i64 now] w (SomeErr w b) := by
  by_cases hn : now < 0 ∨ 1099511627776 < now
  · exact timer_badtime w b t kind now h ht hn
  have h0 : 0 ≤ now := by omega
  have h1 : now ≤ 1099511627776 := by omega
  by_cases hk : kind < 1 ∨ 6 < kind
  · exact timer_badkind w b t kind now h ht h0 h1 hk
  obtain ⟨t1, t2, t3, t4⟩ := ht
  have e : kind = 1 ∨ kind = 2 ∨ kind = 3 ∨ kind = 4 ∨ kind = 5 ∨ kind = 6 := by omega
  rcases e with rfl | rfl | rfl | rfl | rfl | rfl
  · exact (timer_sent w b t now h h0 h1).mono fun _ _ ⟨he, hw, hg⟩ => ⟨0, _, he, hw, ⟨t1, t2, t3, t4⟩, hg⟩
  · by_cases ho : t.owes = true
    · exact (timer_heard_owes w b t now h h0 h1 ho).mono fun _ _ ⟨he, hw, hg⟩ => ⟨0, _, he, hw, ⟨t1, t2, t3, t4⟩, hg⟩
    · exact (timer_heard_new w b t now h h0 h1 (by simpa using ho)).mono fun _ _ ⟨he, hw, hg⟩ => ⟨0, _, he, hw, ⟨t1, t2, h0, h1⟩, hg⟩
  · exact (timer_wanted w b t now h h0 h1).mono fun _ _ ⟨he, hw, hg⟩ => ⟨0, _, he, hw, ⟨t1, t2, t3, t4⟩, hg⟩
  · exact (timer_began w b t now h h0 h1).mono fun _ _ ⟨he, hw, hg⟩ => ⟨0, _, he, hw, ⟨h0, h1, t3, t4⟩, hg⟩
  · exact (timer_made w b t now h h0 h1).mono fun _ _ ⟨he, hw, hg⟩ => ⟨0, _, he, hw, ⟨t1, t2, t3, t4⟩, hg⟩
  · exact (timer_silenced w b t now h h0 h1).mono fun _ _ ⟨he, hw, hg⟩ => ⟨0, _, he, hw, ⟨by simp, by simp, by simp, by simp⟩, hg⟩

end Go.Proofs.Ytejjlmdpejdajaa
