/- stamp.After: contracts. -/
import Derived.Test.YtejjlmdpejdajaaBase
import Derived.Deep.RegionWith
import Derived.Deep.RegionHeld3
namespace Go.Proofs.Ytejjlmdpejdajaa
open Go.RowKit
set_option linter.unusedVariables false

def cmpI (a b : Int) : Int := if a < b then -1 else if b < a then 1 else 0

set_option maxHeartbeats 400000 in
theorem cmp_compare (w : World) (a b : Int) : Calls Try.prog 37 #[.int .i64 a, .int .i64 b] w fun e w' => e = .returned (.int .i64 (cmpI a b)) ∧ w = w' := by
  unfold cmpI
  by_cases h1 : a < b
  · rw [if_pos h1]
    go_enter Try.func37, Try.ntmps37
    go_wp2
    go_ret
    exact ⟨rfl, rfl⟩
  · rw [if_neg h1]
    by_cases h2 : b < a
    · rw [if_pos h2]
      go_enter Try.func37, Try.ntmps37
      go_wp2
      go_ret
      exact ⟨rfl, rfl⟩
    · rw [if_neg h2]
      go_enter Try.func37, Try.ntmps37
      go_wp2
      go_ret
      exact ⟨rfl, rfl⟩

def orI (a b : Int) : Int := if a = 0 then b else a

set_option maxHeartbeats 400000 in
theorem cmp_or (w : World) (B : Nat) (a b : Int) (h0 : w.cell? ⟨B, 0, none⟩ = some (.int .i64 a)) (h1 : w.cell? ⟨B, 1, none⟩ = some (.int .i64 b)) :
    Calls Try.prog 36 #[.slice (some ⟨B, 0, none⟩) 2 2] w fun e w' => e = .returned (.int .i64 (orI a b)) ∧ w = w' := by
  unfold orI
  by_cases h : a = 0
  · have hb : (a != 0) = false := by simpa using h
    rw [if_pos h]
    clear h
    by_cases h2 : b = 0
    · have hb2 : (b != 0) = false := by simpa using h2
      have H2 := Lib.hid h2
      clear h2
      go_enter Try.func36, Try.ntmps36
      go_wp2
      go_rounds 3
      all_goals
        go_wp2
        go_ret
        exact ⟨ret_int (by rw [H2.out]), rfl⟩
    · have hb2 : (b != 0) = true := by simpa using h2
      clear h2
      go_enter Try.func36, Try.ntmps36
      go_wp2
      go_rounds 3
      all_goals
        go_wp2
        go_ret
        exact ⟨rfl, rfl⟩
  · have hb : (a != 0) = true := by simpa using h
    rw [if_neg h]
    clear h
    go_enter Try.func36, Try.ntmps36
    go_wp2
    go_rounds 3
    all_goals
      go_wp2
      go_ret
      exact ⟨rfl, rfl⟩

theorem cell_new_drew (W : World) (cs : Array Value) (t : TypeId) (B : Nat) (hB : B = W.heap.size) (o : Nat) : (W.alloc (.cells cs t)).drew.cell? ⟨B, o, none⟩ = cs[o]? := by
  subst hB
  exact obj_cell (obj_new W _) o

theorem cell_alloc {x : World} (o : Obj) {a : Addr} {v : Value} (h : x.cell? a = some v) : (x.alloc o).cell? a = some v := by
  rw [World.cell?_of_block (Below.heap_alloc x o a.block (World.block_lt_of_cell? x _ h))]; exact h

def laterT (s n s' n' : Int) : Bool := decide (s' < s) || (decide (s = s') && decide (n' < n))

set_option maxHeartbeats 1000000 in
theorem stamp_after (w : World) (s n s' n' : Int) : Calls Try.prog 29 #[.agg #[.int .i64 s, .int .i64 n], .agg #[.int .i64 s', .int .i64 n']] w fun e w' => e = .returned (.bool (laterT s n s' n')) ∧ w.grownBy w' none := by
  have hfin : decide (0 < orI (cmpI s s') (cmpI n n')) = laterT s n s' n' := by
    unfold orI cmpI laterT
    rw [Bool.eq_iff_iff]
    simp
    split <;> (try split) <;> (try split) <;> (try split) <;> (try split) <;> omega
  have HF := Lib.hid hfin
  clear hfin
  have hw : ∃ x, x = (w.alloc (.cells #[.int .i64 s, .int .i64 n] 45)).alloc (.cells #[.int .i64 s', .int .i64 n'] 45) := ⟨_, rfl⟩
  obtain ⟨x, hx⟩ := hw
  have o1 : x.heap[w.heap.size]? = some (.cells #[.int .i64 s, .int .i64 n] 45 (0, 0)) := by rw [hx]; exact obj_alloc (obj_new w _)
  have o2 : x.heap[w.heap.size + 1]? = some (.cells #[.int .i64 s', .int .i64 n'] 45 (0, 0)) := by
    rw [hx]
    have := obj_new (w.alloc (.cells #[.int .i64 s, .int .i64 n] 45)) (.cells #[.int .i64 s', .int .i64 n'] 45)
    rw [show (w.alloc (.cells #[.int .i64 s, .int .i64 n] 45)).heap.size = w.heap.size + 1 from by simp] at this
    exact this
  have c0 : x.cell? ⟨w.heap.size, 0, none⟩ = some (.int .i64 s) := by rw [obj_cell o1]; rfl
  have c1 : x.cell? ⟨w.heap.size, 1, none⟩ = some (.int .i64 n) := by rw [obj_cell o1]; rfl
  have c2 : x.cell? ⟨w.heap.size + 1, 0, none⟩ = some (.int .i64 s') := by rw [obj_cell o2]; rfl
  have c3 : x.cell? ⟨w.heap.size + 1, 1, none⟩ = some (.int .i64 n') := by rw [obj_cell o2]; rfl
  have hG : w.grownBy x none := by rw [hx]; exact grow_alloc (grow_alloc (grow_refl w _) _) _
  have hz : x.heap.size = w.heap.size + 2 := by rw [hx]; simp
  have HX := Lib.hid hx
  have HZ := Lib.hid hz
  clear o1 o2 hx hz
  go_enter Try.func29, Try.ntmps29
  go_wp2_with fail
  rw [← HX.out]
  clear HX
  go_region_held3 (fun w' => w'.cell? ⟨w.heap.size, 0, none⟩ = some (.int .i64 s) ∧ w'.cell? ⟨w.heap.size, 1, none⟩ = some (.int .i64 n) ∧ w'.cell? ⟨w.heap.size + 1, 0, none⟩ = some (.int .i64 s') ∧ w'.cell? ⟨w.heap.size + 1, 1, none⟩ = some (.int .i64 n'))
    (first | go_keep | (refine ⟨cell_alloc _ ?_, cell_alloc _ ?_, cell_alloc _ ?_, cell_alloc _ ?_⟩ <;> assumption))
    (first
      | (go_at_call 37; refine (cmp_compare _ _ _).mono ?_; rintro e x2 ⟨rfl, rfl⟩)
      | (go_at_call 36; refine (cmp_or _ _ (cmpI s s') (cmpI n n') ?_ ?_).mono ?_; exact cell_new_drew _ _ _ _ (by simp) 0; exact cell_new_drew _ _ _ _ (by simp) 1; rintro e x2 ⟨rfl, rfl⟩))
  go_wp2_with fail
  go_ret
  refine ⟨ret_bool HF.out, ?_⟩
  exact grow_drew (grow_alloc hG _)

end Go.Proofs.Ytejjlmdpejdajaa
