/- A bucket: refused turns, Left, New. -/
import Derived.Test.YtcimcagplodpeaaTake
namespace Go.Proofs.Ytcimcagplodpeaa
open Go.RowKit Go.Maps
set_option linter.unusedVariables false

set_option maxHeartbeats 1000000 in
theorem code_take_err (w : World) (base : Nat) (a : Nat) (now t : Int) (n : Nat) (m : Nat → Option Int) (x : Int) (hB : Bk w base a now n m) (ht : t < now ∨ 1099511627776 < t) :
    Calls Try.prog 28 #[.pointer (some ⟨a, 0, none⟩), .int .u32 x, .int .i64 t] w fun e w' => e = .returned (.int .i64 1) ∧ w = w' := by
  obtain ⟨b, ba, bb, D, hc, hm, hr, hbd⟩ := hB
  have c0 := obj_cell hc 0
  by_cases h1 : t < now
  · clear ht
    go_enter Try.func28, Try.ntmps28
    go_wp2
    go_ret
    exact ⟨rfl, rfl⟩
  · have h2 : 1099511627776 < t := by omega
    clear ht
    go_enter Try.func28, Try.ntmps28
    go_wp2
    go_ret
    exact ⟨rfl, rfl⟩

set_option maxHeartbeats 1000000 in
theorem code_left (w : World) (base : Nat) (a : Nat) (now : Int) (n : Nat) (m : Nat → Option Int) (x : Nat) (hx : x < 4294967296) (hB : Bk w base a now n m) :
    Calls Try.prog 29 #[.pointer (some ⟨a, 0, none⟩), .int .u32 x] w fun e w' => e = .returned (.int .i64 ((m x).getD 5)) ∧ w = w' := by
  obtain ⟨b, ba, bb, D, hc, hm, hr, hbd⟩ := hB
  have c1 := obj_cell hc 1
  have hkx : keyOf Try.prog 49 (.int .u32 (x : Int)) = some (.int .u32 (x : Int)) := keyOf_int_mk Try.underlying49 (wf_u32 (by omega))
  cases hx2 : m x with
  | none =>
    have hs3 : has D (.int .u32 (x : Int)) = false := by have := (hr x hx).1; rw [hx2] at this; exact this
    go_enter Try.func29, Try.ntmps29
    go_wp2_with (first
      | (at_lookup; refine wpList_lookup_own_ok_int _ rfl _ _ 74 rfl 49 3 .i64 lawK Try.underlying74 Try.underlying3 (zeroI _) b n _ rfl hm _ _ rfl hkx ?_; intro c3 hat3 hwc3; rw [hs3])
      | fail)
    go_ret
    exact ⟨rfl, rfl⟩
  | some c =>
    have hs3 : has D (.int .u32 (x : Int)) = true := by have := (hr x hx).1; rw [hx2] at this; exact this
    have hat : ∀ z, D.atKey (.int .u32 (x : Int)) z = .lit (.int .i64 c) := (hr x hx).2 c hx2
    go_enter Try.func29, Try.ntmps29
    go_wp2_with (first
      | (at_lookup; refine wpList_lookup_own_ok_int _ rfl _ _ 74 rfl 49 3 .i64 lawK Try.underlying74 Try.underlying3 (zeroI _) b n _ rfl hm _ _ rfl hkx ?_; intro c3 hat3 hwc3; rw [hs3]; (obtain rfl : c = c3 := by rw [hat] at hat3; injection hat3 with e; injection e with _ e))
      | fail)
    go_ret
    exact ⟨rfl, rfl⟩

set_option maxHeartbeats 1000000 in
theorem code_bnew (w : World) :
    Calls Try.prog 26 #[] w fun e w' => ∃ a, e = .returned (.pointer (some ⟨a, 0, none⟩)) ∧ Bk w' w.heap.size a 0 0 (fun _ => none) ∧ w.grownBy w' none := by
  have hmm := @run_makeMap Try.prog
  go_enter Try.func26, Try.ntmps26
  go_wp2
  go_ret
  refine ⟨w.heap.size + 1, ?_, ⟨w.heap.size, by omega, Nat.le_refl _, .map [], ?_, ((World.ownsMap_made w _ _ _).alloc _), rep_empty, fun x c h => by cases h⟩, grow_alloc (grow_alloc (grow_refl _ _) _) _⟩
  · simp
  · have := obj_new (w.alloc (.map #[] 0)) (.cells #[.int .i64 0, .map (some w.heap.size)] 76)
    rw [show (w.alloc (.map #[] 0)).heap.size = w.heap.size + 1 from by simp] at this
    exact this

end Go.Proofs.Ytcimcagplodpeaa
