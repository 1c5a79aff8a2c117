/- The window's functions: contracts over one block of two cells. -/
import Derived.Test.YtcmncdaojmkfgaaGreatDoorV39
import Derived.RegionTactic
import Derived.ChangeAlike
import Derived.Laws.BitsAllLaws
namespace Go.Proofs.YtcmncdaojmkfgaaGreatDoor
open Go.RowKit
set_option linter.unusedVariables false

def WnAt (w : World) (b : Nat) (next : Int) (m : Nat) : Prop :=
  w.heap[b]? = some (.cells #[.int .i64 next, .int .u64 m] 100 (0, 0))

theorem WnAt.cells {w : World} {b : Nat} {next : Int} {m : Nat} (h : WnAt w b next m) :
    w.cell? ⟨b, 0, none⟩ = some (.int .i64 next) ∧ w.cell? ⟨b, 1, none⟩ = some (.int .u64 m) ∧ w.frozen? ⟨b, 0, none⟩ = false ∧ w.frozen? ⟨b, 1, none⟩ = false := by
  unfold WnAt at h
  refine ⟨?_, ?_, ?_, ?_⟩ <;> simp [World.cell?, World.frozen?, h]

theorem WnAt.kept {a b : World} {r : Option Nat} {k : Nat} {n : Int} {m : Nat} (h : WnAt a k n m) (g : a.grownBy b r) (hr : some k ≠ r) : WnAt b k n m := grow_obj g h hr

set_option maxHeartbeats 400000 in
theorem window_new (w : World) : Calls Tryz.prog 28 #[] w fun e w' => e = .returned (.pointer (some ⟨w.heap.size, 0, none⟩)) ∧ WnAt w' w.heap.size 0 0 ∧ w.grownBy w' none := by
  go_enter Tryz.func28, Tryz.ntmps28
  go_wp2
  go_ret
  exact ⟨rfl, obj_new _ _, grow_alloc (grow_refl _ _) _⟩

set_option maxHeartbeats 400000 in
theorem window_check (w : World) (b : Nat) (next : Int) (m : Nat) (n : Int) (h : WnAt w b next m) (h0 : 0 ≤ next) (h1 : next ≤ 1099511627777) (hm : m < 18446744073709551616) (hn : (Lit.int .i64 n).wf = true) :
    Calls Tryz.prog 32 #[.pointer (some ⟨b, 0, none⟩), .int .i64 n] w fun e w' => e = .returned (.int .i64 (wnCheck next m n)) ∧ w.grownBy w' none := by
  obtain ⟨c0, c1, f0, f1⟩ := h.cells
  have bn := bounds_i64 hn
  clear hn
  by_cases hA : n < 0 ∨ 1099511627776 < n
  · go_enter Tryz.func32, Tryz.ntmps32
    go_wp2
    all_goals
      go_ret
      refine ⟨ret_int ?_, grow_refl _ _⟩
      rw [wnCheck, if_pos hA]
  · have a0 : 0 ≤ n := by omega
    have a1 : n ≤ 1099511627776 := by omega
    have d0 : decide (n < 0) = false := by simp; omega
    have d1 : decide (1099511627776 < n) = false := by simp; omega
    clear hA
    go_enter Tryz.func32, Tryz.ntmps32
    go_wp2
    all_goals
      go_ret
      refine ⟨ret_int ?_, grow_refl _ _⟩
      rw [wnCheck, if_neg (by omega)]
    · rw [if_pos (by assumption)]
    · have hk : next - 1 - n < 64 := by assumption
      have hc : 64 ≤ next - 1 - n ∨ (bits .and .u64 (↑m / 2 ^ (next - 1 - n).toNat) 1 == 1) = true := by assumption
      rw [u64_bit m _ hm (by omega)] at hc
      rw [if_neg (by omega), if_pos hc]
    · have hk : next - 1 - n < 64 := by assumption
      have hc : next - 1 - n < 64 ∧ (bits .and .u64 (↑m / 2 ^ (next - 1 - n).toNat) 1 == 1) = false := by assumption
      rw [u64_bit m _ hm (by omega)] at hc
      rw [if_neg (by omega), if_neg (by rw [hc.2]; simp; omega)]
    · rw [if_neg (by omega), if_pos (Or.inl (by assumption))]

set_option maxHeartbeats 400000 in
theorem window_take_no (w : World) (b : Nat) (next : Int) (m : Nat) (n : Int) (h : WnAt w b next m) (h0 : 0 ≤ next) (h1 : next ≤ 1099511627777) (hm : m < 18446744073709551616) (hn : (Lit.int .i64 n).wf = true) (hc : wnCheck next m n ≠ 0) :
    Calls Tryz.prog 34 #[.pointer (some ⟨b, 0, none⟩), .int .i64 n] w fun e w' => e = .returned (.int .i64 (wnCheck next m n)) ∧ w.grownBy w' none := by
  have hb : (wnCheck next m n == 0) = false := by simpa using hc
  clear hc
  go_enter Tryz.func34, Tryz.ntmps34
  go_wp2_with fail
  refine (window_check w b next m n h h0 h1 hm hn).mono ?_
  rintro e x1 ⟨rfl, hg1⟩
  go_wp2_with fail
  go_ret
  exact ⟨rfl, hg1⟩

set_option maxHeartbeats 400000 in
theorem window_take_old (w : World) (b : Nat) (next : Int) (m : Nat) (n : Int) (h : WnAt w b next m) (h0 : 0 ≤ next) (h1 : next ≤ 1099511627777) (hm : m < 18446744073709551616) (hn : (Lit.int .i64 n).wf = true) (hc : wnCheck next m n = 0) (hlt : n < next) :
    Calls Tryz.prog 34 #[.pointer (some ⟨b, 0, none⟩), .int .i64 n] w fun e w' => e = .returned (.int .i64 0) ∧ WnAt w' b next (m ||| 2 ^ (next - 1 - n).toNat) ∧ w.grownBy w' (some b) := by
  obtain ⟨n0, n1⟩ := wnCheck_bd hc
  have e4 := wnCheck_old hc hlt
  have HC := Lib.hid hc
  clear hc
  go_enter Tryz.func34, Tryz.ntmps34
  go_wp2_with fail
  refine (window_check w b next m n h h0 h1 hm hn).mono ?_
  rintro e x1 ⟨rfl, hg1⟩
  have hx := h.kept hg1 (by simp)
  obtain ⟨c0, c1, f0, f1⟩ := hx.cells
  rw [HC.out]
  have e1 : IntKind.i64.wrap (next - 1) = next - 1 := IntWalk.i64_in _ (by omega)
  have e2 : IntKind.i64.wrap (next - 1 - n) = next - 1 - n := IntWalk.i64_in _ (by omega)
  have e3 : 0 ≤ next - 1 - n := by omega
  have e5 : next - 1 - n ≤ 64 := by omega
  go_wp2_with fail
  go_region
  go_wp2_with fail
  go_ret
  have e6 : bits BinOp.or IntKind.u64 (↑m) (IntKind.u64.wrap (2 ^ (next - 1 - n).toNat)) = ((m ||| 2 ^ (next - 1 - n).toNat : Nat) : Int) := u64_orpow m _ hm (by omega)
  rw [e6]
  refine ⟨rfl, ?_, grow_drew (grow_setCell (grow_none hg1) _ _)⟩
  show (x1.setCell _ _).heap[b]? = _
  rw [obj_setCell hx]; rfl

set_option maxHeartbeats 400000 in
theorem window_take_new (w : World) (b : Nat) (next : Int) (m : Nat) (n : Int) (h : WnAt w b next m) (h0 : 0 ≤ next) (h1 : next ≤ 1099511627777) (hm : m < 18446744073709551616) (hn : (Lit.int .i64 n).wf = true) (hc : wnCheck next m n = 0) (hge : next ≤ n) :
    Calls Tryz.prog 34 #[.pointer (some ⟨b, 0, none⟩), .int .i64 n] w fun e w' => e = .returned (.int .i64 0) ∧ WnAt w' b (n + 1) (wnUp next m n) ∧ w.grownBy w' (some b) := by
  obtain ⟨n0, n1⟩ := wnCheck_bd hc
  have HC := Lib.hid hc
  clear hc
  have e1 : IntKind.i64.wrap (n + 1) = n + 1 := IntWalk.i64_in _ (by omega)
  have e2 : IntKind.i64.wrap (n + 1 - next) = n + 1 - next := IntWalk.i64_in _ (by omega)
  have e3 : IntKind.i64.wrap (n + 1 - 1) = n := by rw [IntWalk.i64_in _ (by omega)]; omega
  have e4 : IntKind.i64.wrap (n - n) = 0 := by rw [IntWalk.i64_in _ (by omega)]; omega
  have e5 : 0 ≤ n + 1 - next := by omega
  by_cases hs : n + 1 - next ≤ 64
  · go_enter Tryz.func34, Tryz.ntmps34
    go_wp2_with fail
    refine (window_check w b next m n h h0 h1 hm hn).mono ?_
    rintro e x1 ⟨rfl, hg1⟩
    have hx := h.kept hg1 (by simp)
    obtain ⟨c0, c1, f0, f1⟩ := hx.cells
    rw [HC.out]
    go_wp2_with fail
    go_region
    go_wp2_with fail
    go_region
    go_wp2_with fail
    go_ret
    have e6 : bits BinOp.or IntKind.u64 (IntKind.u64.wrap (↑m * 2 ^ (n + 1 - next).toNat)) 1 = ((wnUp next m n : Nat) : Int) := by
      rw [wnUp, show (min (n + 1 - next) 64).toNat = (n + 1 - next).toNat from by omega]
      exact u64_or1 _ _ (by simp)
    have e6b : bits BinOp.or IntKind.u64 (IntKind.u64.wrap (↑m * 2 ^ (min (n + 1 - next) 64).toNat)) 1 = ((wnUp next m n : Nat) : Int) := by
      rw [wnUp]
      exact u64_or1 _ _ (by simp)
    first | rw [e6] | rw [e6b]
    refine ⟨rfl, ?_, grow_drew (grow_drew (grow_setCell (grow_setCell (grow_setCell (grow_none hg1) _ _) _ _) _ _))⟩
    show (((x1.setCell _ _).setCell _ _).setCell _ _).heap[b]? = _
    rw [obj_setCell (obj_setCell (obj_setCell hx _ _) _ _)]; rfl
  · go_enter Tryz.func34, Tryz.ntmps34
    go_wp2_with fail
    refine (window_check w b next m n h h0 h1 hm hn).mono ?_
    rintro e x1 ⟨rfl, hg1⟩
    have hx := h.kept hg1 (by simp)
    obtain ⟨c0, c1, f0, f1⟩ := hx.cells
    rw [HC.out]
    go_wp2_with fail
    go_region
    go_wp2_with fail
    go_region
    go_wp2_with fail
    go_ret
    have e6 : bits BinOp.or IntKind.u64 (IntKind.u64.wrap (↑m * 18446744073709551616)) 1 = ((wnUp next m n : Nat) : Int) := by
      rw [wnUp, show (min (n + 1 - next) 64).toNat = 64 from by omega]
      exact u64_or1 _ _ (by simp)
    have e6b : bits BinOp.or IntKind.u64 (IntKind.u64.wrap (↑m * 2 ^ (min (n + 1 - next) 64).toNat)) 1 = ((wnUp next m n : Nat) : Int) := by
      rw [wnUp]
      exact u64_or1 _ _ (by simp)
    first | rw [e6] | rw [e6b]
    refine ⟨rfl, ?_, grow_drew (grow_drew (grow_setCell (grow_setCell (grow_setCell (grow_none hg1) _ _) _ _) _ _))⟩
    show (((x1.setCell _ _).setCell _ _).setCell _ _).heap[b]? = _
    rw [obj_setCell (obj_setCell (obj_setCell hx _ _) _ _)]; rfl

theorem window_take (w : World) (b : Nat) (next : Int) (m : Nat) (n : Int) (h : WnAt w b next m) (h0 : 0 ≤ next) (h1 : next ≤ 1099511627777) (hm : m < 18446744073709551616) (hn : (Lit.int .i64 n).wf = true) :
    Calls Tryz.prog 34 #[.pointer (some ⟨b, 0, none⟩), .int .i64 n] w fun e w' => e = .returned (.int .i64 (wnCheck next m n)) ∧ WnAt w' b (wnTake next m n).1 (wnTake next m n).2 ∧ w.grownBy w' (some b) := by
  unfold wnTake
  by_cases hc : wnCheck next m n = 0
  · rw [if_neg (by simpa using hc)]
    by_cases hlt : n < next
    · rw [if_pos hlt, hc]
      exact window_take_old w b next m n h h0 h1 hm hn hc hlt
    · rw [if_neg hlt, hc]
      exact window_take_new w b next m n h h0 h1 hm hn hc (by omega)
  · rw [if_pos hc]
    exact (window_take_no w b next m n h h0 h1 hm hn hc).mono fun _ _ ⟨he, hg⟩ => ⟨he, h.kept hg (by simp), grow_none hg⟩

end Go.Proofs.YtcmncdaojmkfgaaGreatDoor
