/- The walk of BucketFull. -/
import Derived.Test.YtcimcagplodpeaaTakeMore
namespace Go.Proofs.Ytcimcagplodpeaa
open Go.RowKit Go.Maps
set_option linter.unusedVariables false

def ky32 (F j : Nat) : Nat := (F + j) % 4294967296
theorem ky32_lt (F j : Nat) : ky32 F j < 4294967296 := Nat.mod_lt _ (by omega)
def off32 (F x : Nat) : Nat := (x + (4294967296 - F)) % 4294967296
/-- The first so many sources from F on have four turns left. -/
def many (F i : Nat) : Nat → Option Int := fun x => if x < 4294967296 ∧ off32 F x < i then some 4 else none

theorem many_zero (F : Nat) : many F 0 = fun _ => none := by
  funext x
  simp [many]

theorem many_bd (F i : Nat) : ∀ x c, many F i x = some c → 0 ≤ c ∧ c ≤ 4 := by
  intro x c h
  unfold many at h
  split at h
  · cases h; omega
  · cases h

theorem later_zero {m : Nat → Option Int} (h : ∀ x c, m x = some c → 0 ≤ c ∧ c ≤ 4) : later m 0 = m := by
  funext x
  unfold later
  cases e : m x with
  | none => rfl
  | some c =>
    have := h x c e
    simp [Option.filter_some]
    omega

theorem many_at (F i : Nat) (hF : F < 4294967296) (hi : i < 4294967296) : many F i (ky32 F i) = none := by
  unfold many ky32 off32
  rw [if_neg (by omega)]

theorem many_step (F i : Nat) (hF : F < 4294967296) (hi : i < 4294967296) : upd (many F i) (ky32 F i) (some 4) = many F (i + 1) := by
  funext x
  unfold upd many ky32 off32
  by_cases e : x = (F + i) % 4294967296
  · subst e
    rw [if_pos rfl, if_pos (by omega)]
  · rw [if_neg e]
    by_cases q : x < 4294967296 ∧ (x + (4294967296 - F)) % 4294967296 < i
    · rw [if_pos q, if_pos (by omega)]
    · rw [if_neg q, if_neg (by omega)]

theorem many_size (F i : Nat) (hF : F < 4294967296) (hi : i ≤ 16) (D : Dm) (g : Good D) (r : Rep D (many F i)) : Maps.size D = i := by
  have h1 := size_le_of g r ((List.range i).map (ky32 F)) (fun x hx h => by
    unfold many at h
    by_cases q : x < 4294967296 ∧ off32 F x < i
    · refine List.mem_map.2 ⟨off32 F x, List.mem_range.2 q.2, ?_⟩
      unfold ky32 off32
      omega
    · rw [if_neg q] at h
      cases h)
  have h2 := size_ge_of g r ((List.range i).map (ky32 F)) (by
      rw [List.nodup_iff_pairwise_ne, List.pairwise_map]
      refine (List.nodup_iff_pairwise_ne.1 (List.nodup_range (n := i))).imp_of_mem ?_
      intro a b ha hb hab e
      have := List.mem_range.1 ha
      have := List.mem_range.1 hb
      unfold ky32 at e
      omega) (fun x hx => by
    obtain ⟨j, hj, rfl⟩ := List.mem_map.1 hx
    have := List.mem_range.1 hj
    refine ⟨ky32_lt _ _, ?_⟩
    unfold many ky32 off32
    rw [if_pos (by omega)]
    rfl)
  simp at h1 h2
  omega

theorem many_taken (F i : Nat) (hF : F < 4294967296) (hi : i < 16) : taken (many F i) (ky32 F i) false = (0, many F (i + 1)) := by
  unfold taken
  rw [many_at F i hF (by omega)]
  simp only [Bool.false_eq_true, if_false]
  rw [many_step F i hF (by omega)]

theorem take_many (w : World) (base : Nat) (a : Nat) (i F : Nat) (hF : F < 4294967296) (hi : i < 16) (hB : Bk w base a 0 i (many F i)) (hbase : base ≤ w.heap.size) :
    Calls Try.prog 28 #[.pointer (some ⟨a, 0, none⟩), .int .u32 (ky32 F i : Nat), .int .i64 0] w fun e w' => e = .returned (.int .i64 0) ∧ Bk w' base a 0 (i + 1) (many F (i + 1)) ∧ Below base w w' := by
  have h := code_take w base a 0 0 i (many F i) (ky32 F i) (ky32_lt _ _) false hB hbase (by omega) (by omega) (by omega) (by omega)
    (by
      intro _ D g r
      rw [show min ((0 : Int) - 0) 5 = 0 from by omega, later_zero (many_bd F i)] at r
      have := many_size F i hF (by omega) D g r
      constructor
      · intro h; omega
      · intro h; cases h)
  rw [show min ((0 : Int) - 0) 5 = 0 from by omega, later_zero (many_bd F i), many_taken F i hF hi] at h
  exact h

theorem take_full (w : World) (base : Nat) (a : Nat) (F : Nat) (hF : F < 4294967296) (hB : Bk w base a 0 16 (many F 16)) (hbase : base ≤ w.heap.size) :
    Calls Try.prog 28 #[.pointer (some ⟨a, 0, none⟩), .int .u32 (ky32 F 16 : Nat), .int .i64 0] w fun e w' => e = .returned (.int .i64 9) ∧ Bk w' base a 0 17 (many F 16) ∧ Below base w w' := by
  have h := code_take w base a 0 0 16 (many F 16) (ky32 F 16) (ky32_lt _ _) true hB hbase (by omega) (by omega) (by omega) (by omega)
    (by
      intro _ D g r
      rw [show min ((0 : Int) - 0) 5 = 0 from by omega, later_zero (many_bd F 16)] at r
      have := many_size F 16 hF (by omega) D g r
      simp [this])
  rw [show min ((0 : Int) - 0) 5 = 0 from by omega, later_zero (many_bd F 16)] at h
  unfold taken at h
  rw [many_at F 16 hF (by omega)] at h
  simp only [if_true] at h
  exact h

theorem many_first (F : Nat) (hF : F < 4294967296) : many F 16 F = some 4 := by
  unfold many off32
  rw [if_pos (by omega)]

theorem take_again (w : World) (base : Nat) (a : Nat) (F : Nat) (hF : F < 4294967296) (hB : Bk w base a 0 17 (many F 16)) (hbase : base ≤ w.heap.size) :
    Calls Try.prog 28 #[.pointer (some ⟨a, 0, none⟩), .int .u32 F, .int .i64 0] w fun e w' => e = .returned (.int .i64 0) ∧ Bk w' base a 0 18 (upd (many F 16) F (some 3)) ∧ Below base w w' := by
  have h := code_take w base a 0 0 17 (many F 16) F hF true hB hbase (by omega) (by omega) (by omega) (by omega)
    (by
      intro hn
      rw [show min ((0 : Int) - 0) 5 = 0 from by omega, later_zero (many_bd F 16), many_first F hF] at hn
      cases hn)
  rw [show min ((0 : Int) - 0) 5 = 0 from by omega, later_zero (many_bd F 16)] at h
  unfold taken at h
  rw [many_first F hF] at h
  simpa using h

theorem later_last (F : Nat) (hF : F < 4294967296) : later (upd (many F 16) F (some 3)) 1 = fun x => if x = F then some 4 else none := by
  funext x
  unfold later upd many
  by_cases e : x = F
  · simp [e]
  · simp only [e, if_false]
    by_cases q : x < 4294967296 ∧ off32 F x < 16
    · simp [q]
    · simp [q]

theorem take_last (w : World) (base : Nat) (a : Nat) (F : Nat) (hF : F < 4294967296) (hB : Bk w base a 0 18 (upd (many F 16) F (some 3))) (hbase : base ≤ w.heap.size) :
    Calls Try.prog 28 #[.pointer (some ⟨a, 0, none⟩), .int .u32 (ky32 F 16 : Nat), .int .i64 1] w fun e w' => e = .returned (.int .i64 0) ∧ Bk w' base a 1 19 (upd (fun x => if x = F then some 4 else none) (ky32 F 16) (some 4)) ∧ Below base w w' := by
  have hne : ky32 F 16 ≠ F := by unfold ky32; omega
  have h := code_take w base a 0 1 18 (upd (many F 16) F (some 3)) (ky32 F 16) (ky32_lt _ _) false hB hbase (by omega) (by omega) (by omega) (by omega)
    (by
      intro _ D g r
      rw [show min ((1 : Int) - 0) 5 = 1 from by omega, later_last F hF] at r
      have := size_le_of g r [F] (fun x _ h => by
        by_cases e : x = F
        · simp [e]
        · simp [e] at h)
      simp at this
      constructor
      · intro h; omega
      · intro h; cases h)
  rw [show min ((1 : Int) - 0) 5 = 1 from by omega, later_last F hF] at h
  unfold taken at h
  simp only [hne, if_false, Bool.false_eq_true] at h
  exact h

set_option maxHeartbeats 2000000 in
theorem walk_BucketFull (a0 : Int) (w0 : (Lit.int .u32 a0).wf = true) (w : World) :
    Calls Try.prog 13 #[.int .u32 a0] w fun e w' => e = .returned (.bool true) ∧ Below w.heap.size w w' := by
  obtain ⟨F, rfl, hF⟩ : ∃ z : Nat, a0 = (z : Int) ∧ z < 4294967296 := by have := bounds_u32 w0; exact ⟨a0.toNat, by omega, by omega⟩
  clear w0
  have e16 : ((F : Int) + 16) % 4294967296 = ((ky32 F 16 : Nat) : Int) := by unfold ky32; omega
  have e17 : ((F : Int) + 17) % 4294967296 = ((ky32 F 17 : Nat) : Int) := by unfold ky32; omega
  have E16 := Lib.hid e16
  have E17 := Lib.hid e17
  clear e16 e17
  go_enter Try.func13, Try.ntmps13
  go_wp2_with fail
  refine (code_bnew w).mono ?_
  rintro e x1 ⟨a, rfl, hb, hg⟩
  rw [← many_zero F] at hb
  have HB := grow_below hg w.heap.size (by omega) (by simp)
  clear hg
  go_wp2_with fail
  go_loopw [9] (fun i wr => ∃ k : Nat, k ≤ 16 ∧ i = .int .u32 k ∧ Bk wr w.heap.size a 0 k (many F k) ∧ Below w.heap.size w wr) (fun i _ => 16 - (intOf i).toNat)
  case atStart => exact ⟨0, by omega, rfl, hb, HB⟩
  case round =>
    clear hb HB
    obtain ⟨k, hk, rfl, hb, HB⟩ := hrel
    by_cases hlt : k < 16
    · have e1 : ((F : Int) + (k : Int)) % 4294967296 = ((ky32 F k : Nat) : Int) := by unfold ky32; omega
      have E1 := Lib.hid e1
      clear e1
      go_wp2_with fail
      rw [E1.out]
      refine (take_many _ _ a k F hF hlt hb HB.size).mono ?_
      rintro e x3 ⟨rfl, hb3, hB3⟩
      go_wp2_with fail
      go_roundw
      case rel => exact ⟨k + 1, by omega, by go_num, hb3, HB.trans hB3⟩
      case measure => simp [intOf]; omega
    · obtain rfl : k = 16 := by omega
      go_wp2_with fail
      rw [E16.out]
      refine (take_full _ _ a F hF hb HB.size).mono ?_
      rintro e x3 ⟨rfl, hb3, hB3⟩
      replace HB := HB.trans hB3
      clear hb hB3
      go_wp2_with fail
      refine (take_again _ _ a F hF hb3 HB.size).mono ?_
      rintro e x4 ⟨rfl, hb4, hB4⟩
      replace HB := HB.trans hB4
      clear hb3 hB4
      go_wp2_with fail
      rw [E16.out]
      refine (take_last _ _ a F hF hb4 HB.size).mono ?_
      rintro e x5 ⟨rfl, hb5, hB5⟩
      replace HB := HB.trans hB5
      clear hb4 hB5
      have L1 : (upd (fun x => if x = F then some 4 else none) (ky32 F 16) (some 4) (ky32 F 16)).getD 5 = 4 := by simp [upd]
      have L2 : (upd (fun x => if x = F then some 4 else none) (ky32 F 16) (some 4) (ky32 F 17)).getD 5 = 5 := by
        have h1 : ky32 F 17 ≠ ky32 F 16 := by unfold ky32; omega
        have h2 : ky32 F 17 ≠ F := by unfold ky32; omega
        simp [upd, h1, h2]
      have H1 := Lib.hid L1
      have H2 := Lib.hid L2
      clear L1 L2
      go_wp2_with fail
      rw [E16.out]
      refine (code_left _ _ a _ _ _ _ (ky32_lt _ _) hb5).mono ?_
      rintro e x6 ⟨rfl, rfl⟩
      rw [H1.out]
      go_wp2_with fail
      rw [E17.out]
      refine (code_left _ _ a _ _ _ _ (ky32_lt _ _) hb5).mono ?_
      rintro e x7 ⟨rfl, rfl⟩
      rw [H2.out]
      go_wp2_with fail
      go_ret
      exact ⟨rfl, HB⟩

end Go.Proofs.Ytcimcagplodpeaa
