/- The functions of package stamp: contracts. -/
import Derived.Test.YtejjlmdpejdajaaWire
import Derived.Test.YtejjlmdpejdajaaRest
import Derived.Deep.RegionWith
import Derived.Deep.RegionHeld3
namespace Go.Proofs.Ytejjlmdpejdajaa
open Go.RowKit
set_option linter.unusedVariables false

def isT (s n : Int) : Bool := decide (0 ≤ s) && decide (s ≤ 1099511627776) && decide (0 ≤ n) && decide (n ≤ 999999999)

set_option maxHeartbeats 400000 in
theorem stamp_isTime (w : World) (s n : Int) : Calls Try.prog 33 #[.agg #[.int .i64 s, .int .i64 n]] w fun e w' => e = .returned (.bool (isT s n)) ∧ w.grownBy w' none := by
  have hB : ∃ b, b = isT s n := ⟨_, rfl⟩
  obtain ⟨b, hB⟩ := hB
  have HB := Lib.hid hB
  rw [← hB]
  clear hB
  go_enter Try.func33, Try.ntmps33
  go_wp2
  all_goals
    go_ret
    refine ⟨ret_bool ?_, grow_alloc (grow_refl _ _) _⟩
    rw [HB.out]
    unfold isT
    first | rfl | (simp [*]; done) | (simp [*]; omega)

set_option maxHeartbeats 400000 in
theorem stamp_write_no (w : World) (s n : Int) (h : isT s n = false) : Calls Try.prog 22 #[.agg #[.int .i64 s, .int .i64 n]] w fun e w' => e = .returned (.tuple #[S [], .int .i64 1]) ∧ w.grownBy w' none := by
  go_enter Try.func22, Try.ntmps22
  go_wp2_with fail
  refine (stamp_isTime _ s n).mono ?_
  rintro e x1 ⟨rfl, hg⟩
  rw [h]
  go_wp2_with fail
  go_ret2
  exact ⟨rfl, grow_trans (World.grownBy_alloc _ _ _) hg⟩

def stampB (s n : Int) : List UInt8 := bigB (4611686018427387904 + s.toNat) 8 ++ bigB n.toNat 4

set_option maxHeartbeats 400000 in
theorem stamp_write_ok (w : World) (s n : Int) (h : isT s n = true) : Calls Try.prog 22 #[.agg #[.int .i64 s, .int .i64 n]] w fun e w' => e = .returned (.tuple #[S (stampB s n), .int .i64 0]) ∧ w.grownBy w' none := by
  have hb : 0 ≤ s ∧ s ≤ 1099511627776 ∧ 0 ≤ n ∧ n ≤ 999999999 := by unfold isT at h; simp at h; omega
  obtain ⟨s0, s1, n0, n1⟩ := hb
  have HS := Lib.hid h
  clear h
  go_enter Try.func22, Try.ntmps22
  go_wp2_with fail
  refine (stamp_isTime _ s n).mono ?_
  rintro e x1 ⟨rfl, hg⟩
  rw [HS.out]
  go_wp2_with fail
  have hz := hg.size
  have hc0 : x1.cell? ⟨w.heap.size, 0, none⟩ = some (.int .i64 s) := by
    rw [World.cell?_of_block (hg.block w.heap.size (by simp) (by simp))]
    rw [obj_cell (obj_new w _)]; rfl
  have hc1 : x1.cell? ⟨w.heap.size, 1, none⟩ = some (.int .i64 n) := by
    rw [World.cell?_of_block (hg.block w.heap.size (by simp) (by simp))]
    rw [obj_cell (obj_new w _)]; rfl
  obtain ⟨sn, rfl⟩ := Int.eq_ofNat_of_zero_le s0
  obtain ⟨nn, rfl⟩ := Int.eq_ofNat_of_zero_le n0
  have hN : ∃ N : Nat, N = 4611686018427387904 + sn := ⟨_, rfl⟩
  obtain ⟨N, hN⟩ := hN
  have e1 : IntKind.u64.wrap (sn : Int) = (sn : Int) := IntWalk.u64_in _ (by omega)
  have e2 : IntKind.u64.wrap (4611686018427387904 + (sn : Int)) = (N : Int) := by rw [IntWalk.u64_in _ (by omega)]; omega
  have e3 : IntKind.u64.wrap (nn : Int) = (nn : Int) := IntWalk.u64_in _ (by omega)
  have hNl : N < 18446744073709551616 := by omega
  have hfin : stampB (sn : Int) (nn : Int) = bigB N 8 ++ bigB nn 4 := by unfold stampB; rw [hN]; rfl
  have HF := Lib.hid hfin
  have hg1 := grow_trans (World.grownBy_alloc w _ none) hg
  clear hN HS hfin hg
  have hB : w.heap.size + 1 ≤ x1.heap.size := by simpa using hz
  generalize hbase : w.heap.size + 1 = base at *
  have hlt : w.heap.size < base := by omega
  have Hb := Lib.hid hbase
  clear hbase hz
  have A1 : ∀ W : World, base ≤ W.heap.size → Calls Try.prog 34 #[.slice none 0 0, .int .u64 N, .int .i64 8] W (OwnBytes W base (bigB N 8)) :=
    fun W h => wire_appendBig W base (.slice none 0 0) [] N 8 (brow_nil _ _) hNl (by omega) (by omega) (by simp) h
  have A2 : ∀ (W : World) (v : Value), brow W base v (bigB N 8) → base ≤ W.heap.size → Calls Try.prog 34 #[v, .int .u64 nn, .int .i64 4] W (OwnBytes W base (bigB N 8 ++ bigB nn 4)) :=
    fun W v h1 h => wire_appendBig W base v (bigB N 8) nn 4 h1 (by omega) (by omega) (by omega) (by rw [bigB_length]; omega) h
  go_region_with
    (first
      | (go_at_call 34; (with_reducible refine (A1 _ ?_).mono ?_); (exact hB); rintro e x2 ⟨v2, rfl, hv2, hB2⟩; have k0 : x2.cell? ⟨w.heap.size, 0, none⟩ = some (.int .i64 sn) := (hB2.cell hlt).trans hc0; have k1 : x2.cell? ⟨w.heap.size, 1, none⟩ = some (.int .i64 nn) := (hB2.cell hlt).trans hc1; have hz2 := hB2.size)
      | (go_at_call 34; (with_reducible refine (A2 _ _ ?_ ?_).mono ?_); (exact hv2); (exact Nat.le_trans hB hz2); rintro e x3 ⟨v3, rfl, hv3, hB3⟩; have hcv := conv_brow hv3))
  all_goals
    go_wp2_with fail
    go_ret2
    refine ⟨?_, ?_⟩
    · rw [HF.out]; rfl
    · exact grow_of_below (((grow_below hg1 w.heap.size (Nat.le_refl _) (by simp)).drew.trans (Below.mono hB2 (Nat.le_of_lt hlt))).trans (Below.mono hB3 (Nat.le_of_lt hlt)))

end Go.Proofs.Ytejjlmdpejdajaa
