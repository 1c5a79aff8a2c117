/- BLAKE2s: its tables. -/
import Derived.Test.YtmomfbkpniblgaaGreatDoorDgBlMix
import Derived.Great.Walk
namespace Go.Proofs.YtmomfbkpniblgaaGreatDoor
open Go.RowKit
set_option linter.unusedVariables false

theorem code_iv (w : World) : Calls Tryz.prog 209 #[] w (Grown (.agg #[.int .u32 1779033703, .int .u32 3144134277, .int .u32 1013904242, .int .u32 2773480762, .int .u32 1359893119, .int .u32 2600822924, .int .u32 528734635, .int .u32 1541459225]) w) := by
  go_enter Tryz.func209, Tryz.ntmps209
  go_wp2_with fail
  refine bodyPost_ret (v := .agg #[.int .u32 1779033703, .int .u32 3144134277, .int .u32 1013904242, .int .u32 2773480762, .int .u32 1359893119, .int .u32 2600822924, .int .u32 528734635, .int .u32 1541459225]) (by simp [results, Tryz.results209, go_sem]) rfl ?_
  exact ⟨rfl, grow_alloc (grow_refl w none) _⟩

def c8 (n : Nat) : Value := .int .u8 (n : Int)
def lCells : List Value := [.int .u8 0, .int .u8 1, .int .u8 2, .int .u8 3, .int .u8 4, .int .u8 5, .int .u8 6, .int .u8 7, .int .u8 8, .int .u8 9, .int .u8 10, .int .u8 11, .int .u8 12, .int .u8 13, .int .u8 14, .int .u8 15, .int .u8 14, .int .u8 10, .int .u8 4, .int .u8 8, .int .u8 9, .int .u8 15, .int .u8 13, .int .u8 6, .int .u8 1, .int .u8 12, .int .u8 0, .int .u8 2, .int .u8 11, .int .u8 7, .int .u8 5, .int .u8 3, .int .u8 11, .int .u8 8, .int .u8 12, .int .u8 0, .int .u8 5, .int .u8 2, .int .u8 15, .int .u8 13, .int .u8 10, .int .u8 14, .int .u8 3, .int .u8 6, .int .u8 7, .int .u8 1, .int .u8 9, .int .u8 4, .int .u8 7, .int .u8 9, .int .u8 3, .int .u8 1, .int .u8 13, .int .u8 12, .int .u8 11, .int .u8 14, .int .u8 2, .int .u8 6, .int .u8 5, .int .u8 10, .int .u8 4, .int .u8 0, .int .u8 15, .int .u8 8, .int .u8 9, .int .u8 0, .int .u8 5, .int .u8 7, .int .u8 2, .int .u8 4, .int .u8 10, .int .u8 15, .int .u8 14, .int .u8 1, .int .u8 11, .int .u8 12, .int .u8 6, .int .u8 8, .int .u8 3, .int .u8 13, .int .u8 2, .int .u8 12, .int .u8 6, .int .u8 10, .int .u8 0, .int .u8 11, .int .u8 8, .int .u8 3, .int .u8 4, .int .u8 13, .int .u8 7, .int .u8 5, .int .u8 15, .int .u8 14, .int .u8 1, .int .u8 9, .int .u8 12, .int .u8 5, .int .u8 1, .int .u8 15, .int .u8 14, .int .u8 13, .int .u8 4, .int .u8 10, .int .u8 0, .int .u8 7, .int .u8 6, .int .u8 3, .int .u8 9, .int .u8 2, .int .u8 8, .int .u8 11, .int .u8 13, .int .u8 11, .int .u8 7, .int .u8 14, .int .u8 12, .int .u8 1, .int .u8 3, .int .u8 9, .int .u8 5, .int .u8 0, .int .u8 15, .int .u8 4, .int .u8 8, .int .u8 6, .int .u8 2, .int .u8 10, .int .u8 6, .int .u8 15, .int .u8 14, .int .u8 9, .int .u8 11, .int .u8 3, .int .u8 0, .int .u8 8, .int .u8 12, .int .u8 2, .int .u8 13, .int .u8 7, .int .u8 1, .int .u8 4, .int .u8 10, .int .u8 5, .int .u8 10, .int .u8 2, .int .u8 8, .int .u8 4, .int .u8 7, .int .u8 6, .int .u8 1, .int .u8 5, .int .u8 15, .int .u8 11, .int .u8 9, .int .u8 14, .int .u8 3, .int .u8 12, .int .u8 13, .int .u8 0]
def zL : List Value := List.replicate 160 (.int .u8 0)
def pCells : List Value := [.int .i64 0, .int .i64 4, .int .i64 8, .int .i64 12, .int .i64 1, .int .i64 5, .int .i64 9, .int .i64 13, .int .i64 2, .int .i64 6, .int .i64 10, .int .i64 14, .int .i64 3, .int .i64 7, .int .i64 11, .int .i64 15, .int .i64 0, .int .i64 5, .int .i64 10, .int .i64 15, .int .i64 1, .int .i64 6, .int .i64 11, .int .i64 12, .int .i64 2, .int .i64 7, .int .i64 8, .int .i64 13, .int .i64 3, .int .i64 4, .int .i64 9, .int .i64 14]
theorem lines_at (W : World) : ∀ r : Nat, r < 10 → (Instr.index 347 (.agg lCells.toArray) (.int .i64 (r : Int))).run Tryz.prog W = .ok (.agg ((blLines.getD r []).map c8).toArray) W
  | 0, _ => by kernel_rfl
  | 1, _ => by kernel_rfl
  | 2, _ => by kernel_rfl
  | 3, _ => by kernel_rfl
  | 4, _ => by kernel_rfl
  | 5, _ => by kernel_rfl
  | 6, _ => by kernel_rfl
  | 7, _ => by kernel_rfl
  | 8, _ => by kernel_rfl
  | 9, _ => by kernel_rfl
  | n + 10, h => absurd h (by omega)
theorem places_at (W : World) : ∀ i : Nat, i < 8 → (Instr.index 346 (.agg pCells.toArray) (.int .i64 (i : Int))).run Tryz.prog W = .ok (.agg #[.int .i64 (((blPlaces.getD i []).getD 0 0 : Nat) : Int), .int .i64 (((blPlaces.getD i []).getD 1 0 : Nat) : Int), .int .i64 (((blPlaces.getD i []).getD 2 0 : Nat) : Int), .int .i64 (((blPlaces.getD i []).getD 3 0 : Nat) : Int)]) W
  | 0, _ => by kernel_rfl
  | 1, _ => by kernel_rfl
  | 2, _ => by kernel_rfl
  | 3, _ => by kernel_rfl
  | 4, _ => by kernel_rfl
  | 5, _ => by kernel_rfl
  | 6, _ => by kernel_rfl
  | 7, _ => by kernel_rfl
  | n + 8, h => absurd h (by omega)
theorem lines_small : ∀ r : Nat, r < 10 → ∀ j : Nat, j < 16 → (blLines.getD r []).getD j 0 < 16 := by decide +kernel
theorem lines_len : ∀ r : Nat, r < 10 → (blLines.getD r []).length = 16 := by decide +kernel
theorem places_ok : ∀ i : Nat, i < 8 → ((blPlaces.getD i []).getD 0 0 < 16 ∧ (blPlaces.getD i []).getD 1 0 < 16 ∧ (blPlaces.getD i []).getD 2 0 < 16 ∧ (blPlaces.getD i []).getD 3 0 < 16) ∧
    (blPlaces.getD i []).getD 0 0 ≠ (blPlaces.getD i []).getD 1 0 ∧ (blPlaces.getD i []).getD 0 0 ≠ (blPlaces.getD i []).getD 2 0 ∧ (blPlaces.getD i []).getD 0 0 ≠ (blPlaces.getD i []).getD 3 0 ∧ (blPlaces.getD i []).getD 1 0 ≠ (blPlaces.getD i []).getD 2 0 ∧ (blPlaces.getD i []).getD 1 0 ≠ (blPlaces.getD i []).getD 3 0 ∧ (blPlaces.getD i []).getD 2 0 ≠ (blPlaces.getD i []).getD 3 0 := by decide +kernel

def lRow (r : Nat) : Array Value := ((blLines.getD r []).map c8).toArray
theorem lCells_one : lCells.toArray.all (·.oneCell') = true := by kernel_rfl
theorem infoL : (Tryz.prog.info? 347).map (·.size) = some lCells.length := by kernel_rfl
theorem infoL2 : (Tryz.prog.info? 347).map (·.size) = some lCells.toArray.size := by kernel_rfl
set_option maxRecDepth 20000 in
set_option maxHeartbeats 2000000 in
theorem code_lines (w : World) : Calls Tryz.prog 262 #[] w (Grown (.agg lCells.toArray) w) := by
  have hz : ∀ W : World, (zeroValue 347).run Tryz.prog W = .ok (.agg zL.toArray) W := fun W => by kernel_rfl
  have hzl : zL.length = lCells.length := by kernel_rfl
  have hzl2 : zL.length = lCells.toArray.size := by kernel_rfl
  obtain ⟨Z, hZ⟩ : ∃ Z, Z = zL := ⟨_, rfl⟩
  rw [← hZ] at hz hzl hzl2
  obtain ⟨x, hx⟩ : ∃ x, x = w.alloc (.cells Z.toArray 347) := ⟨_, rfl⟩
  have hb : Blk x w.heap.size 347 Z := by rw [hx]; exact obj_new _ _
  have hth : x.there w.heap.size 0 lCells.toArray.size := hb.there _ hzl2
  have hW := hb.store lCells hzl.symm
  have hgW : w.grownBy (x.setCells w.heap.size 0 lCells.toArray.toList) none := grow_setCells_new (by rw [hx]; exact grow_alloc (grow_refl w none) _) _ (Nat.le_refl _) _ _
  have hone := lCells_one
  have hi1 := infoL
  have hi2 := infoL2
  obtain ⟨L, hL⟩ : ∃ L, L = lCells := ⟨_, rfl⟩
  rw [← hL] at hth hW hgW hone hi1 hi2 ⊢
  have HL := Lib.hid hL
  have HW := Lib.hid hW
  have HG := Lib.hid hgW
  have HX := Lib.hid hx
  have HT := Lib.hid hth
  have HO := Lib.hid hone
  have HI1 := Lib.hid hi1
  have HI2 := Lib.hid hi2
  clear hb hW hgW hx hth hL hone hi1 hi2 hZ hzl hzl2
  obtain ⟨q0, hq0⟩ : ∃ q, q = lRow 0 := ⟨_, rfl⟩
  have Q0 := Lib.hid hq0
  clear hq0
  obtain ⟨q1, hq1⟩ : ∃ q, q = lRow 1 := ⟨_, rfl⟩
  have Q1 := Lib.hid hq1
  clear hq1
  obtain ⟨q2, hq2⟩ : ∃ q, q = lRow 2 := ⟨_, rfl⟩
  have Q2 := Lib.hid hq2
  clear hq2
  obtain ⟨q3, hq3⟩ : ∃ q, q = lRow 3 := ⟨_, rfl⟩
  have Q3 := Lib.hid hq3
  clear hq3
  obtain ⟨q4, hq4⟩ : ∃ q, q = lRow 4 := ⟨_, rfl⟩
  have Q4 := Lib.hid hq4
  clear hq4
  obtain ⟨q5, hq5⟩ : ∃ q, q = lRow 5 := ⟨_, rfl⟩
  have Q5 := Lib.hid hq5
  clear hq5
  obtain ⟨q6, hq6⟩ : ∃ q, q = lRow 6 := ⟨_, rfl⟩
  have Q6 := Lib.hid hq6
  clear hq6
  obtain ⟨q7, hq7⟩ : ∃ q, q = lRow 7 := ⟨_, rfl⟩
  have Q7 := Lib.hid hq7
  clear hq7
  obtain ⟨q8, hq8⟩ : ∃ q, q = lRow 8 := ⟨_, rfl⟩
  have Q8 := Lib.hid hq8
  clear hq8
  obtain ⟨q9, hq9⟩ : ∃ q, q = lRow 9 := ⟨_, rfl⟩
  have Q9 := Lib.hid hq9
  clear hq9
  go_enter Tryz.func262, Tryz.ntmps262
  go_upto_region 1 with (fail)
  rw [← HX.out]
  refine wp_region_lit ?_
  refine Go.Great.wpList_readTo rfl _ rfl (.agg q0) ?_ ?_
  · rw [Q0.out]
    kernel_rfl
  refine Go.Great.wpList_readTo rfl _ rfl (.agg q1) ?_ ?_
  · rw [Q1.out]
    kernel_rfl
  refine Go.Great.wpList_readTo rfl _ rfl (.agg q2) ?_ ?_
  · rw [Q2.out]
    kernel_rfl
  refine Go.Great.wpList_readTo rfl _ rfl (.agg q3) ?_ ?_
  · rw [Q3.out]
    kernel_rfl
  refine Go.Great.wpList_readTo rfl _ rfl (.agg q4) ?_ ?_
  · rw [Q4.out]
    kernel_rfl
  refine Go.Great.wpList_readTo rfl _ rfl (.agg q5) ?_ ?_
  · rw [Q5.out]
    kernel_rfl
  refine Go.Great.wpList_readTo rfl _ rfl (.agg q6) ?_ ?_
  · rw [Q6.out]
    kernel_rfl
  refine Go.Great.wpList_readTo rfl _ rfl (.agg q7) ?_ ?_
  · rw [Q7.out]
    kernel_rfl
  refine Go.Great.wpList_readTo rfl _ rfl (.agg q8) ?_ ?_
  · rw [Q8.out]
    kernel_rfl
  refine Go.Great.wpList_readTo rfl _ rfl (.agg q9) ?_ ?_
  · rw [Q9.out]
    kernel_rfl
  refine Go.Great.wpList_readTo rfl _ rfl (.agg L.toArray) ?_ ?_
  · rw [HL.out, Q0.out, Q1.out, Q2.out, Q3.out, Q4.out, Q5.out, Q6.out, Q7.out, Q8.out, Q9.out]
    kernel_rfl
  refine wpList_store_mid rfl 347 _ _ rfl w.heap.size 0 L.toArray (by simp [Act.eval, Act.put]) (by simp [Act.eval, Act.put]) HT.out HI2.out HO.out ?_
  refine wpList_nil ?_
  go_wp2_with fail
  refine bodyPost_ret (v := .agg L.toArray) (results_row Tryz.results262 _ _ w.heap.size rfl L _ HW.out Tryz.underlying347 rfl HI1.out) rfl ?_
  exact ⟨rfl, HG.out⟩

end Go.Proofs.YtmomfbkpniblgaaGreatDoor
