/- Shake: Hear of what is no message. -/
import Derived.Test.YtcmncdaojmkfgaaGreatDoorR16
import Derived.Test.YtcmncdaojmkfgaaGreatDoorQ02
namespace Go.Proofs.YtcmncdaojmkfgaaGreatDoor
open Go.RowKit
set_option linter.unusedVariables false

def toldZ : Value := .agg #[.int .i64 0, .int .u32 0, .string ⟨#[]⟩, .int .i64 0, .int .i64 0, .int .i64 0]
set_option maxHeartbeats 1000000 in
theorem code_snone (w : World) (c : Int) : Calls Tryz.prog 18 #[.int .i64 c] w (Grown (.tuple #[toldZ, .pointer none, .int .i64 c]) w) := by
  unfold toldZ
  go_enter Tryz.func18, Tryz.ntmps18
  go_wp2_with fail
  go_returns
  exact ⟨rfl, by repeat (first | exact grow_refl _ _ | apply grow_drew | apply grow_setCell_new _ _ (by simp) | apply grow_alloc)⟩

set_option maxHeartbeats 2000000 in
theorem code_shear_no (w : World) (own l : List UInt8) (ho : own.length = 32) (c : Int) (hc : (c != 0) = true) (F : ∀ W : World, Calls Tryz.prog 20 #[S l, .int .i64 115, .int .u8 1] W fun e w' => e = .returned (.int .i64 c) ∧ W = w') :
    Calls Tryz.prog 8 #[S own, S l] w (Grown (.tuple #[toldZ, .pointer none, .int .i64 c]) w) := by
  have AK : ∀ W : World, Calls Tryz.prog 19 #[.slice (some ⟨W.heap.size, 0, none⟩) 1 1] (W.alloc (.cells #[S own] 9)) (fun e w' => e = .returned (.bool true) ∧ (W.alloc (.cells #[S own] 9)) = w') := fun W =>
    code_iskey _ W.heap.size 1 [own] rfl (by omega) (fun i hi => by
      rw [obj_cell (obj_new W _)]
      have h4 : i = 0 := by simp at hi; omega
      rcases h4 with rfl
      rfl) (fun x hx => by
      simp only [List.mem_cons, List.not_mem_nil, or_false] at hx
      rcases hx with rfl
      exact ho)
  have AN := fun W : World => code_snone W c
  have AK1 := AK (w.alloc (.cells #[.int .i64 0, .int .u32 0, .string ⟨#[]⟩, .int .i64 0, .int .i64 0, .int .i64 0] 34))
  rw [World.size_alloc] at AK1
  have HT0 : Blk (w.alloc (.cells #[.int .i64 0, .int .u32 0, .string ⟨#[]⟩, .int .i64 0, .int .i64 0, .int .i64 0] 34)) w.heap.size 34 [.int .i64 0, .int .u32 0, .string ⟨#[]⟩, .int .i64 0, .int .i64 0, .int .i64 0] := Blk.new w _ _
  have HG0 := Lib.hid (World.grownBy_alloc w (.cells #[.int .i64 0, .int .u32 0, .string ⟨#[]⟩, .int .i64 0, .int .i64 0, .int .i64 0] 34) none)
  have HT0 := Lib.hid HT0
  unfold Grown toldZ at *
  unfold S at *
  clear AK ho
  go_enter Tryz.func8, Tryz.ntmps8
  go_wp2_with fail
  (with_reducible refine AK1.mono ?_)
  rintro e y1 ⟨rfl, h1⟩
  have g1 : (w.alloc (.cells #[.int .i64 0, .int .u32 0, .string ⟨#[]⟩, .int .i64 0, .int .i64 0, .int .i64 0] 34)).grownBy y1 none := by rw [← h1]; exact World.grownBy_alloc _ _ none
  have HT1 := Lib.hid (HT0.out.kept g1 (by simp))
  have HG1 := Lib.hid (grow_trans HG0.out g1)
  clear h1 g1 HT0 HG0 AK1
  go_wp2_with fail
  (with_reducible refine (F _).mono ?_)
  rintro e z ⟨rfl, rfl⟩
  go_wp2_with fail
  (with_reducible refine (AN _).mono ?_)
  rintro e y2 ⟨rfl, g2⟩
  have hB := HT1.out.kept g2 (by simp)
  have z0 : y2.cell? ⟨w.heap.size, 0, none⟩ = some (.int .i64 0) := Blk.cell hB 0
  have z1 : y2.cell? ⟨w.heap.size, 1, none⟩ = some (.int .u32 0) := Blk.cell hB 1
  have z2 : y2.cell? ⟨w.heap.size, 2, none⟩ = some (.string ⟨#[]⟩) := Blk.cell hB 2
  have z3 : y2.cell? ⟨w.heap.size, 3, none⟩ = some (.int .i64 0) := Blk.cell hB 3
  have z4 : y2.cell? ⟨w.heap.size, 4, none⟩ = some (.int .i64 0) := Blk.cell hB 4
  have z5 : y2.cell? ⟨w.heap.size, 5, none⟩ = some (.int .i64 0) := Blk.cell hB 5
  have q0 := Blk.frozen hB 0
  have q1 := Blk.frozen hB 1
  have q2 := Blk.frozen hB 2
  have q3 := Blk.frozen hB 3
  have q4 := Blk.frozen hB 4
  have q5 := Blk.frozen hB 5
  have HG2 := Lib.hid (grow_trans HG1.out g2)
  have HB := Lib.hid hB
  clear hB g2 HT1 HG1 AN F
  go_wp2_with fail
  have g := grow_setCell (grow_setCell (grow_setCell (grow_setCell (grow_setCell (grow_setCell (grow_refl y2 (some w.heap.size)) 0 (.int .i64 0)) 1 (.int .u32 0)) 2 (.string ⟨#[]⟩)) 3 (.int .i64 0)) 4 (.int .i64 0)) 5 (.int .i64 0)
  have b := (((((HB.out.set 0 (.int .i64 0)).set 1 (.int .u32 0)).set 2 (.string ⟨#[]⟩)).set 3 (.int .i64 0)).set 4 (.int .i64 0)).set 5 (.int .i64 0)
  have t0 := Blk.cell b 0
  have t1 := Blk.cell b 1
  have t2 := Blk.cell b 2
  have t3 := Blk.cell b 3
  have t4 := Blk.cell b 4
  have t5 := Blk.cell b 5
  refine bodyPost_ret (v := .tuple #[.agg #[.int .i64 0, .int .u32 0, .string ⟨#[]⟩, .int .i64 0, .int .i64 0, .int .i64 0], .pointer none, .int .i64 c]) (by simp [results, Tryz.results8, go_sem, t0, t1, t2, t3, t4, t5]) rfl ?_
  exact ⟨rfl, grow_trans_new HG2.out g (Nat.le_refl _)⟩

end Go.Proofs.YtcmncdaojmkfgaaGreatDoor
