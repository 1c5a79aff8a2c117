/- Noise: suites, and their nonces. -/
import Derived.Test.YtffeekfofbcobaaGreatLittle
import Derived.Test.YtffeekfofbcobaaGreatWire
import Derived.Test.YtffeekfofbcobaaGreatZeros
import Derived.Laws.MakeOwn
namespace Go.Proofs.YtffeekfofbcobaaGreat
open Go.RowKit
set_option linter.unusedVariables false

/-- A suite's value; its nonce. -/
def suV (suite : Nat) : Value := if suite = 1 then .iface 57 (.agg #[]) else .iface 58 (.agg #[])
def nonL (suite n : Nat) : List UInt8 := [0, 0, 0, 0] ++ (if suite = 1 then leB n 8 else bigB n 8)
theorem nonL_length (suite n : Nat) : (nonL suite n).length = 12 := by
  unfold nonL
  split <;> simp [leB_length, bigB_length]

theorem code_of1 (w : World) : Calls Tryz.prog 15 #[.int .i64 1] w fun e w' => e = .returned (suV 1) ∧ w = w' := by
  go_enter Tryz.func15, Tryz.ntmps15
  go_wp2_with fail
  go_ret
  exact ⟨rfl, rfl⟩
theorem code_of2 (w : World) : Calls Tryz.prog 15 #[.int .i64 2] w fun e w' => e = .returned (suV 2) ∧ w = w' := by
  go_enter Tryz.func15, Tryz.ntmps15
  go_wp2_with fail
  go_ret
  exact ⟨rfl, rfl⟩

theorem brow_zero4 (w : World) : brow (w.alloc (.cells #[.int .u8 0, .int .u8 0, .int .u8 0, .int .u8 0] 5)) w.heap.size (.slice (some ⟨w.heap.size, 0, none⟩) 4 4) [0, 0, 0, 0] :=
  ⟨rfl, Or.inr ⟨w.heap.size, 4, _, rfl, Nat.le_refl _, obj_new w _, Nat.le_refl _, by unfold maxLen; omega, rfl, rfl⟩⟩

theorem grow_below_trans {a b c : World} {B : Nat} (h : a.grownBy b none) (k : Below B b c) (hB : a.heap.size ≤ B) : a.grownBy c none :=
  ⟨k.os.trans h.os, k.tape.trans h.tape, k.output.trans h.output, Nat.le_trans h.size k.size, fun i hi hr => (k.block i (Nat.lt_of_lt_of_le hi hB)).trans (h.block i hi hr)⟩

theorem mk4 (W : World) : (Instr.makeSlice 46 (.int .i64 4) (.int .i64 4)).run Tryz.prog W = .ok (.slice (some ⟨W.heap.size, 0, none⟩) 4 4) (W.alloc (.cells #[.int .u8 0, .int .u8 0, .int .u8 0, .int .u8 0] 5)) := by
  obtain ⟨i0, hi, hz0, hz1, hz2⟩ := info_parts info_u8
  have h := run_makeSlice (P := Tryz.prog) W 46 5 i0 (.int .u8 0) Tryz.underlying46 hi hz0 .i64 .i64 4 4 (by omega) (by omega) (by rw [hz1]; decide) (by rw [hz2]; decide) (by omega)
  rw [h, hz1]
  have er : Array.range 4 = #[0, 1, 2, 3] := by decide
  simp [madeCells, Value.cells, er]

set_option maxRecDepth 100000 in
theorem code_bnonce (w : World) (n : Nat) (hn : n < 18446744073709551616) : Calls Tryz.prog 71 #[.agg #[], .int .u64 (n : Int)] w (Grown (S (nonL 1 n)) w) := by
  have A1 : ∀ (W : World) (b : Nat) (v : Value), brow W b v [0, 0, 0, 0] → b ≤ W.heap.size → Calls Tryz.prog 28 #[v, .int .u64 (n : Int), .int .i64 8] W (OwnBytes W b (nonL 1 n)) := fun W b v h1 h2 => wire_appendLittle W b v [0, 0, 0, 0] n 8 h1 hn (by omega) (by simp) h2
  have M := mk4 (w.alloc (.cells #[] 57))
  have B4 := brow_zero4 (w.alloc (.cells #[] 57))
  have A2 := A1 _ _ _ B4 (by simp)
  have HG : Hid (w.grownBy ((w.alloc (.cells #[] 57)).alloc (.cells #[.int .u8 0, .int .u8 0, .int .u8 0, .int .u8 0] 5)) none) := Lib.hid (grow_alloc (World.grownBy_alloc _ _ _) _)
  have e1 : (w.alloc (.cells #[] 57)).heap.size = w.heap.size + 1 := by simp
  rw [e1] at A2
  generalize nonL 1 n = V at *
  clear A1 B4 e1
  unfold S
  go_enter Tryz.func71, Tryz.ntmps71
  go_wp2_with fail
  (with_reducible refine A2.mono ?_)
  rintro e x ⟨v, rfl, hb, hbl⟩
  have hcv := conv_brow hb
  unfold S at hcv
  have HG2 := Lib.hid (grow_below_trans HG.out hbl (by omega))
  clear hb hbl A2 HG M
  go_wp2_with fail
  go_ret
  exact ⟨rfl, HG2.out⟩

set_option maxRecDepth 100000 in
theorem code_snonce (w : World) (n : Nat) (hn : n < 18446744073709551616) : Calls Tryz.prog 95 #[.agg #[], .int .u64 (n : Int)] w (Grown (S (nonL 2 n)) w) := by
  have A1 : ∀ (W : World) (b : Nat) (v : Value), brow W b v [0, 0, 0, 0] → b ≤ W.heap.size → Calls Tryz.prog 43 #[v, .int .u64 (n : Int), .int .i64 8] W (OwnBytes W b (nonL 2 n)) := fun W b v h1 h2 => wire_appendBig W b v [0, 0, 0, 0] n 8 h1 hn (by omega) (by omega) (by simp) h2
  have M := mk4 (w.alloc (.cells #[] 58))
  have B4 := brow_zero4 (w.alloc (.cells #[] 58))
  have A2 := A1 _ _ _ B4 (by simp)
  have HG : Hid (w.grownBy ((w.alloc (.cells #[] 58)).alloc (.cells #[.int .u8 0, .int .u8 0, .int .u8 0, .int .u8 0] 5)) none) := Lib.hid (grow_alloc (World.grownBy_alloc _ _ _) _)
  have e1 : (w.alloc (.cells #[] 58)).heap.size = w.heap.size + 1 := by simp
  rw [e1] at A2
  generalize nonL 2 n = V at *
  clear A1 B4 e1
  unfold S
  go_enter Tryz.func95, Tryz.ntmps95
  go_wp2_with fail
  (with_reducible refine A2.mono ?_)
  rintro e x ⟨v, rfl, hb, hbl⟩
  have hcv := conv_brow hb
  unfold S at hcv
  have HG2 := Lib.hid (grow_below_trans HG.out hbl (by omega))
  clear hb hbl A2 HG M
  go_wp2_with fail
  go_ret
  exact ⟨rfl, HG2.out⟩

end Go.Proofs.YtffeekfofbcobaaGreat
