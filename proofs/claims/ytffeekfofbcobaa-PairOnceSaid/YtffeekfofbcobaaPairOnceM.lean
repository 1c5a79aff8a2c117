/-
  Several texts of this claim in one: SubKey, SealPlain, Seal, NoiseOf, NoiseSuite, NoiseSeal, Pair, SealOpen, GcmOpen, NoisePlain, NoiseOps, PairSeal, ZerosK, Sized, Rest, RestNat, Paired, SRow, Seen, Ints, Strs, StrsOpen, PairOnceLaw.
-/
import Derived.Test.YtffeekfofbcobaaBlock
import Derived.Test.YtffeekfofbcobaaTagPlain
import Derived.Test.YtffeekfofbcobaaStreamPlain
import Derived.Test.YtffeekfofbcobaaTagW
import Derived.Test.YtffeekfofbcobaaLittle
import Derived.Test.YtffeekfofbcobaaWire
import Derived.Test.YtffeekfofbcobaaZeros
import Derived.Laws.MakeOwn
import Derived.Test.YtffeekfofbcobaaWindow
import Derived.Test.YtffeekfofbcobaaRow
import Derived.Test.YtffeekfofbcobaaGcmSeal
import Derived.Test.YtffeekfofbcobaaWxor
import Derived.Test.YtffeekfofbcobaaBase
import Derived.Test.YtffeekfofbcobaaBytes
import Derived.Test.YtffeekfofbcobaaGrow
import Derived.Maps.OwnOps
import Derived.Maps.OwnSet
import Derived.Test.YtffeekfofbcobaaOpen
namespace Go.Proofs.Ytffeekfofbcobaa
open Go.RowKit
set_option linter.unusedVariables false

def subL (key nonce : List UInt8) : List UInt8 := textW ((stirred (stateL key nonce)).take 4) ++ textW ((stirred (stateL key nonce)).drop 12)

theorem stirred_length (key nonce : List UInt8) : (stirred (stateL key nonce)).length = 16 := (roundsK_ok (begK_ok _ 12).1 (begK_ok _ 12).2 10).2

theorem subL_length (key nonce : List UInt8) : (subL key nonce).length = 32 := by
  unfold subL
  rw [List.length_append, textW_length, textW_length, List.length_take, List.length_drop, stirred_length]
  rfl

theorem small_mem {l : List Nat} (h : Small l) (n : Nat) (hn : n ∈ l) : n < 4294967296 := by
  obtain ⟨i, hi, rfl⟩ := List.getElem_of_mem hn
  have := h i
  rwa [List.getD_eq_getElem?_getD, List.getElem?_eq_getElem hi] at this

end Go.Proofs.Ytffeekfofbcobaa

namespace Go.Proofs.Ytffeekfofbcobaa
set_option linter.unusedVariables false

def filledL (s : List UInt8) : List UInt8 := s ++ zerosL ((16 - s.length % 16) % 16)
def sealTagL (key nonce more s : List UInt8) : List UInt8 := tagL ((blockL key nonce 0).take 32) (filledL more ++ filledL s ++ (leB more.length 8 ++ leB s.length 8))
def sealL (key nonce more text : List UInt8) : List UInt8 := chxL key nonce 1 text ++ sealTagL key nonce more (chxL key nonce 1 text)

theorem filledL_length (s : List UInt8) : (filledL s).length ≤ s.length + 15 := by
  unfold filledL
  rw [List.length_append, zerosL_length]
  omega

theorem tagL_length (k t : List UInt8) : (tagL k t).length = 16 := by unfold tagL; rw [List.length_append, leB_length, leB_length]

theorem sealTagL_length (key nonce more s : List UInt8) : (sealTagL key nonce more s).length = 16 := tagL_length _ _

theorem sealL_length (key nonce more text : List UInt8) : (sealL key nonce more text).length = text.length + 16 := by
  unfold sealL
  rw [List.length_append, sealTagL_length, chxL_length]

theorem sealL_take (key nonce more text : List UInt8) : (sealL key nonce more text).take text.length = chxL key nonce 1 text := by
  unfold sealL
  rw [List.take_append_of_le_length (by rw [chxL_length]; omega), List.take_of_length_le (by rw [chxL_length]; omega)]

end Go.Proofs.Ytffeekfofbcobaa

namespace Go.Proofs.Ytffeekfofbcobaa
open Go.RowKit
set_option linter.unusedVariables false

set_option maxHeartbeats 1000000 in
theorem code_filled (w : World) (s : List UInt8) (hs : s.length ≤ 1000000) : Calls Try.prog 68 #[S s] w (Grown (S (filledL s)) w) := by
  have hV : filledL s = s ++ zerosL ((16 - s.length % 16) % 16) := rfl
  generalize filledL s = V at *
  have HV := Lib.hid hV
  clear hV
  obtain ⟨m, hm⟩ : ∃ m, m = (16 - s.length % 16) % 16 := ⟨_, rfl⟩
  rw [← hm] at HV
  have m16 : m < 16 := by omega
  have h1 : -((s.length : Int) % 16) % 16 = (m : Int) := by rw [hm]; omega
  have HM := Lib.hid hm
  clear hm
  have A := fun W : World => repeat_zero W m (by omega)
  have r1 := rule_app
  have r3 := zerosL_length
  have hcat : s.length + m ≤ 9223372036854775807 := by omega
  unfold S at *
  go_enter Try.func68, Try.ntmps68
  go_wp2_with fail
  refine (A _).mono ?_
  rintro e x1 ⟨rfl, hg⟩
  go_wp2_with fail
  rw [HV.out]
  go_ret
  exact ⟨rfl, hg⟩

set_option maxRecDepth 20000 in
set_option maxHeartbeats 2000000 in
theorem code_etag (w : World) (key nonce more s : List UInt8) (hk : key.length = 32) (hn : nonce.length = 12) (hm : more.length ≤ 100000) (hs : s.length ≤ 100000) :
    Calls Try.prog 55 #[S key, S nonce, S more, S s] w (Grown (S (sealTagL key nonce more s)) w) := by
  have hV : sealTagL key nonce more s = tagL ((blockL key nonce 0).take 32) (filledL more ++ filledL s ++ (leB more.length 8 ++ leB s.length 8)) := rfl
  generalize sealTagL key nonce more s = V at *
  have A1 : ∀ W : World, Calls Try.prog 65 #[S key, S nonce, .int .u32 0] W (Blocked (blockL key nonce 0) W) := fun W => code_cblock W key nonce 0 hk hn (by omega)
  have lb := blockL_length key nonce 0
  generalize blockL key nonce 0 = bl at *
  have AL1 : ∀ W : World, Calls Try.prog 51 #[.slice none 0 0, .int .u64 (more.length : Int), .int .i64 8] W (OwnBytesN W W.heap.size (leB more.length 8)) := fun W => wire_appendLittle W W.heap.size (.slice none 0 0) [] more.length 8 (brow_nil _ _) (by omega) (by omega) (by simp) (Nat.le_refl _)
  have AL2 : ∀ (W : World) (b : Nat) (v : Value), brow W b v (leB more.length 8) → b ≤ W.heap.size → Calls Try.prog 51 #[v, .int .u64 (s.length : Int), .int .i64 8] W (OwnBytesN W b (leB more.length 8 ++ leB s.length 8)) := fun W b v h1 h2 => wire_appendLittle W b v (leB more.length 8) s.length 8 h1 (by omega) (by omega) (by rw [leB_length]; omega) h2
  have lz : (leB more.length 8 ++ leB s.length 8).length = 16 := by rw [List.length_append, leB_length, leB_length]
  have A2 := fun W : World => code_filled W more (by omega)
  have A3 := fun W : World => code_filled W s (by omega)
  have lf1 := filledL_length more
  have lf2 := filledL_length s
  have A4 : ∀ W : World, Calls Try.prog 67 #[S (bl.take 32), S (filledL more ++ filledL s ++ (leB more.length 8 ++ leB s.length 8))] W (Grown (.tuple #[S V, .int .i64 0]) W) := fun W => by
    rw [hV]
    exact code_ptag W _ _ (by rw [List.length_take]; omega) (by rw [List.length_append, List.length_append]; omega)
  generalize filledL more = fm at *
  generalize filledL s = fs at *
  generalize leB more.length 8 ++ leB s.length 8 = sz at *
  rw [List.append_assoc] at A4
  have w1 : IntKind.u64.wrap (more.length : Int) = (more.length : Int) := IntWalk.u64_in _ (by omega)
  have w2 : IntKind.u64.wrap (s.length : Int) = (s.length : Int) := IntWalk.u64_in _ (by omega)
  have k1 : fm.length + fs.length ≤ 9223372036854775807 := by omega
  have k2 : (fm ++ fs).length + sz.length ≤ 9223372036854775807 := by rw [List.length_append]; omega
  have k4 : fm.length + fs.length + sz.length ≤ 9223372036854775807 := by omega
  have k3 : 32 ≤ bl.length := by omega
  have r1 := rule_app
  have r2 := rule_ext
  unfold S Blocked at *
  clear hV hk hn hm hs lf1 lf2
  go_enter Try.func55, Try.ntmps55
  go_wp2_with fail
  refine (A1 _).mono ?_
  rintro e x1 ⟨rfl, hg1⟩
  go_wp2_with fail
  refine (AL1 _).mono ?_
  rintro e x2 ⟨t1, rfl, hb1, hB1⟩
  go_wp2_with fail
  refine (AL2 _ _ _ hb1 hB1.size).mono ?_
  rintro e x3 ⟨t2, rfl, hb2, hB2⟩
  have hg3 := grow_trans hg1 (grow_of_below (hB1.trans hB2))
  clear hg1 hB1 hB2 hb1 AL1 AL2 A1
  unfold S
  go_wp2_with fail
  have b0 := hb2.drew
  have c0 := conv_brow b0
  unfold S at c0
  go_region_with (first
    | (go_at_call 68; (with_reducible refine (A2 _).mono ?_); rintro e y1 ⟨rfl, g1⟩; have b1 := b0.keptb g1; have c1 := conv_brow b1; unfold S at c1)
    | (go_at_call 68; (with_reducible refine (A3 _).mono ?_); rintro e y2 ⟨rfl, g2⟩; have b2 := b1.keptb g2; have c2 := conv_brow b2; unfold S at c2)
    | (go_at_call 67; (with_reducible refine (A4 _).mono ?_); rintro e y3 ⟨rfl, g3⟩))
  all_goals
    go_wp2_with fail
    go_ret
    exact ⟨rfl, grow_trans (grow_trans (grow_trans (grow_drew hg3) g1) g2) g3⟩

end Go.Proofs.Ytffeekfofbcobaa

namespace Go.Proofs.Ytffeekfofbcobaa
open Go.RowKit
set_option linter.unusedVariables false

/-- A suite's value; its nonce. -/
def suV (suite : Nat) : Value := if suite = 1 then .iface 82 (.agg #[]) else .iface 83 (.agg #[])
def nonL (suite n : Nat) : List UInt8 := [0, 0, 0, 0] ++ (if suite = 1 then leB n 8 else bigB n 8)
theorem nonL_length (suite n : Nat) : (nonL suite n).length = 12 := by
  unfold nonL
  split <;> simp [leB_length, bigB_length]

theorem code_of1 (w : World) : Calls Try.prog 33 #[.int .i64 1] w fun e w' => e = .returned (suV 1) ∧ w = w' := by
  go_enter Try.func33, Try.ntmps33
  go_wp2_with fail
  go_ret
  exact ⟨rfl, rfl⟩
theorem code_of2 (w : World) : Calls Try.prog 33 #[.int .i64 2] w fun e w' => e = .returned (suV 2) ∧ w = w' := by
  go_enter Try.func33, Try.ntmps33
  go_wp2_with fail
  go_ret
  exact ⟨rfl, rfl⟩

theorem brow_zero4 (w : World) : brow (w.alloc (.cells #[.int .u8 0, .int .u8 0, .int .u8 0, .int .u8 0] 5)) w.heap.size (.slice (some ⟨w.heap.size, 0, none⟩) 4 4) [0, 0, 0, 0] :=
  ⟨rfl, Or.inr ⟨w.heap.size, 4, _, rfl, Nat.le_refl _, obj_new w _, Nat.le_refl _, by unfold maxLen; omega, rfl, rfl⟩⟩

theorem grow_below_trans {a b c : World} {B : Nat} (h : a.grownBy b none) (k : Below B b c) (hB : a.heap.size ≤ B) : a.grownBy c none :=
  ⟨k.os.trans h.os, k.tape.trans h.tape, k.output.trans h.output, Nat.le_trans h.size k.size, fun i hi hr => (k.block i (Nat.lt_of_lt_of_le hi hB)).trans (h.block i hi hr)⟩

theorem mk4 (W : World) : (Instr.makeSlice 69 (.int .i64 4) (.int .i64 4)).run Try.prog W = .ok (.slice (some ⟨W.heap.size, 0, none⟩) 4 4) (W.alloc (.cells #[.int .u8 0, .int .u8 0, .int .u8 0, .int .u8 0] 5)) := by
  obtain ⟨i0, hi, hz0, hz1, hz2⟩ := info_parts info_u8
  have h := run_makeSlice (P := Try.prog) W 69 5 i0 (.int .u8 0) Try.underlying69 hi hz0 .i64 .i64 4 4 (by omega) (by omega) (by rw [hz1]; decide) (by rw [hz2]; decide) (by omega)
  rw [h, hz1]
  have er : Array.range 4 = #[0, 1, 2, 3] := by decide
  simp [madeCells, Value.cells, er]

set_option maxRecDepth 100000 in
theorem code_bnonce (w : World) (n : Nat) (hn : n < 18446744073709551616) : Calls Try.prog 95 #[.agg #[], .int .u64 (n : Int)] w (Grown (S (nonL 1 n)) w) := by
  have A1 : ∀ (W : World) (b : Nat) (v : Value), brow W b v [0, 0, 0, 0] → b ≤ W.heap.size → Calls Try.prog 51 #[v, .int .u64 (n : Int), .int .i64 8] W (OwnBytes W b (nonL 1 n)) := fun W b v h1 h2 => wire_appendLittle W b v [0, 0, 0, 0] n 8 h1 hn (by omega) (by simp) h2
  have M := mk4 (w.alloc (.cells #[] 82))
  have B4 := brow_zero4 (w.alloc (.cells #[] 82))
  have A2 := A1 _ _ _ B4 (by simp)
  have HG : Hid (w.grownBy ((w.alloc (.cells #[] 82)).alloc (.cells #[.int .u8 0, .int .u8 0, .int .u8 0, .int .u8 0] 5)) none) := Lib.hid (grow_alloc (World.grownBy_alloc _ _ _) _)
  have e1 : (w.alloc (.cells #[] 82)).heap.size = w.heap.size + 1 := by simp
  rw [e1] at A2
  generalize nonL 1 n = V at *
  clear A1 B4 e1
  unfold S
  go_enter Try.func95, Try.ntmps95
  go_wp2_with fail
  (with_reducible refine A2.mono ?_)
  rintro e x ⟨v, rfl, hb, hbl⟩
  have hcv := conv_brow hb
  unfold S at hcv
  have HG2 := Lib.hid (grow_below_trans HG.out hbl (by omega))
  clear hb hbl A2 HG M
  go_wp2_with fail
  go_ret
  exact ⟨rfl, HG2.out⟩

set_option maxRecDepth 100000 in
theorem code_snonce (w : World) (n : Nat) (hn : n < 18446744073709551616) : Calls Try.prog 99 #[.agg #[], .int .u64 (n : Int)] w (Grown (S (nonL 2 n)) w) := by
  have A1 : ∀ (W : World) (b : Nat) (v : Value), brow W b v [0, 0, 0, 0] → b ≤ W.heap.size → Calls Try.prog 102 #[v, .int .u64 (n : Int), .int .i64 8] W (OwnBytes W b (nonL 2 n)) := fun W b v h1 h2 => wire_appendBig W b v [0, 0, 0, 0] n 8 h1 hn (by omega) (by omega) (by simp) h2
  have M := mk4 (w.alloc (.cells #[] 83))
  have B4 := brow_zero4 (w.alloc (.cells #[] 83))
  have A2 := A1 _ _ _ B4 (by simp)
  have HG : Hid (w.grownBy ((w.alloc (.cells #[] 83)).alloc (.cells #[.int .u8 0, .int .u8 0, .int .u8 0, .int .u8 0] 5)) none) := Lib.hid (grow_alloc (World.grownBy_alloc _ _ _) _)
  have e1 : (w.alloc (.cells #[] 83)).heap.size = w.heap.size + 1 := by simp
  rw [e1] at A2
  generalize nonL 2 n = V at *
  clear A1 B4 e1
  unfold S
  go_enter Try.func99, Try.ntmps99
  go_wp2_with fail
  (with_reducible refine A2.mono ?_)
  rintro e x ⟨v, rfl, hb, hbl⟩
  have hcv := conv_brow hb
  unfold S at hcv
  have HG2 := Lib.hid (grow_below_trans HG.out hbl (by omega))
  clear hb hbl A2 HG M
  go_wp2_with fail
  go_ret
  exact ⟨rfl, HG2.out⟩

end Go.Proofs.Ytffeekfofbcobaa

namespace Go.Proofs.Ytffeekfofbcobaa
open Go.RowKit
set_option linter.unusedVariables false

set_option maxRecDepth 100000 in
theorem code_nBSeal (w : World) (key nonce more text a : List UInt8) (n : Int) (C : ∀ W : World, Calls Try.prog 42 #[S key, S nonce, S more, S text] W (Grown (.tuple #[S a, .int .i64 n]) W)) :
    Calls Try.prog 97 #[.agg #[], S key, S nonce, S more, S text] w (Grown (.tuple #[S a, .int .i64 n]) w) := by
  have C1 := C (w.alloc (.cells #[] 82))
  clear C
  unfold S at *
  go_enter Try.func97, Try.ntmps97
  go_wp2_with fail
  (with_reducible refine C1.mono ?_)
  rintro e x ⟨rfl, hg⟩
  go_wp2_with fail
  go_ret2
  exact ⟨rfl, grow_trans (World.grownBy_alloc _ _ _) hg⟩

set_option maxRecDepth 100000 in
theorem code_nBOpen (w : World) (key nonce more text a : List UInt8) (n : Int) (C : ∀ W : World, Calls Try.prog 43 #[S key, S nonce, S more, S text] W (Grown (.tuple #[S a, .int .i64 n]) W)) :
    Calls Try.prog 96 #[.agg #[], S key, S nonce, S more, S text] w (Grown (.tuple #[S a, .int .i64 n]) w) := by
  have C1 := C (w.alloc (.cells #[] 82))
  clear C
  unfold S at *
  go_enter Try.func96, Try.ntmps96
  go_wp2_with fail
  (with_reducible refine C1.mono ?_)
  rintro e x ⟨rfl, hg⟩
  go_wp2_with fail
  go_ret2
  exact ⟨rfl, grow_trans (World.grownBy_alloc _ _ _) hg⟩

set_option maxRecDepth 100000 in
theorem code_nSSeal (w : World) (key nonce more text a : List UInt8) (n : Int) (C : ∀ W : World, Calls Try.prog 104 #[S key, S nonce, S more, S text] W (Grown (.tuple #[S a, .int .i64 n]) W)) :
    Calls Try.prog 101 #[.agg #[], S key, S nonce, S more, S text] w (Grown (.tuple #[S a, .int .i64 n]) w) := by
  have C1 := C (w.alloc (.cells #[] 83))
  clear C
  unfold S at *
  go_enter Try.func101, Try.ntmps101
  go_wp2_with fail
  (with_reducible refine C1.mono ?_)
  rintro e x ⟨rfl, hg⟩
  go_wp2_with fail
  go_ret2
  exact ⟨rfl, grow_trans (World.grownBy_alloc _ _ _) hg⟩

set_option maxRecDepth 100000 in
theorem code_nSOpen (w : World) (key nonce more text a : List UInt8) (n : Int) (C : ∀ W : World, Calls Try.prog 103 #[S key, S nonce, S more, S text] W (Grown (.tuple #[S a, .int .i64 n]) W)) :
    Calls Try.prog 100 #[.agg #[], S key, S nonce, S more, S text] w (Grown (.tuple #[S a, .int .i64 n]) w) := by
  have C1 := C (w.alloc (.cells #[] 83))
  clear C
  unfold S at *
  go_enter Try.func100, Try.ntmps100
  go_wp2_with fail
  (with_reducible refine C1.mono ?_)
  rintro e x ⟨rfl, hg⟩
  go_wp2_with fail
  go_ret2
  exact ⟨rfl, grow_trans (World.grownBy_alloc _ _ _) hg⟩

end Go.Proofs.Ytffeekfofbcobaa

namespace Go.Proofs.Ytffeekfofbcobaa
open Go.RowKit
set_option linter.unusedVariables false

theorem nil_BSeal (k : Nat) (W : World) : (nilAhead (k + 1) 82 (.agg #[]) "souterrain/noise.seal").run Try.prog W = .ok (some false) W := by kernel_rfl
theorem nil_SSeal (k : Nat) (W : World) : (nilAhead (k + 1) 83 (.agg #[]) "souterrain/noise.seal").run Try.prog W = .ok (some false) W := by kernel_rfl
theorem nil_BOpen (k : Nat) (W : World) : (nilAhead (k + 1) 82 (.agg #[]) "souterrain/noise.open").run Try.prog W = .ok (some false) W := by kernel_rfl
theorem nil_SOpen (k : Nat) (W : World) : (nilAhead (k + 1) 83 (.agg #[]) "souterrain/noise.open").run Try.prog W = .ok (some false) W := by kernel_rfl

set_option maxRecDepth 100000 in
set_option maxHeartbeats 1000000 in
theorem code_nzSeal1 (w : World) (key more text a : List UInt8) (m : Nat) (n : Int) (hm : m < 18446744073709551616) (C : ∀ W : World, Calls Try.prog 42 #[S key, S (nonL 1 m), S more, S text] W (Grown (.tuple #[S a, .int .i64 n]) W)) :
    Calls Try.prog 17 #[.int .i64 1, S key, .int .u64 (m : Int), S more, S text] w (Grown (.tuple #[S a, .int .i64 n]) w) := by
  have A0 := code_of1 w
  have A1 := fun W : World => code_bnonce W m hm
  have A2 := fun W : World => code_nBSeal W key (nonL 1 m) more text a n C
  have NA := nil_BSeal
  have hs : suV 1 = .iface 82 (.agg #[]) := rfl
  rw [hs] at A0
  generalize nonL 1 m = O at *
  clear C hs
  unfold S at *
  go_enter Try.func17, Try.ntmps17
  go_wp2_with fail
  (with_reducible refine A0.mono ?_)
  rintro e x ⟨rfl, rfl⟩
  go_wp2_with fail
  go_region_held3 (fun _ => True) (first | trivial) (first
    | (go_at_call 95; (with_reducible refine (A1 _).mono ?_); rintro e x1 ⟨rfl, hg1⟩)
    | (go_at_call 97; (with_reducible refine (A2 _).mono ?_); rintro e x2 ⟨rfl, hg2⟩))
  all_goals
    go_wp2_with fail
    go_ret2
    exact ⟨rfl, grow_trans (grow_trans (grow_drew (grow_refl _ _)) hg1) hg2⟩

set_option maxRecDepth 100000 in
set_option maxHeartbeats 1000000 in
theorem code_nzSeal2 (w : World) (key more text a : List UInt8) (m : Nat) (n : Int) (hm : m < 18446744073709551616) (C : ∀ W : World, Calls Try.prog 104 #[S key, S (nonL 2 m), S more, S text] W (Grown (.tuple #[S a, .int .i64 n]) W)) :
    Calls Try.prog 17 #[.int .i64 2, S key, .int .u64 (m : Int), S more, S text] w (Grown (.tuple #[S a, .int .i64 n]) w) := by
  have A0 := code_of2 w
  have A1 := fun W : World => code_snonce W m hm
  have A2 := fun W : World => code_nSSeal W key (nonL 2 m) more text a n C
  have NA := nil_SSeal
  have hs : suV 2 = .iface 83 (.agg #[]) := rfl
  rw [hs] at A0
  generalize nonL 2 m = O at *
  clear C hs
  unfold S at *
  go_enter Try.func17, Try.ntmps17
  go_wp2_with fail
  (with_reducible refine A0.mono ?_)
  rintro e x ⟨rfl, rfl⟩
  go_wp2_with fail
  go_region_held3 (fun _ => True) (first | trivial) (first
    | (go_at_call 99; (with_reducible refine (A1 _).mono ?_); rintro e x1 ⟨rfl, hg1⟩)
    | (go_at_call 101; (with_reducible refine (A2 _).mono ?_); rintro e x2 ⟨rfl, hg2⟩))
  all_goals
    go_wp2_with fail
    go_ret2
    exact ⟨rfl, grow_trans (grow_trans (grow_drew (grow_refl _ _)) hg1) hg2⟩

set_option maxRecDepth 100000 in
set_option maxHeartbeats 1000000 in
theorem code_nzOpen1 (w : World) (key more text a : List UInt8) (m : Nat) (n : Int) (hm : m < 18446744073709551616) (C : ∀ W : World, Calls Try.prog 43 #[S key, S (nonL 1 m), S more, S text] W (Grown (.tuple #[S a, .int .i64 n]) W)) :
    Calls Try.prog 20 #[.int .i64 1, S key, .int .u64 (m : Int), S more, S text] w (Grown (.tuple #[S a, .int .i64 n]) w) := by
  have A0 := code_of1 w
  have A1 := fun W : World => code_bnonce W m hm
  have A2 := fun W : World => code_nBOpen W key (nonL 1 m) more text a n C
  have NA := nil_BOpen
  have hs : suV 1 = .iface 82 (.agg #[]) := rfl
  rw [hs] at A0
  generalize nonL 1 m = O at *
  clear C hs
  unfold S at *
  go_enter Try.func20, Try.ntmps20
  go_wp2_with fail
  (with_reducible refine A0.mono ?_)
  rintro e x ⟨rfl, rfl⟩
  go_wp2_with fail
  go_region_held3 (fun _ => True) (first | trivial) (first
    | (go_at_call 95; (with_reducible refine (A1 _).mono ?_); rintro e x1 ⟨rfl, hg1⟩)
    | (go_at_call 96; (with_reducible refine (A2 _).mono ?_); rintro e x2 ⟨rfl, hg2⟩))
  all_goals
    go_wp2_with fail
    go_ret2
    exact ⟨rfl, grow_trans (grow_trans (grow_drew (grow_refl _ _)) hg1) hg2⟩

set_option maxRecDepth 100000 in
set_option maxHeartbeats 1000000 in
theorem code_nzOpen2 (w : World) (key more text a : List UInt8) (m : Nat) (n : Int) (hm : m < 18446744073709551616) (C : ∀ W : World, Calls Try.prog 103 #[S key, S (nonL 2 m), S more, S text] W (Grown (.tuple #[S a, .int .i64 n]) W)) :
    Calls Try.prog 20 #[.int .i64 2, S key, .int .u64 (m : Int), S more, S text] w (Grown (.tuple #[S a, .int .i64 n]) w) := by
  have A0 := code_of2 w
  have A1 := fun W : World => code_snonce W m hm
  have A2 := fun W : World => code_nSOpen W key (nonL 2 m) more text a n C
  have NA := nil_SOpen
  have hs : suV 2 = .iface 83 (.agg #[]) := rfl
  rw [hs] at A0
  generalize nonL 2 m = O at *
  clear C hs
  unfold S at *
  go_enter Try.func20, Try.ntmps20
  go_wp2_with fail
  (with_reducible refine A0.mono ?_)
  rintro e x ⟨rfl, rfl⟩
  go_wp2_with fail
  go_region_held3 (fun _ => True) (first | trivial) (first
    | (go_at_call 99; (with_reducible refine (A1 _).mono ?_); rintro e x1 ⟨rfl, hg1⟩)
    | (go_at_call 100; (with_reducible refine (A2 _).mono ?_); rintro e x2 ⟨rfl, hg2⟩))
  all_goals
    go_wp2_with fail
    go_ret2
    exact ⟨rfl, grow_trans (grow_trans (grow_drew (grow_refl _ _)) hg1) hg2⟩

end Go.Proofs.Ytffeekfofbcobaa

namespace Go.Proofs.Ytffeekfofbcobaa
open Go.RowKit
set_option linter.unusedVariables false

/-- A session's cells. -/
def pairC (B : Nat) (send recv : List UInt8) (suite sealed : Nat) (first : Bool) : List Value := [.pointer (some ⟨B, 0, none⟩), S send, S recv, .int .i64 (suite : Int), .int .i64 0, .int .i64 (sealed : Int), .bool first]
def PairAt (w : World) (b B : Nat) (send recv : List UInt8) (suite sealed : Nat) (first : Bool) : Prop := Blk w b 48 (pairC B send recv suite sealed first)

def NewPair (w : World) (send recv : List UInt8) (suite : Nat) (first : Bool) (e : Ending) (w' : World) : Prop :=
  ∃ b B, e = .returned (.tuple #[.pointer (some ⟨b, 0, none⟩), .int .i64 0]) ∧ PairAt w' b B send recv suite 0 first ∧ WnAt w' B 0 0 ∧ w.grownBy w' none ∧ w.heap.size ≤ b ∧ w.heap.size ≤ B ∧ b ≠ B

set_option maxRecDepth 100000 in
set_option maxHeartbeats 2000000 in
theorem code_prnew (w : World) (suite : Nat) (h12 : suite = 1 ∨ suite = 2) (send recv : List UInt8) (hs : send.length = 32) (hr : recv.length = 32) (first : Bool) :
    Calls Try.prog 16 #[.int .i64 (suite : Int), .agg #[S send, S recv], .int .i64 0, .bool first] w (NewPair w send recv suite first) := by
  have q1 : ((send.length : Int) != 32) = false := by rw [hs]; rfl
  have q2 : ((recv.length : Int) != 32) = false := by rw [hr]; rfl
  have q3 : (((suite : Int) == 1) || ((suite : Int) == 2)) = true := by rcases h12 with rfl | rfl <;> rfl
  have q4 : ((suite : Int) == 1) = false → ((suite : Int) == 2) = true := by rcases h12 with rfl | rfl <;> simp
  have A1 := fun W : World => window_new W
  rcases h12 with rfl | rfl
  all_goals
    unfold S
    go_enter Try.func16, Try.ntmps16
    go_wp2_with fail
    go_region_held3 (fun W => W.cell? ⟨w.heap.size, 0, none⟩ = some (.string ⟨send.toArray⟩) ∧ W.cell? ⟨w.heap.size, 1, none⟩ = some (.string ⟨recv.toArray⟩)) (first | exact ⟨by rw [obj_cell (obj_new_drew w _)]; rfl, by rw [obj_cell (obj_new_drew w _)]; rfl⟩ | exact ⟨c0, c1⟩ | exact ⟨obj_cell (obj_alloc hb0) 0, obj_cell (obj_alloc hb0) 1⟩) (first
      | (go_at_call 32; (with_reducible refine (A1 _).mono ?_); rintro e x1 ⟨rfl, hw1, hg1⟩; have hb0 := grow_obj hg1 (obj_new_drew w (.cells #[.string ⟨send.toArray⟩, .string ⟨recv.toArray⟩] 44)) nofun; have c0 := obj_cell hb0 0; have c1 := obj_cell hb0 1))
    all_goals
      have hw2 : WnAt x1 (w.heap.size + 1) 0 0 := by simpa using hw1
      have hg2 := grow_trans (grow_drew (World.grownBy_alloc w (.cells #[.string ⟨send.toArray⟩, .string ⟨recv.toArray⟩] 44) none)) hg1
      have hl := lt_of_obj hw2
      have hz := hg2.size
      clear hw1 hg1 hb0 c0 c1
      go_wp2_with fail
      go_ret2
      exact ⟨x1.heap.size, w.heap.size + 1, rfl, obj_new _ _, obj_alloc hw2, grow_alloc hg2 _, hz, by omega, by omega⟩

theorem PairAt.cells {w : World} {b B : Nat} {send recv : List UInt8} {suite sealed : Nat} {first : Bool} (h : PairAt w b B send recv suite sealed first) :
    w.cell? ⟨b, 0, none⟩ = some (.pointer (some ⟨B, 0, none⟩)) ∧ w.cell? ⟨b, 1, none⟩ = some (S send) ∧ w.cell? ⟨b, 2, none⟩ = some (S recv) ∧ w.cell? ⟨b, 3, none⟩ = some (.int .i64 (suite : Int)) ∧ w.cell? ⟨b, 4, none⟩ = some (.int .i64 0) ∧ w.cell? ⟨b, 5, none⟩ = some (.int .i64 (sealed : Int)) ∧ w.cell? ⟨b, 6, none⟩ = some (.bool first) ∧ w.frozen? ⟨b, 5, none⟩ = false :=
  ⟨Blk.cell h 0, Blk.cell h 1, Blk.cell h 2, Blk.cell h 3, Blk.cell h 4, Blk.cell h 5, Blk.cell h 6, Blk.frozen h 5⟩
theorem PairAt.kept {w w' : World} {b B : Nat} {send recv : List UInt8} {suite sealed : Nat} {first : Bool} {r : Option Nat} (h : PairAt w b B send recv suite sealed first) (g : w.grownBy w' r) (hr : some b ≠ r) : PairAt w' b B send recv suite sealed first := Blk.kept h g hr

theorem code_prold (w : World) (b B : Nat) (send recv : List UInt8) (suite sealed : Nat) (first : Bool) (h : PairAt w b B send recv suite sealed first) (now most : Nat) (M : Int) (hM : M = (most : Int)) (hm : most ≤ 1000) :
    Calls Try.prog 18 #[.pointer (some ⟨b, 0, none⟩), .int .i64 (now : Int), .int .i64 M] w fun e w' => e = .returned (.bool (decide (most ≤ now))) ∧ w = w' := by
  obtain ⟨c0, c1, c2, c3, c4, c5, c6, f5⟩ := h.cells
  subst hM
  have hd : decide ((most : Int) ≤ (now : Int)) = decide (most ≤ now) := by simp
  clear c0 c1 c2 c3 c5 c6 f5
  go_enter Try.func18, Try.ntmps18
  go_wp2_with fail
  go_ret
  exact ⟨by simp, rfl⟩

theorem code_prover (w : World) (b B : Nat) (send recv : List UInt8) (suite sealed : Nat) (first : Bool) (h : PairAt w b B send recv suite sealed first) (now : Nat) (hs : sealed < 1000) :
    Calls Try.prog 11 #[.pointer (some ⟨b, 0, none⟩), .int .i64 (now : Int)] w fun e w' => e = .returned (.bool (decide (180 ≤ now))) ∧ w = w' := by
  have A := code_prold w b B send recv suite sealed first h now 180 180 rfl (by omega)
  obtain ⟨c0, c1, c2, c3, c4, c5, c6, f5⟩ := h.cells
  have hd : decide ((1000 : Int) ≤ (sealed : Int)) = false := by simp; omega
  have hd2 : ¬ ((1000 : Int) ≤ (sealed : Int)) := by omega
  clear c0 c1 c2 c3 c4 c6 f5
  by_cases hn : 180 ≤ now
  · have e1 : decide (180 ≤ now) = true := by simp [hn]
    rw [e1] at A ⊢
    go_enter Try.func11, Try.ntmps11
    go_wp2_with fail
    (with_reducible refine A.mono ?_)
    rintro e x ⟨rfl, rfl⟩
    go_wp2_with fail
    go_ret
    exact ⟨rfl, rfl⟩
  · have e1 : decide (180 ≤ now) = false := by simp [hn]
    rw [e1] at A ⊢
    go_enter Try.func11, Try.ntmps11
    go_wp2_with fail
    (with_reducible refine A.mono ?_)
    rintro e x ⟨rfl, rfl⟩
    go_wp2_with fail
    go_ret
    exact ⟨rfl, rfl⟩

theorem code_prstale (w : World) (b B : Nat) (send recv : List UInt8) (suite sealed : Nat) (first : Bool) (h : PairAt w b B send recv suite sealed first) (now : Nat) (hs : sealed < 1000) :
    Calls Try.prog 10 #[.pointer (some ⟨b, 0, none⟩), .int .i64 (now : Int)] w fun e w' => e = .returned (.bool (decide (180 ≤ now) || (first && decide (120 ≤ now)))) ∧ w = w' := by
  have A := code_prover w b B send recv suite sealed first h now hs
  have A2 := code_prold w b B send recv suite sealed first h now 120 120 rfl (by omega)
  obtain ⟨c0, c1, c2, c3, c4, c5, c6, f5⟩ := h.cells
  clear c0 c1 c2 c3 c4 c5 f5
  generalize decide (180 ≤ now) = x at *
  generalize decide (120 ≤ now) = y at *
  clear h
  cases x <;> cases first
  all_goals
    go_enter Try.func10, Try.ntmps10
    go_wp2_with fail
    (with_reducible refine A.mono ?_)
    rintro e x ⟨rfl, rfl⟩
    go_wp2_with (first | (go_at_call 18; (with_reducible refine A2.mono ?_); rintro e x ⟨rfl, rfl⟩) | fail)
    go_ret
    exact ⟨by simp, rfl⟩

end Go.Proofs.Ytffeekfofbcobaa

namespace Go.Proofs.Ytffeekfofbcobaa
open Go.RowKit
set_option linter.unusedVariables false

/-- What the check answers. -/
def checkE (key nonce more text : List UInt8) (most : Nat) : Int := if key.length = 32 ∧ nonce.length = 12 then (if more.length ≤ 2000 ∧ text.length ≤ most then 0 else 2) else 1

set_option maxHeartbeats 1000000 in
theorem code_echeck (w : World) (key nonce more text : List UInt8) (most : Nat) (hm : most ≤ 100000) :
    Calls Try.prog 53 #[S key, S nonce, S more, S text, .int .i64 most] w fun e w' => e = .returned (.int .i64 (checkE key nonce more text most)) ∧ w = w' := by
  obtain ⟨V, hV⟩ : ∃ V, V = checkE key nonce more text most := ⟨_, rfl⟩
  rw [← hV]
  have HV := Lib.hid hV
  clear hV
  unfold S
  by_cases h1 : key.length = 32
  · have q1 : ((key.length : Int) != 32) = false := by simp; omega
    by_cases h2 : nonce.length = 12
    · have q2 : ((nonce.length : Int) != 12) = false := by simp; omega
      by_cases h3 : more.length ≤ 2000
      · have q3 : decide ((2000 : Int) < (more.length : Int)) = false := by simp; omega
        by_cases h4 : text.length ≤ most
        · have q4 : ¬ most < text.length := by omega
          have HR := Lib.hid (show V = 0 from by rw [HV.out]; unfold checkE; rw [if_pos ⟨h1, h2⟩, if_pos ⟨h3, h4⟩])
          clear h1 h2 h3 h4 HV
          go_enter Try.func53, Try.ntmps53
          go_wp2_with fail
          go_ret
          exact ⟨by rw [HR.out]; rfl, rfl⟩
        · have q4 : most < text.length := by omega
          have HR := Lib.hid (show V = 2 from by rw [HV.out]; unfold checkE; rw [if_pos ⟨h1, h2⟩, if_neg (by omega)])
          clear h1 h2 h3 h4 HV
          go_enter Try.func53, Try.ntmps53
          go_wp2_with fail
          go_ret
          exact ⟨by rw [HR.out]; rfl, rfl⟩
      · have q3 : decide ((2000 : Int) < (more.length : Int)) = true := by simp; omega
        have HR := Lib.hid (show V = 2 from by rw [HV.out]; unfold checkE; rw [if_pos ⟨h1, h2⟩, if_neg (by omega)])
        clear h1 h2 h3 HV
        go_enter Try.func53, Try.ntmps53
        go_wp2_with fail
        go_ret
        exact ⟨by rw [HR.out]; rfl, rfl⟩
    · have q2 : ((nonce.length : Int) != 12) = true := by simp; omega
      have HR := Lib.hid (show V = 1 from by rw [HV.out]; unfold checkE; rw [if_neg (by omega)])
      clear h1 h2 HV
      go_enter Try.func53, Try.ntmps53
      go_wp2_with fail
      go_ret
      exact ⟨by rw [HR.out]; rfl, rfl⟩
  · have q1 : ((key.length : Int) != 32) = true := by simp; omega
    have HR := Lib.hid (show V = 1 from by rw [HV.out]; unfold checkE; rw [if_neg (by omega)])
    clear h1 HV
    go_enter Try.func53, Try.ntmps53
    go_wp2_with fail
    go_ret
    exact ⟨by rw [HR.out]; rfl, rfl⟩

def noTextE (n : Int) : Value := .tuple #[S [], .int .i64 n]

theorem code_seal_err (w : World) (key nonce more text : List UInt8) (n : Int) (h : checkE key nonce more text 2000 = n) (hn : (n == 0) = false) :
    Calls Try.prog 42 #[S key, S nonce, S more, S text] w fun e w' => e = .returned (noTextE n) ∧ w = w' := by
  have H := Lib.hid h
  have hn2 : (n != 0) = true := by simpa using hn
  clear h
  unfold S noTextE
  go_enter Try.func42, Try.ntmps42
  go_wp2_with fail
  refine (code_echeck w key nonce more text 2000 (by omega)).mono ?_
  rintro e w1 ⟨rfl, rfl⟩
  rw [H.out]
  go_wp2_with fail
  go_ret2
  exact ⟨rfl, rfl⟩

set_option maxHeartbeats 1000000 in
theorem code_seal (w : World) (key nonce more text : List UInt8) (hk : key.length = 32) (hn : nonce.length = 12) (hm : more.length ≤ 2000) (ht : text.length ≤ 2000) :
    Calls Try.prog 42 #[S key, S nonce, S more, S text] w (Blocked (sealL key nonce more text) w) := by
  have H := Lib.hid (show checkE key nonce more text 2000 = 0 from by unfold checkE; rw [if_pos ⟨hk, hn⟩, if_pos ⟨hm, ht⟩])
  have hV : sealL key nonce more text = chxL key nonce 1 text ++ sealTagL key nonce more (chxL key nonce 1 text) := rfl
  generalize sealL key nonce more text = V at *
  have A1 : ∀ W : World, Calls Try.prog 54 #[S key, S nonce, .int .u32 1, S text] W (Blocked (chxL key nonce 1 text) W) := fun W => code_cxor W key nonce text 1 hk hn (by omega) ht
  have lc := chxL_length key nonce 1 text
  have A2 : ∀ W : World, Calls Try.prog 55 #[S key, S nonce, S more, S (chxL key nonce 1 text)] W (Grown (S (sealTagL key nonce more (chxL key nonce 1 text))) W) := fun W => code_etag W key nonce more _ hk hn (by omega) (by omega)
  have lt := sealTagL_length key nonce more (chxL key nonce 1 text)
  generalize sealTagL key nonce more (chxL key nonce 1 text) = T at *
  generalize chxL key nonce 1 text = C at *
  have HV := Lib.hid hV
  have k1 : C.length + T.length ≤ 9223372036854775807 := by omega
  have r1 := rule_app
  clear hV hk hn hm lc lt
  unfold S Blocked at *
  go_enter Try.func42, Try.ntmps42
  go_wp2_with fail
  refine (code_echeck w key nonce more text 2000 (by omega)).mono ?_
  rintro e w1 ⟨rfl, rfl⟩
  rw [H.out]
  go_wp2_with fail
  refine (A1 _).mono ?_
  rintro e w2 ⟨rfl, hg2⟩
  unfold S
  go_wp2_with fail
  refine (A2 _).mono ?_
  rintro e w3 ⟨rfl, hg3⟩
  go_wp2_with fail
  rw [HV.out]
  go_ret2
  exact ⟨rfl, grow_trans hg2 hg3⟩

/-- Opened: what is no box. -/
theorem code_open_err (w : World) (key nonce more text : List UInt8) (n : Int) (h : checkE key nonce more text 2016 = n) (hn : (n == 0) = false) :
    Calls Try.prog 43 #[S key, S nonce, S more, S text] w fun e w' => e = .returned (noTextE n) ∧ w = w' := by
  have H := Lib.hid h
  have hn2 : (n != 0) = true := by simpa using hn
  clear h
  unfold S noTextE
  go_enter Try.func43, Try.ntmps43
  go_wp2_with fail
  refine (code_echeck w key nonce more text 2016 (by omega)).mono ?_
  rintro e w1 ⟨rfl, rfl⟩
  rw [H.out]
  go_wp2_with fail
  go_ret2
  exact ⟨rfl, rfl⟩

theorem code_open_short (w : World) (key nonce more text : List UInt8) (hk : key.length = 32) (hn : nonce.length = 12) (hm : more.length ≤ 2000) (ht : text.length < 16) :
    Calls Try.prog 43 #[S key, S nonce, S more, S text] w fun e w' => e = .returned (noTextE 4) ∧ w = w' := by
  have H := Lib.hid (show checkE key nonce more text 2016 = 0 from by unfold checkE; rw [if_pos ⟨hk, hn⟩, if_pos ⟨hm, by omega⟩])
  have q : (text.length : Int) < 16 := by omega
  clear hk hn hm ht
  unfold S noTextE
  go_enter Try.func43, Try.ntmps43
  go_wp2_with fail
  refine (code_echeck w key nonce more text 2016 (by omega)).mono ?_
  rintro e w1 ⟨rfl, rfl⟩
  rw [H.out]
  go_wp2_with fail
  go_ret2
  exact ⟨rfl, rfl⟩

/-- Opened: a box. -/
theorem code_open (w : World) (key nonce more c : List UInt8) (hk : key.length = 32) (hn : nonce.length = 12) (hm : more.length ≤ 2000) (hc : c.length ≤ 2000) :
    Calls Try.prog 43 #[S key, S nonce, S more, S (c ++ sealTagL key nonce more c)] w (Blocked (chxL key nonce 1 c) w) := by
  have lt := sealTagL_length key nonce more c
  have H := Lib.hid (show checkE key nonce more (c ++ sealTagL key nonce more c) 2016 = 0 from by unfold checkE; rw [if_pos ⟨hk, hn⟩, if_pos ⟨hm, by rw [List.length_append]; omega⟩])
  have A1 : ∀ W : World, Calls Try.prog 54 #[S key, S nonce, .int .u32 1, S c] W (Blocked (chxL key nonce 1 c) W) := fun W => code_cxor W key nonce c 1 hk hn (by omega) hc
  have A2 : ∀ W : World, Calls Try.prog 55 #[S key, S nonce, S more, S c] W (Grown (S (sealTagL key nonce more c)) W) := fun W => code_etag W key nonce more _ hk hn (by omega) (by omega)
  generalize sealTagL key nonce more c = T at *
  generalize chxL key nonce 1 c = C at *
  obtain ⟨U, hU⟩ : ∃ U, U = c ++ T := ⟨_, rfl⟩
  rw [← hU] at H ⊢
  have lU : U.length = c.length + 16 := by rw [hU, List.length_append, lt]
  have tU : U.take c.length = c := by rw [hU, List.take_left]
  have n1 : ¬ ((U.length : Int) < 16) := by omega
  have e1 : ((U.length : Int) - 16) = (c.length : Int) := by omega
  have e2 : (0 : Int) ≤ (c.length : Int) := by omega
  have e3 : (c.length : Int) ≤ (U.length : Int) := by omega
  have r1 := rule_app
  have r2 := rule_ext
  have k1 : c.length + T.length ≤ 9223372036854775807 := by omega
  have HU := Lib.hid hU
  have q : (c ++ T == U) = true := beq_iff_eq.mpr hU.symm
  clear hU hk hn hm lt lU hc
  unfold S Blocked at *
  go_enter Try.func43, Try.ntmps43
  go_wp2_with fail
  refine (code_echeck w key nonce more U 2016 (by omega)).mono ?_
  rintro e w1 ⟨rfl, rfl⟩
  rw [H.out]
  go_wp2_with fail
  refine (A2 _).mono ?_
  rintro e w2 ⟨rfl, hg2⟩
  go_wp2_with fail
  refine (A1 _).mono ?_
  rintro e w3 ⟨rfl, hg3⟩
  unfold S
  go_wp2_with fail
  go_ret2
  exact ⟨rfl, grow_trans hg2 hg3⟩

end Go.Proofs.Ytffeekfofbcobaa

namespace Go.Proofs.Ytffeekfofbcobaa
open Go.RowKit
set_option linter.unusedVariables false

theorem code_gopen_err (w : World) (key nonce more text : List UInt8) (n : Int) (h : gcheckE key nonce more text 2016 = n) (hn : (n == 0) = false) :
    Calls Try.prog 103 #[S key, S nonce, S more, S text] w fun e w' => e = .returned (gnoE n) ∧ w = w' := by
  have H := Lib.hid h
  have hn2 : (n != 0) = true := by simpa using hn
  clear h
  unfold S gnoE
  go_enter Try.func103, Try.ntmps103
  go_wp2_with fail
  refine (code_gcheck w key nonce more text 2016 (by omega)).mono ?_
  rintro e w1 ⟨rfl, rfl⟩
  rw [H.out]
  go_wp2_with fail
  go_ret2
  exact ⟨rfl, rfl⟩

theorem code_gopen_short (w : World) (key nonce more text : List UInt8) (hk : key.length = 32) (hn : nonce.length = 12) (hm : more.length ≤ 2000) (ht : text.length < 16) :
    Calls Try.prog 103 #[S key, S nonce, S more, S text] w fun e w' => e = .returned (gnoE 4) ∧ w = w' := by
  have H := Lib.hid (show gcheckE key nonce more text 2016 = 0 from by unfold gcheckE; rw [if_pos ⟨hk, hn⟩, if_pos ⟨hm, by omega⟩])
  have q : (text.length : Int) < 16 := by omega
  clear hk hn hm ht
  unfold S gnoE
  go_enter Try.func103, Try.ntmps103
  go_wp2_with fail
  refine (code_gcheck w key nonce more text 2016 (by omega)).mono ?_
  rintro e w1 ⟨rfl, rfl⟩
  rw [H.out]
  go_wp2_with fail
  go_ret2
  exact ⟨rfl, rfl⟩

set_option maxRecDepth 100000 in
set_option maxHeartbeats 1000000 in
theorem code_gopen (w : World) (key nonce more c : List UInt8) (hk : key.length = 32) (hn : nonce.length = 12) (hm : more.length ≤ 2000) (hc : c.length ≤ 2000) :
    Calls Try.prog 103 #[S key, S nonce, S more, S (c ++ gtagL key nonce more c)] w (GSaid (gcxL key nonce c) w) := by
  have lt := gtagL_length key nonce more c hk hn
  have H := Lib.hid (show gcheckE key nonce more (c ++ gtagL key nonce more c) 2016 = 0 from by unfold gcheckE; rw [if_pos ⟨hk, hn⟩, if_pos ⟨hm, by rw [List.length_append]; omega⟩])
  have A0 : ∀ W : World, Calls Try.prog 106 #[S key] W (NewC W key) := fun W => code_anew W key (Or.inr hk)
  have A1 : ∀ (W : World) (C T : Nat), GBox W C T key → Calls Try.prog 108 #[.agg #[.pointer (some ⟨C, 0, none⟩), S nonce], S c] W (Grown (S (gcxL key nonce c)) W) := fun W C T hW => code_gxored W C T key nonce c hW hk hn (by omega)
  have A2 : ∀ (W : World) (C T : Nat), GBox W C T key → Calls Try.prog 107 #[.agg #[.pointer (some ⟨C, 0, none⟩), S nonce], S more, S c] W (Grown (S (gtagL key nonce more c)) W) := fun W C T hW => code_gtag W C T key nonce more _ hW hk hn hm (by omega)
  generalize gtagL key nonce more c = TG at *
  generalize gcxL key nonce c = CT at *
  obtain ⟨U, hU⟩ : ∃ U, U = c ++ TG := ⟨_, rfl⟩
  rw [← hU] at H ⊢
  have lU : U.length = c.length + 16 := by rw [hU, List.length_append, lt]
  have tU : U.take c.length = c := by rw [hU, List.take_left]
  have dU : (U.drop c.length).take (U.length - c.length) = TG := by rw [hU, List.drop_left, List.take_of_length_le (by rw [List.length_append]; omega)]
  have n1 : ¬ ((U.length : Int) < 16) := by omega
  have e1 : ((U.length : Int) - 16) = (c.length : Int) := by omega
  have e2 : (0 : Int) ≤ (c.length : Int) := by omega
  have e3 : (c.length : Int) ≤ (U.length : Int) := by omega
  have e4 : IntKind.i64.wrap (c.length : Int) = (c.length : Int) := IntWalk.i64_in _ (by omega)
  have r2 := rule_ext
  have HC := Lib.hid (fun W : World => code_gcheck W key nonce more U 2016 (by omega))
  clear hU hk hn hm lt lU hc
  unfold S GSaid at *
  go_enter Try.func103, Try.ntmps103
  go_wp2_with fail
  refine (HC.out _).mono ?_
  rintro e w1 ⟨rfl, rfl⟩
  rw [H.out]
  go_wp2_with fail
  (with_reducible refine (A0 _).mono ?_)
  rintro e w2 ⟨C, T, rfl, hC, hT, hC1, hT1, hg2⟩
  have HGB := Lib.hid (show GBox w2 C T key from ⟨hC, hT⟩)
  clear hC hT A0
  go_wp2_with fail
  obtain ⟨x, hx⟩ : ∃ x, x = w2.alloc (.cells #[.pointer (some ⟨C, 0, none⟩), .string ⟨nonce.toArray⟩] 149) := ⟨_, rfl⟩
  obtain ⟨B, hB⟩ : ∃ B, B = w2.heap.size := ⟨_, rfl⟩
  have hgx : w2.grownBy x none := by rw [hx]; exact grow_alloc (grow_refl w2 none) _
  have k0 : x.cell? ⟨B, 0, none⟩ = some (.pointer (some ⟨C, 0, none⟩)) := by rw [hx, hB, obj_cell (obj_new w2 _)]; rfl
  have k2 : x.cell? ⟨B, 1, none⟩ = some (.string ⟨nonce.toArray⟩) := by rw [hx, hB, obj_cell (obj_new w2 _)]; rfl
  rw [← hx, ← hB]
  have HGX := Lib.hid hgx
  clear hx hB hgx
  go_quiet (fail)
  go_wp2_with fail
  (with_reducible refine (A2 _ C T (HGB.out.kept (grow_drewN HGX.out _))).mono ?_)
  rintro e w3 ⟨rfl, hg3⟩
  have m0 := hg3.cell (a := ⟨B, 0, none⟩) k0 nofun
  have m1 := hg3.cell (a := ⟨B, 1, none⟩) k2 nofun
  have HG3 := Lib.hid (grow_trans (grow_drewN HGX.out _) hg3)
  clear k0 k2 hg3 A2
  go_wp2_with fail
  (with_reducible refine (A1 _ C T (HGB.out.kept HG3.out)).mono ?_)
  rintro e w4 ⟨rfl, hg4⟩
  have HF := grow_trans (grow_trans hg2 HG3.out) hg4
  go_wp2_with fail
  go_ret2
  exact ⟨rfl, HF⟩

end Go.Proofs.Ytffeekfofbcobaa

namespace Go.Proofs.Ytffeekfofbcobaa
open Go.RowKit
set_option linter.unusedVariables false

/-- A text sealed as the n-th. -/
def sealN (suite : Nat) (key : List UInt8) (n : Nat) (more text : List UInt8) : List UInt8 := if suite = 1 then sealL key (nonL 1 n) more text else gsealL key (nonL 2 n) more text
theorem sealN_length (suite : Nat) (key : List UInt8) (n : Nat) (more text : List UInt8) (hk : key.length = 32) : (sealN suite key n more text).length = text.length + 16 := by
  unfold sealN
  split
  · exact sealL_length _ _ _ _
  · exact gsealL_length _ _ _ _ hk (nonL_length 2 n)

end Go.Proofs.Ytffeekfofbcobaa

namespace Go.Proofs.Ytffeekfofbcobaa
open Go.RowKit
set_option linter.unusedVariables false

theorem noise_seal (w : World) (suite : Nat) (h12 : suite = 1 ∨ suite = 2) (key more text : List UInt8) (n : Nat) (hn : n < 18446744073709551616) (hk : key.length = 32) (hm : more.length ≤ 2000) (ht : text.length ≤ 2000) :
    Calls Try.prog 17 #[.int .i64 (suite : Int), S key, .int .u64 (n : Int), S more, S text] w (Grown (.tuple #[S (sealN suite key n more text), .int .i64 0]) w) := by
  rcases h12 with rfl | rfl
  · exact code_nzSeal1 w key more text _ n 0 hn fun W => code_seal W key (nonL 1 n) more text hk (nonL_length 1 n) hm ht
  · exact code_nzSeal2 w key more text _ n 0 hn fun W => code_gseal W key (nonL 2 n) more text hk (nonL_length 2 n) hm ht

theorem noise_open (w : World) (suite : Nat) (h12 : suite = 1 ∨ suite = 2) (key more text : List UInt8) (n : Nat) (hn : n < 18446744073709551616) (hk : key.length = 32) (hm : more.length ≤ 2000) (ht : text.length ≤ 2000) :
    Calls Try.prog 20 #[.int .i64 (suite : Int), S key, .int .u64 (n : Int), S more, S (sealN suite key n more text)] w (Grown (.tuple #[S text, .int .i64 0]) w) := by
  rcases h12 with rfl | rfl
  · refine code_nzOpen1 w key more _ _ n 0 hn fun W => ?_
    have := code_open W key (nonL 1 n) more (chxL key (nonL 1 n) 1 text) hk (nonL_length 1 n) hm (by rw [chxL_length]; exact ht)
    rwa [chxL_twice _ _ 1 text (by omega)] at this
  · refine code_nzOpen2 w key more _ _ n 0 hn fun W => ?_
    have := code_gopen W key (nonL 2 n) more (gcxL key (nonL 2 n) text) hk (nonL_length 2 n) hm (by rw [gcxL_length _ _ _ hk (nonL_length 2 n)]; exact ht)
    rwa [gcxL_twice _ _ text hk (nonL_length 2 n)] at this

end Go.Proofs.Ytffeekfofbcobaa

namespace Go.Proofs.Ytffeekfofbcobaa
open Go.RowKit
set_option linter.unusedVariables false

def Sealed1 (w : World) (b B : Nat) (send recv : List UInt8) (suite sealed : Nat) (first : Bool) (text : List UInt8) (e : Ending) (w' : World) : Prop :=
  e = .returned (.tuple #[.int .i64 (sealed : Int), S (sealN suite send sealed [] text), .int .i64 0]) ∧ PairAt w' b B send recv suite (sealed + 1) first ∧ w.grownBy w' (some b)

set_option maxRecDepth 100000 in
set_option maxHeartbeats 2000000 in
theorem code_prseal (w : World) (b B : Nat) (send recv : List UInt8) (suite sealed : Nat) (h12 : suite = 1 ∨ suite = 2) (first : Bool) (h : PairAt w b B send recv suite sealed first) (hk : send.length = 32) (now : Nat) (hn : now < 180) (hs : sealed < 1000) (text : List UInt8) (ht : text.length ≤ 2000) :
    Calls Try.prog 7 #[.pointer (some ⟨b, 0, none⟩), S text, .int .i64 (now : Int)] w (Sealed1 w b B send recv suite sealed first text) := by
  have A1 := code_prover w b B send recv suite sealed first h now hs
  have e1 : decide (180 ≤ now) = false := by simp; omega
  rw [e1] at A1
  have A2 := fun W : World => noise_seal W suite h12 send [] text sealed (by omega) hk (by simp) ht
  have hlt := Blk.lt h
  obtain ⟨c0, c1, c2, c3, c4, c5, c6, f5⟩ := h.cells
  have wn : IntKind.u64.wrap (sealed : Int) = (sealed : Int) := IntWalk.u64_in _ (by omega)
  have H := Lib.hid h
  unfold Sealed1
  generalize sealN suite send sealed [] text = V at *
  clear c0 c2 c4 c6 f5 e1 h12 h
  unfold S at *
  go_enter Try.func7, Try.ntmps7
  go_wp2_with fail
  (with_reducible refine A1.mono ?_)
  rintro e x ⟨rfl, rfl⟩
  go_wp2_with fail
  go_region_held3 (fun W => W.cell? ⟨b, 1, none⟩ = some (.string ⟨send.toArray⟩) ∧ W.cell? ⟨b, 3, none⟩ = some (.int .i64 (suite : Int)) ∧ W.cell? ⟨b, 5, none⟩ = some (.int .i64 (sealed : Int))) (first | exact ⟨c1, c3, c5⟩ | exact ⟨d1, d3, d5⟩) (first
    | (go_at_call 17; (with_reducible refine (A2 _).mono ?_); rintro e x1 ⟨rfl, hg1⟩; have H1 : PairAt x1 b B send recv suite sealed first := Blk.kept (Blk.drew H.out) hg1 nofun; obtain ⟨d0, d1, d2, d3, d4, d5, d6, f5⟩ := H1.cells))
  all_goals
    have n5 := H1.cells.2.2.2.2.2.2.2
    have H2 : PairAt (x1.setCell ⟨b, 5, none⟩ (.int .i64 ((sealed : Int) + 1))) b B send recv suite (sealed + 1) first := Blk.set H1 5 (.int .i64 ((sealed : Int) + 1))
    obtain ⟨m0, m1, m2, m3, m4, m5, m6, m7⟩ := H2.cells
    have HG := Lib.hid (grow_setCell (grow_none (r := some b) (grow_trans (grow_drew (grow_refl w none)) hg1)) 5 (.int .i64 ((sealed : Int) + 1)))
    have HP := Lib.hid H2
    clear hg1 H1 H2 m0 m1 m2 m3 m4 m6 m7 d0 d1 d2 d3 d4 d6
    go_wp2_with fail
    refine bodyPost_ret (v := .tuple #[.int .i64 (sealed : Int), .string ⟨V.toArray⟩, .int .i64 0]) (by simp [results, Try.results7, go_sem]) rfl ?_
    exact ⟨rfl, HP.out, HG.out⟩

theorem code_prseal_old (w : World) (b B : Nat) (send recv : List UInt8) (suite sealed : Nat) (first : Bool) (h : PairAt w b B send recv suite sealed first) (now : Nat) (hn : 180 ≤ now) (hs : sealed < 1000) (text : List UInt8) :
    Calls Try.prog 7 #[.pointer (some ⟨b, 0, none⟩), S text, .int .i64 (now : Int)] w fun e w' => e = .returned (.tuple #[.int .i64 0, S [], .int .i64 11]) ∧ w = w' := by
  have A1 := code_prover w b B send recv suite sealed first h now hs
  have e1 : decide (180 ≤ now) = true := by simp; omega
  rw [e1] at A1
  clear h e1
  unfold S at *
  go_enter Try.func7, Try.ntmps7
  go_wp2_with fail
  (with_reducible refine A1.mono ?_)
  rintro e x ⟨rfl, rfl⟩
  go_wp2_with fail
  refine bodyPost_ret (v := .tuple #[.int .i64 0, .string ⟨#[]⟩, .int .i64 11]) (by simp [results, Try.results7, go_sem]) rfl ?_
  exact ⟨rfl, rfl⟩

theorem code_propen_old (w : World) (b B : Nat) (send recv : List UInt8) (suite sealed : Nat) (first : Bool) (h : PairAt w b B send recv suite sealed first) (now : Nat) (hn : 180 ≤ now) (n : Int) (text : List UInt8) :
    Calls Try.prog 9 #[.pointer (some ⟨b, 0, none⟩), .int .i64 n, S text, .int .i64 (now : Int)] w fun e w' => e = .returned (.tuple #[S [], .int .i64 11]) ∧ w = w' := by
  have A1 := code_prold w b B send recv suite sealed first h now 180 180 rfl (by omega)
  have e1 : decide (180 ≤ now) = true := by simp; omega
  rw [e1] at A1
  clear h e1
  unfold S at *
  go_enter Try.func9, Try.ntmps9
  go_wp2_with fail
  (with_reducible refine A1.mono ?_)
  rintro e x ⟨rfl, rfl⟩
  go_wp2_with fail
  go_ret2
  exact ⟨rfl, rfl⟩

/-- A number that the window refuses. -/
theorem code_propen_no (w : World) (b B : Nat) (send recv : List UInt8) (suite sealed : Nat) (first : Bool) (h : PairAt w b B send recv suite sealed first) (now : Nat) (hn : now < 180) (n : Int) (hwf : (Lit.int .i64 n).wf = true) (text : List UInt8)
    (next : Int) (m : Nat) (hw : WnAt w B next m) (h0 : 0 ≤ next) (h1 : next ≤ 1099511627777) (hm : m < 18446744073709551616) (c : Int) (hc : wnCheck next m n = c) (hc0 : (c == 0) = false) :
    Calls Try.prog 9 #[.pointer (some ⟨b, 0, none⟩), .int .i64 n, S text, .int .i64 (now : Int)] w (Grown (.tuple #[S [], .int .i64 c]) w) := by
  have A1 := code_prold w b B send recv suite sealed first h now 180 180 rfl (by omega)
  have e1 : decide (180 ≤ now) = false := by simp; omega
  rw [e1] at A1
  have A2 := window_check w B next m n hw h0 h1 hm hwf
  rw [hc] at A2
  obtain ⟨c0, c1, c2, c3, c4, c5, c6, f5⟩ := h.cells
  have q : (c != 0) = true := by simp [bne, hc0]
  clear h e1 hc hw h0 h1 hm c1 c2 c3 c4 c5 c6 f5 hwf
  unfold S at *
  go_enter Try.func9, Try.ntmps9
  go_wp2_with fail
  (with_reducible refine A1.mono ?_)
  rintro e x ⟨rfl, rfl⟩
  go_wp2_with fail
  (with_reducible refine A2.mono ?_)
  rintro e x ⟨rfl, hg⟩
  go_wp2_with fail
  go_ret2
  exact ⟨rfl, hg⟩

def Opened1 (w : World) (b B : Nat) (send recv : List UInt8) (suite sealed : Nat) (first : Bool) (text : List UInt8) (next : Int) (m : Nat) (n : Int) (e : Ending) (w' : World) : Prop :=
  e = .returned (.tuple #[S text, .int .i64 0]) ∧ PairAt w' b B send recv suite sealed first ∧ WnAt w' B (wnTake next m n).1 (wnTake next m n).2 ∧ w.grownBy w' (some B)

set_option maxRecDepth 100000 in
set_option maxHeartbeats 2000000 in
theorem code_propen (w : World) (b B : Nat) (send recv : List UInt8) (suite sealed : Nat) (h12 : suite = 1 ∨ suite = 2) (first : Bool) (h : PairAt w b B send recv suite sealed first) (hbB : b ≠ B) (hk : recv.length = 32) (now : Nat) (hn : now < 180) (n : Nat) (n1 : n ≤ 1099511627776) (text : List UInt8) (ht : text.length ≤ 2000)
    (next : Int) (m : Nat) (hw : WnAt w B next m) (h0 : 0 ≤ next) (h1 : next ≤ 1099511627777) (hm : m < 18446744073709551616) (hc : wnCheck next m (n : Int) = 0) :
    Calls Try.prog 9 #[.pointer (some ⟨b, 0, none⟩), .int .i64 (n : Int), S (sealN suite recv n [] text), .int .i64 (now : Int)] w (Opened1 w b B send recv suite sealed first text next m n) := by
  have A1 := code_prold w b B send recv suite sealed first h now 180 180 rfl (by omega)
  have e1 : decide (180 ≤ now) = false := by simp; omega
  rw [e1] at A1
  have hwf : (Lit.int .i64 (n : Int)).wf = true := wf_i64 (by omega)
  have A2 := window_check w B next m n hw h0 h1 hm hwf
  rw [hc] at A2
  have A3 := fun W : World => noise_open W suite h12 recv [] text n (by omega) hk (by simp) ht
  have A4 := fun (W : World) (k : WnAt W B next m) => window_take W B next m n k h0 h1 hm hwf
  rw [hc] at A4
  obtain ⟨c0, c1, c2, c3, c4, c5, c6, f5⟩ := h.cells
  have wn : IntKind.u64.wrap (n : Int) = (n : Int) := IntWalk.u64_in _ (by omega)
  have H := Lib.hid h
  have HW := Lib.hid hw
  unfold Opened1
  generalize sealN suite recv n [] text = V at *
  clear h e1 hc hw h0 h1 hm c1 c2 c3 c4 c5 c6 f5 hwf
  unfold S at *
  go_enter Try.func9, Try.ntmps9
  go_wp2_with fail
  (with_reducible refine A1.mono ?_)
  rintro e x ⟨rfl, rfl⟩
  go_wp2_with fail
  (with_reducible refine A2.mono ?_)
  rintro e x ⟨rfl, hg⟩
  have H1 := H.out.kept hg nofun
  have HW1 := Lib.hid (HW.out.kept hg nofun)
  obtain ⟨c0, c1, c2, c3, c4, c5, c6, f5⟩ := H1.cells
  have HP1 := Lib.hid H1
  have HG1 := Lib.hid hg
  clear hg H1 c0 c1 c4 c5 c6 f5 H HW
  go_wp2_with fail
  go_region_held3 (fun W => W.cell? ⟨b, 2, none⟩ = some (.string ⟨recv.toArray⟩) ∧ W.cell? ⟨b, 3, none⟩ = some (.int .i64 (suite : Int))) (first | exact ⟨c2, c3⟩ | exact ⟨d2, d3⟩) (first
    | (go_at_call 20; (with_reducible refine (A3 _).mono ?_); rintro e x1 ⟨rfl, hg1⟩; have H2 : PairAt x1 b B send recv suite sealed first := Blk.kept (Blk.drew HP1.out) hg1 nofun; obtain ⟨d0, d1, d2, d3, d4, d5, d6, f5⟩ := H2.cells))
  all_goals
    have HW2 := HW1.out.kept (grow_trans (grow_drew (grow_refl _ none)) hg1) nofun
    have A5 := A4 _ HW2
    have HG2 := Lib.hid (grow_trans HG1.out (grow_trans (grow_drew (grow_refl _ none)) hg1))
    have HP2 := Lib.hid H2
    clear hg1 H2 d1 d2 d3 d4 d5 d6 f5 A4 HW2 HW1 HG1
    go_wp2_with fail
    (with_reducible refine A5.mono ?_)
    rintro e x3 ⟨rfl, hw3, hg3⟩
    have HP3 := HP2.out.kept hg3 (by simp; omega)
    go_wp2_with fail
    go_ret2
    exact ⟨rfl, HP3, hw3, grow_trans (grow_none HG2.out) hg3⟩

end Go.Proofs.Ytffeekfofbcobaa

namespace Go.Proofs.Ytffeekfofbcobaa
open Go.RowKit
set_option linter.unusedVariables false

theorem code_zeros (w : World) (n : Nat) (hn : n ≤ 140737488355328) : Calls Try.prog 22 #[.int .i64 n] w (Grown (S (zerosL n)) w) := by
  go_enter Try.func22, Try.ntmps22
  go_wp2_with fail
  refine (repeat_zero w n hn).mono ?_
  rintro e w' ⟨rfl, hg⟩
  unfold S
  go_wp2_with fail
  go_ret
  exact ⟨rfl, hg⟩


end Go.Proofs.Ytffeekfofbcobaa

namespace Go.Proofs.Ytffeekfofbcobaa
open Go.RowKit
set_option linter.unusedVariables false

set_option maxHeartbeats 400000 in
theorem code_sized (w : World) (l : List UInt8) (n : Nat) (hl : l.length ≤ 9223372036854775807) (hn : n ≤ 140737488355328) : Calls Try.prog 12 #[S l, .int .i64 n] w (Grown (S (sizedL l n)) w) := by
  have r1 := rule_app
  have r2 := rule_ext
  by_cases h : n ≤ l.length
  · have hs : sizedL l n = l.take n := by
      unfold sizedL zerosL
      rw [Nat.sub_eq_zero_of_le h]
      simp
    rw [hs]
    clear hs
    unfold S
    go_enter Try.func12, Try.ntmps12
    go_wp2_with fail
    go_ret
    exact ⟨by simp, grow_refl _ _⟩
  · have hs : sizedL l n = l ++ zerosL (n - l.length) := by
      unfold sizedL
      rw [List.take_of_length_le (by omega)]
    rw [hs]
    clear hs
    have e1 : (n : Int) - (l.length : Int) = ((n - l.length : Nat) : Int) := by omega
    have e2 : l.length + (n - l.length) ≤ 9223372036854775807 := by omega
    have r3 := zerosL_length
    unfold S
    go_enter Try.func12, Try.ntmps12
    go_wp2_with fail
    refine (code_zeros w (n - l.length) (by omega)).mono ?_
    rintro e w' ⟨rfl, hg⟩
    unfold S
    go_wp2_with fail
    go_ret
    exact ⟨rfl, hg⟩

end Go.Proofs.Ytffeekfofbcobaa

namespace Go.Proofs.Ytffeekfofbcobaa
open Go.RowKit
set_option linter.unusedVariables false

theorem tmod_rest (n m : Int) (hm : 0 < m) : (if n.tmod m < 0 then n.tmod m + m else n.tmod m) = n % m := by
  have h1 := Int.tmod_eq_emod (a := n) (b := m)
  have h2 := Int.emod_nonneg n (b := m) (by omega)
  have h3 := Int.emod_lt_of_pos n hm
  by_cases hn : 0 ≤ n ∨ m ∣ n
  · rw [if_pos hn] at h1
    rw [if_neg (by omega)]; omega
  · rw [if_neg hn] at h1
    have : (m.natAbs : Int) = m := by omega
    have h4 : n % m ≠ 0 := fun h => hn (Or.inr (Int.dvd_of_emod_eq_zero h))
    rw [if_pos (by omega)]; omega

set_option maxHeartbeats 400000 in
theorem rest_any (n m : Int) (w : World) (hn0 : -9223372036854775808 ≤ n) (hn1 : n ≤ 9223372036854775807) (hm : 0 < m) (hm1 : m ≤ 9223372036854775807) :
    Calls Try.prog 8 #[.int .i64 n, .int .i64 m] w fun e w' => e = .returned (.int .i64 (n % m)) ∧ w = w' := by
  have hr := tmod_rest n m hm
  have b1 : n.tmod m < m := Int.tmod_lt_of_pos n hm
  have b2 : -m < n.tmod m := by
    have := Int.emod_nonneg n (b := m) (by omega)
    by_cases h : n.tmod m < 0
    · rw [if_pos h] at hr
      have h4 : n % m ≠ 0 := by
        intro h0
        rw [Int.tmod_eq_zero_of_dvd (Int.dvd_of_emod_eq_zero h0)] at h; omega
      omega
    · omega
  have HR := Lib.hid hr
  clear hr
  go_enter Try.func8, Try.ntmps8
  go_wp2
  all_goals
    go_ret
    refine ⟨ret_int ?_, rfl⟩
    have := HR.out
    first | rwa [if_pos (by assumption)] at this | rwa [if_neg (by omega)] at this

end Go.Proofs.Ytffeekfofbcobaa

namespace Go.Proofs.Ytffeekfofbcobaa
open Go.RowKit
set_option linter.unusedVariables false

theorem rest_nat (n : Int) (m : Nat) (M : Int) (hM : M = (m : Int)) (hn0 : -9223372036854775808 ≤ n) (hn1 : n ≤ 9223372036854775807) (hm : 0 < m) (hm1 : m ≤ 9223372036854775807) :
    ∃ r : Nat, r < m ∧ ∀ W : World, Calls Try.prog 8 #[.int .i64 n, .int .i64 M] W fun e w' => e = .returned (.int .i64 (r : Int)) ∧ W = w' := by
  subst hM
  refine ⟨(n % m).toNat, ?_, fun W => ?_⟩
  · have := Int.emod_lt_of_pos n (show (0 : Int) < m by omega)
    have := Int.emod_nonneg n (show (m : Int) ≠ 0 by omega)
    omega
  · have h := rest_any n m W hn0 hn1 (by omega) (by omega)
    have := Int.emod_nonneg n (show (m : Int) ≠ 0 by omega)
    rw [show (((n % (m : Int)).toNat : Nat) : Int) = n % (m : Int) from by omega]
    exact h
theorem wf_i64_of {n : Int} (h : (Lit.int .i64 n).wf = true) : -9223372036854775808 ≤ n ∧ n ≤ 9223372036854775807 := by
  simp only [Lit.wf, Bool.and_eq_true, decide_eq_true_eq] at h
  exact h

end Go.Proofs.Ytffeekfofbcobaa

namespace Go.Proofs.Ytffeekfofbcobaa
open Go.RowKit
set_option linter.unusedVariables false

structure TwoAt (w : World) (a A b B : Nat) (x y : List UInt8) (suite sa sb : Nat) (na nb : Int) (ma mb : Nat) : Prop where
  pa : PairAt w a A x y suite sa true
  pb : PairAt w b B y x suite sb false
  wa : WnAt w A na ma
  wb : WnAt w B nb mb
structure Apart4 (w : World) (a A b B : Nat) : Prop where
  la : w.heap.size ≤ a
  lA : w.heap.size ≤ A
  lb : w.heap.size ≤ b
  lB : w.heap.size ≤ B
  aA : a ≠ A
  bB : b ≠ B
  ab : a ≠ b
  aB : a ≠ B
  bA : b ≠ A
  AB : A ≠ B
def PairedIs (w : World) (suite : Nat) (x y : List UInt8) (e : Ending) (w' : World) : Prop :=
  ∃ a A b B, e = .returned (.tuple #[.pointer (some ⟨a, 0, none⟩), .pointer (some ⟨b, 0, none⟩)]) ∧ TwoAt w' a A b B x y suite 0 0 0 0 0 0 ∧ Apart4 w a A b B ∧ w.grownBy w' none

set_option maxHeartbeats 1000000 in
theorem code_paired (w : World) (s : Int) (hs : (Lit.int .i64 s).wf = true) (x y : List UInt8) (hx : x.length ≤ 9223372036854775807) (hy : y.length ≤ 9223372036854775807) :
    ∃ suite : Nat, (suite = 1 ∨ suite = 2) ∧ Calls Try.prog 6 #[.int .i64 s, S x, S y] w (PairedIs w suite (sizedL x 32) (sizedL y 32)) := by
  have hs' := wf_i64_of hs
  obtain ⟨r, hr, R⟩ := rest_nat s 2 2 rfl hs'.1 hs'.2 (by omega) (by omega)
  refine ⟨1 + r, by omega, ?_⟩
  obtain ⟨u, hu⟩ : ∃ u, u = 1 + r := ⟨_, rfl⟩
  have h12 : u = 1 ∨ u = 2 := by omega
  have eu : 1 + (r : Int) = (u : Int) := by omega
  have wu : IntKind.i64.wrap (1 + (r : Int)) = (u : Int) := by rw [eu]; exact IntWalk.i64_in _ (by omega)
  rw [← hu]
  have A1 : ∀ W : World, Calls Try.prog 12 #[S x, .int .i64 32] W (Grown (S (sizedL x 32)) W) := fun W => code_sized W x 32 hx (by omega)
  have A2 : ∀ W : World, Calls Try.prog 12 #[S y, .int .i64 32] W (Grown (S (sizedL y 32)) W) := fun W => code_sized W y 32 hy (by omega)
  have lx := sizedL_length x 32
  have ly := sizedL_length y 32
  generalize sizedL x 32 = X at *
  generalize sizedL y 32 = Y at *
  have A3 := fun W : World => code_prnew W u h12 X Y lx ly true
  have A4 := fun W : World => code_prnew W u h12 Y X ly lx false
  clear hs hs' hx hy lx ly hu h12
  unfold S at *
  go_enter Try.func6, Try.ntmps6
  go_wp2_with fail
  (with_reducible refine (R _).mono ?_)
  rintro e x0 ⟨rfl, rfl⟩
  go_wp2_with fail
  (with_reducible refine (A1 _).mono ?_)
  rintro e x1 ⟨rfl, hg1⟩
  go_wp2_with fail
  (with_reducible refine (A2 _).mono ?_)
  rintro e x2 ⟨rfl, hg2⟩
  go_wp2_with fail
  (with_reducible refine (A3 _).mono ?_)
  rintro e x3 ⟨a, A, rfl, hpa, hwa, hg3, la, lA, aA⟩
  go_wp2_with fail
  (with_reducible refine (A4 _).mono ?_)
  rintro e x4 ⟨b, B, rfl, hpb, hwb, hg4, lb, lB, bB⟩
  have z1 := Blk.lt hpa
  have z2 := lt_of_obj hwa
  have z3 := (grow_trans hg1 hg2).size
  have z4 := hg3.size
  have hpa' := hpa.kept hg4 nofun
  have hwa' := hwa.kept hg4 nofun
  have HF : Hid (PairedIs w u X Y (.returned (.tuple #[.pointer (some ⟨a, 0, none⟩), .pointer (some ⟨b, 0, none⟩)])) x4) :=
    Lib.hid ⟨a, A, b, B, rfl, ⟨hpa', hpb, hwa', hwb⟩, ⟨by omega, by omega, by omega, by omega, aA, bB, by omega, by omega, by omega, by omega⟩, grow_trans (grow_trans (grow_trans hg1 hg2) hg3) hg4⟩
  clear hpa hwa hg1 hg2 hg3 hg4 hpa' hwa' hpb hwb
  go_wp2_with fail
  go_ret2
  exact HF.out

end Go.Proofs.Ytffeekfofbcobaa

namespace Go.Proofs.Ytffeekfofbcobaa
open Go.RowKit
set_option linter.unusedVariables false

/-- A slice of strings of the call's own. -/
def srow (w : World) (base : Nat) (v : Value) (ls : List (List UInt8)) : Prop := w.ownsRow base 9 1 v ls.length (ls.map S)
theorem info_str : (Try.prog.info? 9).map (fun i => (i.zero, i.size, i.bytes)) = some (some (.string ⟨#[]⟩), 1, 16) := by kernel_rfl
theorem srow_cells {w : World} {base : Nat} {v : Value} {ls : List (List UInt8)} (h : srow w base v ls) (hl : ls ≠ []) :
    ∃ g cap, v = .slice (some ⟨g, 0, none⟩) ls.length cap ∧ base ≤ g ∧ g < w.heap.size ∧ ls.length ≤ cap ∧ cap ≤ maxLen ∧ ∀ i (hi : i < ls.length), w.cell? ⟨g, i, none⟩ = some (S ls[i]) := by
  have h0 := h
  unfold srow at h
  rcases h.2 with ⟨_, hn⟩ | ⟨g, cap, cur, hv, hbg, hg, hnc, hcm, hcs, htake⟩
  · exact absurd (List.eq_nil_of_length_eq_zero hn) hl
  · subst hv
    refine ⟨g, cap, rfl, hbg, lt_of_obj hg, hnc, hcm, fun i hi => ?_⟩
    have e1 : (ls.map S)[i]? = some (S ls[i]) := by simp [hi]
    have e2 := h.cells (g := g) rfl i _ e1
    rw [show (⟨g, 0, none⟩ : Addr).add i = ⟨g, i, none⟩ from by cases i <;> simp [Addr.add]] at e2
    exact e2

theorem srow_nil (w : World) (base : Nat) : srow w base (.slice none 0 0) [] := World.ownsRow_nil _ _ _ _
theorem srow.kept {w w' : World} {base : Nat} {v : Value} {ls : List (List UInt8)} {r : Option Nat} (h : srow w base v ls) (g : w.grownBy w' r) (hr : v.ownBlock = none ∨ v.ownBlock ≠ r) : srow w' base v ls := World.ownsRow.kept h g hr
theorem srow.keptN {w w' : World} {base : Nat} {v : Value} {ls : List (List UInt8)} (h : srow w base v ls) (g : w.grownBy w' none) : srow w' base v ls := World.ownsRow.kept h g (by cases v.ownBlock <;> simp)
/-- Rows whose first strings differ lie in blocks of their own. -/
theorem srow_apart {w : World} {base base' : Nat} {v v' : Value} {ls ls' : List (List UInt8)} (h : srow w base v ls) (h' : srow w base' v' ls') (hl : 0 < ls.length) (hl' : 0 < ls'.length) (hne : ls[0] ≠ ls'[0]) : v.ownBlock ≠ v'.ownBlock := by
  obtain ⟨g, cap, hv, _, _, _, _, hc⟩ := srow_cells h (List.ne_nil_of_length_pos hl)
  obtain ⟨g', cap', hv', _, _, _, _, hc'⟩ := srow_cells h' (List.ne_nil_of_length_pos hl')
  subst hv hv'
  intro e
  have eg : g = g' := by simpa [Value.ownBlock] using e
  subst eg
  have h1 := hc 0 hl
  have h2 := hc' 0 hl'
  rw [h1] at h2
  have h3 : S ls[0] = S ls'[0] := Option.some.inj h2
  unfold S at h3
  apply hne
  have h4 := Value.string.inj h3
  have h5 : ls[0].toArray = ls'[0].toArray := ByteArray.mk.inj h4
  exact Array.toList_inj.2 h5 |> fun h => by simpa using h
theorem srow_none {w : World} {base : Nat} {v : Value} {ls : List (List UInt8)} (h : srow w base v ls) (hl : ls.length = 0) : v.ownBlock = none ∨ ∃ g, v.ownBlock = some g ∧ base ≤ g := by
  rcases h.2 with ⟨e, _⟩ | ⟨g, cap, cur, hv, hbg, _⟩
  · left; rw [e]; rfl
  · right; exact ⟨g, by rw [hv]; rfl, hbg⟩
theorem srow_own {w : World} {base : Nat} {v : Value} {ls : List (List UInt8)} (h : srow w base v ls) : ∀ k, v.ownBlock = some k → base ≤ k ∧ k < w.heap.size := by
  intro k hk
  rcases h.2 with ⟨e, _⟩ | ⟨g, cap, cur, hv, hbg, hg, _⟩
  · rw [e] at hk; cases hk
  · rw [hv] at hk
    obtain rfl : g = k := by simpa [Value.ownBlock] using hk
    exact ⟨hbg, lt_of_obj hg⟩

/-- 'l = append(l, s)' -/
theorem append_str {w : World} {ops : Array Oper} {rest : List Oper} {o : Oper} {a : Act} {Q : Exit → Act → World → Prop} (hgd : o.guard = none) (s x : Operand)
    (ho : o.op = .call { callee := .builtin .append, args := #[s, x], argTypes := #[22, 22] })
    (base : Nat) (v : Value) (ls : List (List UInt8)) (hs : a.eval s = v) (hown : srow w base v ls) (t : List UInt8) (u : Value) (hu : u = S t)
    (hx : a.eval x = .slice (some ⟨w.heap.size, 0, none⟩) 1 1) (hroom : (ls.length + 1) * 16 ≤ 140737488355328) (hbase : base ≤ w.heap.size)
    (h : ∀ v' w', srow w' base v' (ls ++ [t]) → w.grownBy w' v.ownBlock → wpList Try.prog ops Q rest (a.put o.dst v') w') : wpList Try.prog ops Q (o :: rest) a (w.alloc (.cells #[u] 9)) := by
  subst hu
  refine append_one hgd s x 22 ho base 9 (.string ⟨#[]⟩) 16 Try.underlying22 info_str rfl v ls.length (ls.map S) hs hown (S t) rfl hx (by omega) hroom hbase ?_
  intro v' w' h1 h2
  refine h v' w' ?_ h2
  unfold srow
  rw [List.length_append, List.map_append]
  exact h1

end Go.Proofs.Ytffeekfofbcobaa

namespace Go.Proofs.Ytffeekfofbcobaa
open Go.RowKit
open Go.Maps (Keyed int_keyed keyOf_int_mk)
set_option linter.unusedVariables false

theorem zero_bool (w : World) : (zeroValue 4).run Try.prog w = .ok (.bool false) w := by kernel_rfl
theorem int_law : Keyed Try.prog 3 := int_keyed Try.underlying3

/-- Block b is a map of at most n entries that holds true just at the numbers of 'seen' (and nothing, or false, at the others). -/
def SeenAt (w : World) (b n : Nat) (seen : Int → Bool) : Prop :=
  ∃ D : DataW Unit, w.ownsMap Try.prog 3 (plainElem Try.prog 4) b n D ∧ ∀ x, D.atKey (.int .i64 x) (.lit (.bool false)) = .lit (.bool (seen x))

theorem seen_made (w : World) : SeenAt (w.alloc (.map #[] 0)) w.heap.size 0 (fun _ => false) :=
  ⟨.map [], World.ownsMap_made w _ _ _, fun x => rfl⟩

theorem SeenAt.kept {w w' : World} {r : Option Nat} {b n : Nat} {seen : Int → Bool} (h : SeenAt w b n seen) (g : w.grownBy w' r) (hr : some b ≠ r) : SeenAt w' b n seen := by
  obtain ⟨D, h1, h2⟩ := h
  exact ⟨D, h1.kept g hr, h2⟩

theorem SeenAt.lt {w : World} {b n : Nat} {seen : Int → Bool} (h : SeenAt w b n seen) : b < w.heap.size := by
  obtain ⟨D, h1, h2⟩ := h
  exact h1.lt

set_option maxRecDepth 100000 in
theorem SeenAt.look {w : World} {b n : Nat} {seen : Int → Bool} (h : SeenAt w b n seen) {x : Int} (hx : (Lit.int .i64 x).wf = true) :
    (Instr.lookup 30 (.map (some b)) (.int .i64 x) false).run Try.prog w = .ok (.bool (seen x)) w := by
  obtain ⟨D, h1, h2⟩ := h
  obtain ⟨v, ps, hrun, hv⟩ := h1.lookup int_law Try.underlying30 (zero_bool w) (plainElem_bool Try.underlying4 false) (keyOf_int_mk Try.underlying3 hx)
  rw [h2] at hv
  unfold plainElem at hv
  rw [Try.underlying4] at hv
  cases v <;> simp at hv
  rw [hrun, hv.1]

set_option maxRecDepth 100000 in
theorem SeenAt.put {w : World} {b n : Nat} {seen : Int → Bool} (h : SeenAt w b n seen) {x : Int} (hx : (Lit.int .i64 x).wf = true) (hn : n < maxLen) :
    ∃ w', (Instr.mapUpdate 30 (.map (some b)) (.int .i64 x) (.bool true)).run Try.prog w = .ok () w' ∧ SeenAt w' b (n + 1) (fun y => seen y || decide (y = x)) ∧ w.grownBy w' (some b) := by
  obtain ⟨D, h1, h2⟩ := h
  obtain ⟨w', hrun, hown, hg⟩ := h1.update int_law Try.underlying30 hn (val := .bool true) (keyOf_int_mk Try.underlying3 hx) (plainElem_bool Try.underlying4 true)
  refine ⟨w', hrun, ⟨_, hown, fun y => ?_⟩, hg⟩
  by_cases hy : y = x
  · subst hy
    rw [Maps.atKey_put_same h1.isMap (by simp [WideAt.IsKeyLit])]
    simp
  · rw [Maps.atKey_put_other (by simpa using hy), h2]
    simp [hy]

end Go.Proofs.Ytffeekfofbcobaa

namespace Go.Proofs.Ytffeekfofbcobaa
open Go.RowKit
set_option linter.unusedVariables false

/-- The number in a cell of a slice of numbers. -/
theorem recs_int {w : World} {x : Addr} {len : Nat} {k : IntKind} (h : ∀ i, i < len → ∀ (j : Nat) (q : Lk), [Lk.int k][j]? = some q → ∃ v, w.cell? (x.add (i * [Lk.int k].length + j)) = some v ∧ LeafOk q v) :
    ∃ f : Nat → Int, ∀ i, i < len → w.cell? (x.add i) = some (.int k (f i)) ∧ (Lit.int k (f i)).wf = true := by
  have h' : ∀ i, i < len → ∃ n : Int, w.cell? (x.add i) = some (.int k n) ∧ (Lit.int k n).wf = true := by
    intro i hi
    obtain ⟨v, hv, n, rfl, hw⟩ := h i hi 0 _ rfl
    exact ⟨n, by simpa using hv, hw⟩
  exact ⟨fun i => if hi : i < len then Classical.choose (h' i hi) else 0, fun i hi => by simp only [dif_pos hi]; exact Classical.choose_spec (h' i hi)⟩

/-- A slice of numbers that came in, or that was made: what is read of it. -/
def IntsAt (k : IntKind) (w : World) (a : Option Addr) (len : Nat) (f : Nat → Int) : Prop :=
  ∀ i, i < len → ∃ x, a = some x ∧ w.cell? (x.add i) = some (.int k (f i)) ∧ (Lit.int k (f i)).wf = true

theorem ints_of {k : IntKind} {w : World} {a : Option Addr} {len cap : Nat} (h : IsRecs [.int k] w a len cap) : (len ≤ cap ∧ cap ≤ maxLen) ∧ ∃ f, IntsAt k w a len f := by
  rcases h with ⟨rfl, rfl, rfl⟩ | ⟨x, rfl, h1, h2, h3⟩
  · exact ⟨⟨Nat.le_refl _, Nat.zero_le _⟩, fun _ => 0, fun i hi => absurd hi (Nat.not_lt_zero _)⟩
  · obtain ⟨f, hf⟩ := recs_int h3
    exact ⟨⟨h1, h2⟩, f, fun i hi => ⟨x, rfl, hf i hi⟩⟩

theorem IntsAt.kept {k : IntKind} {w w' : World} {r : Option Nat} {a : Option Addr} {len : Nat} {f : Nat → Int} (h : IntsAt k w a len f) (g : w.grownBy w' r) (hr : ∀ x, a = some x → some x.block ≠ r) : IntsAt k w' a len f := by
  intro i hi
  obtain ⟨x, hx, hc, hw⟩ := h i hi
  refine ⟨x, hx, g.cell hc ?_, hw⟩
  have : (x.add i).block = x.block := by unfold Addr.add; split <;> rfl
  rw [this]; exact hr x hx

/-- The block of a slice that came in is an old one. -/
theorem IntsAt.old {k : IntKind} {w : World} {x : Addr} {len : Nat} {f : Nat → Int} (h : IntsAt k w (some x) len f) (i : Nat) (hi : i < len) : x.block < w.heap.size := by
  obtain ⟨y, hy, hc, _⟩ := h i hi
  cases hy
  have := World.block_lt_of_cell? w _ hc
  have e : (x.add i).block = x.block := by unfold Addr.add; split <;> rfl
  omega

end Go.Proofs.Ytffeekfofbcobaa

namespace Go.Proofs.Ytffeekfofbcobaa
open Go.RowKit
set_option linter.unusedVariables false

/-- These strings lie in a row. -/
def StrsAt (w : World) (a : Option Addr) (ss : List (List UInt8)) : Prop := ∀ i (h : i < ss.length), ∃ x, a = some x ∧ w.cell? (x.add i) = some (S ss[i])

theorem StrsAt.kept {w w' : World} {r : Option Nat} {a : Option Addr} {ss : List (List UInt8)} (h : StrsAt w a ss) (g : w.grownBy w' r) (hr : ∀ x, a = some x → some x.block ≠ r) : StrsAt w' a ss := by
  intro i hi
  obtain ⟨x, hx, hc⟩ := h i hi
  refine ⟨x, hx, g.cell hc ?_⟩
  have : (x.add i).block = x.block := by unfold Addr.add; split <;> rfl
  rw [this]; exact hr x hx
theorem StrsAt.keptN {w w' : World} {a : Option Addr} {ss : List (List UInt8)} (h : StrsAt w a ss) (g : w.grownBy w' none) : StrsAt w' a ss := h.kept g (by simp)

/-- A slice of strings, which hold so many letters together at the most. -/
def IsStrs (w : World) (a : Option Addr) (len cap bound : Nat) : Prop := ∃ ss : List (List UInt8), ss.length = len ∧ len ≤ cap ∧ cap ≤ maxLen ∧ ss.flatten.length + ss.length ≤ bound ∧ StrsAt w a ss

theorem flat_succ (ss : List (List UInt8)) (k : Nat) (h : k < ss.length) : (ss.take (k + 1)).flatten = (ss.take k).flatten ++ ss[k] := by
  rw [List.take_succ_eq_append_getElem h, List.flatten_append]
  simp
theorem flat_le (ss : List (List UInt8)) (k : Nat) : (ss.take k).flatten.length ≤ ss.flatten.length := by
  have h : ss.flatten = (ss.take k).flatten ++ (ss.drop k).flatten := by rw [← List.flatten_append, List.take_append_drop]
  rw [h, List.length_append]
  omega
theorem flat_at (ss : List (List UInt8)) (k : Nat) (h : k < ss.length) : (ss.take k).flatten.length + ss[k].length ≤ ss.flatten.length := by
  have h1 := flat_le ss (k + 1)
  rw [flat_succ ss k h, List.length_append] at h1
  exact h1

end Go.Proofs.Ytffeekfofbcobaa

namespace Go.Proofs.Ytffeekfofbcobaa
open Go.RowKit
set_option linter.unusedVariables false

theorem strs_of {w : World} {a : Option Addr} {len cap : Nat} (h : IsRecs [.str] w a len cap) : (len ≤ cap ∧ cap ≤ maxLen) ∧ ∃ ss : List (List UInt8), ss.length = len ∧ StrsAt w a ss ∧ ∀ s ∈ ss, s.length ≤ maxLen := by
  rcases h with ⟨rfl, rfl, rfl⟩ | ⟨x, rfl, h1, h2, h3⟩
  · exact ⟨⟨Nat.le_refl _, Nat.zero_le _⟩, [], rfl, fun i hi => absurd hi (Nat.not_lt_zero _), by simp⟩
  · have h' : ∀ i, i < len → ∃ s : List UInt8, w.cell? (x.add i) = some (S s) ∧ s.length ≤ maxLen := by
      intro i hi
      obtain ⟨v, hv, s, rfl, hw⟩ := h3 i hi 0 _ rfl
      refine ⟨s.data.toList, ?_, by rw [Array.length_toList]; exact hw⟩
      have e : S s.data.toList = .string s := rfl
      rw [e]
      simpa using hv
    refine ⟨⟨h1, h2⟩, (List.range len).map fun i => if hi : i < len then Classical.choose (h' i hi) else [], by simp, fun i hi => ⟨x, rfl, ?_⟩, fun s hs => ?_⟩
    · have hi' : i < len := by simpa using hi
      simp only [List.getElem_map, List.getElem_range, dif_pos hi']
      exact (Classical.choose_spec (h' i hi')).1
    · obtain ⟨i, hi, rfl⟩ := List.mem_map.1 hs
      have hi' : i < len := by simpa using hi
      simp only [dif_pos hi']
      exact (Classical.choose_spec (h' i hi')).2

end Go.Proofs.Ytffeekfofbcobaa

namespace Go.Proofs.Ytffeekfofbcobaa
open Go.RowKit
set_option linter.unusedVariables false

theorem min60 (n : Nat) : ∃ k : Nat, k ≤ 60 ∧ k ≤ n ∧ (if (60 : Int) < (n : Int) then (60 : Int) else (n : Int)) = (k : Int) ∧ min (n : Int) 60 = (k : Int) :=
  ⟨min n 60, by omega, by omega, by split <;> omega, by omega⟩

/-- A row of strings lies apart from a block of another type. -/
theorem srow_other {w : World} {base k : Nat} {v : Value} {ls : List (List UInt8)} {c : Array Value} {t : TypeId} {fr : Nat × Nat} (h : srow w base v ls) (hk : w.heap[k]? = some (.cells c t fr)) (ht : t ≠ 9) : v.ownBlock ≠ some k := by
  intro e
  rcases h.2 with ⟨e2, _⟩ | ⟨g, cap, cur, hv, hbg, hg, _⟩
  · rw [e2] at e; cases e
  · rw [hv] at e
    obtain rfl : g = k := by simpa [Value.ownBlock] using e
    rw [hg] at hk
    injection hk with hk
    injection hk with _ h2 _
    exact ht h2.symm

def ptL (ss : List (List UInt8)) (j : Nat) : List UInt8 := (ss.getD j []).take 100
def ctL (suite : Nat) (X : List UInt8) (ss : List (List UInt8)) (j : Nat) : List UInt8 := sealN suite X j [] (ptL ss j)
def pts (ss : List (List UInt8)) (i : Nat) : List (List UInt8) := (List.range i).map (ptL ss)
def cts (suite : Nat) (X : List UInt8) (ss : List (List UInt8)) (i : Nat) : List (List UInt8) := (List.range i).map (ctL suite X ss)
theorem pts_length (ss : List (List UInt8)) (i : Nat) : (pts ss i).length = i := by simp [pts]
theorem cts_length (suite : Nat) (X : List UInt8) (ss : List (List UInt8)) (i : Nat) : (cts suite X ss i).length = i := by simp [cts]
theorem pts_succ (ss : List (List UInt8)) (i : Nat) : pts ss (i + 1) = pts ss i ++ [ptL ss i] := by unfold pts; rw [List.range_succ, List.map_append]; rfl
theorem cts_succ (suite : Nat) (X : List UInt8) (ss : List (List UInt8)) (i : Nat) : cts suite X ss (i + 1) = cts suite X ss i ++ [ctL suite X ss i] := by unfold cts; rw [List.range_succ, List.map_append]; rfl
theorem ptL_length (ss : List (List UInt8)) (j : Nat) : (ptL ss j).length ≤ 100 := by unfold ptL; rw [List.length_take]; omega
theorem ptL_min (ss : List (List UInt8)) (j : Nat) (h : j < ss.length) : ∃ k : Nat, k ≤ 100 ∧ k ≤ ss[j].length ∧ (if (100 : Int) < (ss[j].length : Int) then (100 : Int) else (ss[j].length : Int)) = (k : Int) ∧ min (ss[j].length : Int) 100 = (k : Int) ∧ ss[j].take k = ptL ss j ∧ (ptL ss j).length = k := by
  have e : ss.getD j [] = ss[j] := by rw [List.getD_eq_getElem?_getD, List.getElem?_eq_getElem h]; rfl
  refine ⟨min ss[j].length 100, by omega, by omega, by split <;> omega, by omega, ?_, ?_⟩
  · unfold ptL
    rw [e, Nat.min_comm, ← List.take_take, List.take_length]
  · unfold ptL
    rw [e, List.length_take, Nat.min_comm]
theorem firsts_apart {w : World} {base i : Nat} {v v' : Value} {suite : Nat} {X : List UInt8} {ss : List (List UInt8)} {n : Nat} (hX : X.length = 32) (h : srow w base v (cts suite X ss i)) (h' : srow w base v' (pts ss n)) (hi : 0 < i) (hn : 0 < n) : v.ownBlock ≠ v'.ownBlock := by
  refine srow_apart h h' (by rw [cts_length]; exact hi) (by rw [pts_length]; exact hn) ?_
  have e1 : (cts suite X ss i)[0]'(by rw [cts_length]; exact hi) = ctL suite X ss 0 := by simp [cts]
  have e2 : (pts ss n)[0]'(by rw [pts_length]; exact hn) = ptL ss 0 := by simp [pts]
  rw [e1, e2]
  intro e
  have := sealN_length suite X 0 [] (ptL ss 0) hX
  unfold ctL at e
  rw [e] at this
  omega
theorem srow_val {w : World} {base : Nat} {v : Value} {ls : List (List UInt8)} (h : srow w base v ls) : ∃ ao cap, v = .slice ao ls.length cap ∧ ls.length ≤ cap ∧ cap ≤ maxLen := by
  rcases h.2 with ⟨e, h0⟩ | ⟨g, cap, cur, hv, _, _, h1, h2, _⟩
  · exact ⟨none, 0, by rw [e, h0], by omega, Nat.zero_le _⟩
  · exact ⟨some ⟨g, 0, none⟩, cap, hv, h1, h2⟩
theorem grow_own {a b c : World} {v : Value} (h : a.grownBy b none) (g : b.grownBy c v.ownBlock) (hk : ∀ k, v.ownBlock = some k → a.heap.size ≤ k) : a.grownBy c none := by
  rcases hv : v.ownBlock with _ | k
  · rw [hv] at g; exact grow_trans h g
  · rw [hv] at g; exact grow_trans_new h g (hk k hv)
theorem TwoAt.keptO {w w' : World} {a A b B : Nat} {x y : List UInt8} {suite sa sb : Nat} {na nb : Int} {ma mb : Nat} {base : Nat} {v : Value} {ls : List (List UInt8)} (h : TwoAt w a A b B x y suite sa sb na nb ma mb) (hv : srow w base v ls) (g : w.grownBy w' v.ownBlock) : TwoAt w' a A b B x y suite sa sb na nb ma mb :=
  ⟨h.pa.kept g (Ne.symm (srow_other hv h.pa (by decide))), h.pb.kept g (Ne.symm (srow_other hv h.pb (by decide))), h.wa.kept g (Ne.symm (srow_other hv h.wa (by decide))), h.wb.kept g (Ne.symm (srow_other hv h.wb (by decide)))⟩
theorem own_none_or {o : Option Nat} : o = none ∨ o ≠ none := by cases o <;> simp
theorem srow_nilown {w : World} {base : Nat} {v : Value} (h : srow w base v []) (hv : v = .slice none 0 0) : v.ownBlock = none := by rw [hv]; rfl

set_option maxRecDepth 100000 in
set_option maxHeartbeats 8000000 in
theorem walk_PairOnce (x0 : Int) (s1 s2 : ByteArray) (a3 : Option Addr) (len3 cap3 : Nat) (a4 : Option Addr) (len4 cap4 : Nat) (w0 : (Lit.int .i64 x0).wf = true) (w1 : s1.size ≤ maxLen) (w2 : s2.size ≤ maxLen) (w : World) (r3 : IsRecs [.str] w a3 len3 cap3) (r4 : IsRecs [.int .i64] w a4 len4 cap4) :
    Calls Try.prog 3 #[.int .i64 x0, .string s1, .string s2, .slice a3 len3 cap3, .slice a4 len4 cap4] w fun e w' => e = .returned (.bool true) ∧ Below w.heap.size w w' := by
  obtain ⟨x, rfl, hx⟩ := list_of s1
  obtain ⟨y, rfl, hy⟩ := list_of s2
  obtain ⟨⟨lc3, cm3⟩, ss, hss, hat, hsl⟩ := strs_of r3
  obtain ⟨⟨lc4, cm4⟩, f, hf⟩ := ints_of r4
  unfold maxLen at w1 w2 cm3 cm4
  rw [← hx] at w1
  rw [← hy] at w2
  obtain ⟨suite, h12, AP⟩ := code_paired w x0 w0 x y (by omega) (by omega)
  have lx := sizedL_length x 32
  have ly := sizedL_length y 32
  generalize sizedL x 32 = X at *
  generalize sizedL y 32 = Y at *
  obtain ⟨N, n60, nle, nm1, nm2⟩ := min60 len3
  have H12 := Lib.hid h12
  have HLX := Lib.hid lx
  have HLY := Lib.hid ly
  have HAT := Lib.hid hat
  have HSL := Lib.hid hsl
  have HSS := Lib.hid hss
  have HF := Lib.hid hf
  clear w0 w1 w2 hx hy lx ly h12 hat hsl hf r3 r4 hss
  unfold S at AP
  go_enter Try.func3, Try.ntmps3
  go_wp2_with fail
  (with_reducible refine AP.mono ?_)
  rintro e x1 ⟨a, A, b, B, rfl, h2, h4, hg⟩
  have HA := Lib.hid h4
  have H2 := Lib.hid h2
  have HG := Lib.hid hg
  clear h2 h4 hg AP
  go_wp2_with fail
  go_loopw [13, 14, 44] (fun v13 v14 v44 wr => ∃ i : Nat, i ≤ N ∧ v44 = .int .i64 i ∧ Hid (srow wr w.heap.size v13 (cts suite X ss i)) ∧ Hid (srow wr w.heap.size v14 (pts ss i)) ∧ Hid (i = 0 → v13 = .slice none 0 0 ∧ v14 = .slice none 0 0) ∧ Hid (TwoAt wr a A b B X Y suite i 0 0 0 0 0) ∧ Hid (w.grownBy wr none)) (fun _ _ v44 _ => N - (intOf v44).toNat)
  case atStart => exact ⟨0, by omega, rfl, Lib.hid (srow_nil _ _), Lib.hid (srow_nil _ _), Lib.hid (fun _ => ⟨rfl, rfl⟩), H2, HG⟩
  case round =>
    clear H2 HG
    obtain ⟨i, hi, rfl, h13, h14, hz, h2, hg⟩ := hrel
    by_cases hlt : i < N
    · have hks : i < ss.length := by rw [HSS.out]; omega
      obtain ⟨xa, rfl, hc⟩ := HAT.out i hks
      have hc2 := hg.out.cell hc (by simp)
      obtain ⟨k, k100, kl, km1, km2, hpt, lpt⟩ := ptL_min ss i hks
      obtain ⟨t, ht⟩ : ∃ t, t = ss[i] := ⟨_, rfl⟩
      rw [← ht] at hc2 kl km1 km2 hpt
      have AS : Calls Try.prog 7 #[.pointer (some ⟨a, 0, none⟩), .string ⟨(t.take k).toArray⟩, .int .i64 0] wr (Sealed1 wr a A X Y suite i true (ptL ss i)) := by
        have := code_prseal wr a A X Y suite i H12.out true h2.out.pa HLX.out 0 (by omega) (by omega) (ptL ss i) (by have := ptL_length ss i; omega)
        rw [hpt]
        exact this
      have hcv : sealN suite X i [] (ptL ss i) = ctL suite X ss i := rfl
      unfold Sealed1 at AS
      rw [hcv] at AS
      have lct : (ctL suite X ss i).length = k + 16 := by
        have := sealN_length suite X i [] (ptL ss i) HLX.out
        rw [lpt] at this
        exact this
      have sc := cts_succ suite X ss i
      have sp := pts_succ ss i
      have lc := cts_length suite X ss i
      have lp := pts_length ss i
      obtain ⟨V, hV⟩ : ∃ V, V = ctL suite X ss i := ⟨_, rfl⟩
      rw [← hV] at AS lct sc
      obtain ⟨Tk, hTk⟩ : ∃ Tk, Tk = ptL ss i := ⟨_, rfl⟩
      rw [← hTk] at sp hpt lpt
      have e1 : ((V.length : Int) != (k : Int) + 16) = false := by rw [bne_eq_false_iff_eq]; omega
      have e2 : ((t.take k).length : Int) = (k : Int) := by rw [hpt, lpt]
      have e4 : (t.take k).length = k := by rw [hpt, lpt]
      have e3 : (k : Int) ≤ (t.length : Int) := by omega
      have r2 := rule_ext
      have HPT := Lib.hid hpt
      have HSC := Lib.hid sc
      have HSP := Lib.hid sp
      have HLC := Lib.hid lc
      have HLP := Lib.hid lp
      clear hc ht lct hV hTk sc sp lc lp lpt hcv hpt
      unfold S at *
      go_wp2_with fail
      (with_reducible refine AS.mono ?_)
      rintro e y1 ⟨rfl, hpa, hg1⟩
      have hn13 := srow_other h13.out h2.out.pa (by decide)
      have hn14 := srow_other h14.out h2.out.pa (by decide)
      have H13 := Lib.hid (h13.out.kept hg1 (Or.inr hn13))
      have H14 := Lib.hid (h14.out.kept hg1 (Or.inr hn14))
      have HTW := Lib.hid (TwoAt.mk hpa (h2.out.pb.kept hg1 (by have := HA.out.ab; simp; omega)) (h2.out.wa.kept hg1 (by have := HA.out.aA; simp; omega)) (h2.out.wb.kept hg1 (by have := HA.out.aB; simp; omega)))
      have HG1 := Lib.hid (grow_trans_new hg.out hg1 HA.out.la)
      have H13n := Lib.hid (srow_own H13.out)
      clear hpa hg1 h13 h14 h2 hg AS hn13 hn14
      obtain ⟨ao, cap13, rfl, _, _⟩ := srow_val H13.out
      have l13 := HLC.out
      rw [l13] at H13 H13n hz ⊢
      obtain ⟨ap, cap14, rfl, _, _⟩ := srow_val H14.out
      have l14 := HLP.out
      rw [l14] at H14 hz ⊢
      have hsx : w.heap.size ≤ y1.heap.size := HG1.out.size
      have H14n := Lib.hid (srow_own H14.out)
      have HZ0 := Lib.hid hz.out
      clear hz l13 l14
      have hw14 : (Value.slice ap i cap14).ownBlock = none ∨ (Value.slice ap i cap14).ownBlock ≠ (Value.slice ao i cap13).ownBlock := by
        rcases Nat.eq_zero_or_pos i with h0 | h0
        · left; rw [(HZ0.out h0).2]; rfl
        · right; exact (firsts_apart HLX.out H13.out H14.out h0 h0).symm
      have HW14 := Lib.hid hw14
      clear hw14
      go_wp2_with (at_builtin; go_must (refine append_str rfl _ _ rfl w.heap.size _ _ rfl H13.out V _ rfl rfl (by rw [HLC.out]; omega) hsx ?_))
      intro v1 z1 hown1 hgz1
      have HO1 := Lib.hid hown1
      have H14b := Lib.hid (H14.out.kept hgz1 HW14.out)
      have HTW1 := Lib.hid (HTW.out.keptO H13.out hgz1)
      have HG2 := Lib.hid (grow_own HG1.out hgz1 fun k hk => (H13n.out k hk).1)
      have hsx1 : w.heap.size ≤ z1.heap.size := HG2.out.size
      have hwv : v1.ownBlock = none ∨ v1.ownBlock ≠ (Value.slice ap i cap14).ownBlock := by
        rcases Nat.eq_zero_or_pos i with h0 | h0
        · rw [(HZ0.out h0).2]
          exact own_none_or
        · right
          have h1 := HO1.out
          rw [← HSC.out] at h1
          exact firsts_apart HLX.out h1 H14b.out (by omega) h0
      have HWV := Lib.hid hwv
      clear hown1 hgz1 hwv H13 H13n HW14 H14 HTW HG1 hsx HZ0
      go_wp2_with (at_builtin; go_must (refine append_str rfl _ _ rfl w.heap.size _ _ rfl H14b.out (t.take k) _ rfl rfl (by rw [HLP.out]; omega) hsx1 ?_))
      intro v2 z2 hown2 hgz2
      have HO2 := Lib.hid hown2
      have HO1b := Lib.hid (HO1.out.kept hgz2 HWV.out)
      have HTW2 := Lib.hid (HTW1.out.keptO H14b.out hgz2)
      have HG3 := Lib.hid (grow_own HG2.out hgz2 fun k hk => (srow_own H14b.out k hk).1)
      clear hown2 hgz2 HO1 HWV HTW1 HG2 H14b H14n
      go_wp2_with fail
      go_roundw
      case rel => exact ⟨i + 1, by omega, by go_num, Lib.hid (by rw [HSC.out]; exact HO1b.out), Lib.hid (by rw [HSP.out, ← HPT.out]; exact HO2.out), Lib.hid (fun h => absurd h (by omega)), HTW2, HG3⟩
      case measure => simp [intOf]; omega
    · obtain rfl : i = N := by omega
      have hmm := @run_makeMap Try.prog
      obtain ⟨ao, cap13, rfl, _, _⟩ := srow_val h13.out
      obtain ⟨ap, cap14, rfl, _, _⟩ := srow_val h14.out
      have l13 := cts_length suite X ss i
      have l14 := pts_length ss i
      rw [l13] at h13 ⊢
      rw [l14] at h14 ⊢
      obtain ⟨sb, hsb⟩ : ∃ sb, sb = wr.heap.size := ⟨_, rfl⟩
      obtain ⟨y, hy⟩ : ∃ y, y = wr.alloc (.map #[] 0) := ⟨_, rfl⟩
      have hgy : wr.grownBy y none := by rw [hy]; exact World.grownBy_alloc _ _ _
      have hs : SeenAt y sb 0 (fun _ => false) := by rw [hy, hsb]; exact seen_made wr
      have H13 := Lib.hid (h13.out.keptN hgy)
      have H14 := Lib.hid (h14.out.keptN hgy)
      have HPB := Lib.hid (h2.out.pb.kept hgy nofun)
      have HWB := Lib.hid (h2.out.wb.kept hgy nofun)
      have HGY := Lib.hid (grow_trans hg.out hgy)
      have n13B := srow_other h13.out h2.out.wb (by decide)
      have n14B := srow_other h14.out h2.out.wb (by decide)
      have n13s : (Value.slice ao i cap13).ownBlock ≠ some sb := fun e => by have := (srow_own h13.out sb e).2; omega
      have n14s : (Value.slice ap i cap14).ownBlock ≠ some sb := fun e => by have := (srow_own h14.out sb e).2; omega
      have nBs : sb ≠ B := by have := lt_of_obj h2.out.wb; omega
      have nbs : sb ≠ b := by have := Blk.lt h2.out.pb; omega
      have lsb : w.heap.size ≤ sb := by have := hg.out.size; omega
      have HS := Lib.hid hs
      have HY := Lib.hid hy
      have HSB := Lib.hid hsb
      have HN := Lib.hid (And.intro n13B (And.intro n14B (And.intro n13s n14s)))
      clear hy hsb hgy hs h13 h14 h2 hg hz n13B n14B n13s n14s l13 l14 hlt
      go_wp2_with fail
      rw [← HY.out, ← HSB.out]
      go_wp2_with fail
      clear hmm
      go_loopw [88] (fun v88 wr => ∃ j : Nat, ∃ next : Int, ∃ m : Nat, ∃ nn : Nat, ∃ seen : Int → Bool, j ≤ len4 ∧ v88 = .int .i64 j ∧ Hid (PairAt wr b B Y X suite 0 false) ∧ Hid (WnAt wr B next m) ∧ 0 ≤ next ∧ next ≤ 1099511627777 ∧ m < 18446744073709551616 ∧ nn ≤ j ∧ Hid (SeenAt wr sb nn seen) ∧ Hid (WnJust next m 0 seen) ∧ Hid (srow wr w.heap.size (.slice ao i cap13) (cts suite X ss i)) ∧ Hid (srow wr w.heap.size (.slice ap i cap14) (pts ss i)) ∧ Hid (w.grownBy wr none)) (fun v88 _ => len4 - (intOf v88).toNat)
      case atStart => exact ⟨0, 0, 0, 0, fun _ => false, by omega, rfl, HPB, HWB, by omega, by omega, by omega, by omega, HS, Lib.hid (WnJust.start (by omega)), H13, H14, HGY⟩
      case round =>
        clear HPB HWB HS H13 H14 HGY
        obtain ⟨j, next, m, nn, seen, hj, rfl, hpb, hwb, n0, n1, m1, hnn, hs, hJ, h13, h14, hg⟩ := hrel
        by_cases hlt : j < len4
        · obtain ⟨xb, rfl, hc, hw⟩ := HF.out j hlt
          have hc2 := hg.out.cell hc (by simp)
          obtain ⟨v, hv⟩ : ∃ v, v = f j := ⟨_, rfl⟩
          rw [← hv] at hc2 hw
          have hw' := wf_i64_of hw
          clear hc hv
          rcases Nat.eq_zero_or_pos i with h0 | h0
          · subst h0
            go_wp2_with fail
            go_ret
            exact ⟨rfl, grow_below hg.out _ (Nat.le_refl _) (by simp)⟩
          · obtain ⟨r, hr, R⟩ := rest_nat v i (i : Int) rfl hw'.1 hw'.2 h0 (by omega)
            have q0 : ((i : Int) == 0) = false := by rw [beq_eq_false_iff_ne]; omega
            clear hw hw'
            obtain ⟨g13, c13, e13, _, _, _, _, d13⟩ := srow_cells h13.out (List.ne_nil_of_length_pos (by rw [cts_length]; exact h0))
            obtain ⟨g14, c14, e14, _, _, _, _, d14⟩ := srow_cells h14.out (List.ne_nil_of_length_pos (by rw [pts_length]; exact h0))
            injection e13 with e13a e13b e13c
            injection e14 with e14a e14b e14c
            subst e13a e14a
            clear e13b e14b e13c e14c
            have k13 := d13 r (by rw [cts_length]; exact hr)
            have k14 := d14 r (by rw [pts_length]; exact hr)
            have e1 : (cts suite X ss i)[r]'(by rw [cts_length]; exact hr) = sealN suite X r [] (ptL ss r) := by simp [cts, ctL]
            have e2 : (pts ss i)[r]'(by rw [pts_length]; exact hr) = ptL ss r := by simp [pts]
            rw [e1] at k13
            rw [e2] at k14
            have hck := hJ.out.check (x := (r : Int)) (by omega) (by omega) (by omega) (by omega)
            have hwf : (Lit.int .i64 (r : Int)).wf = true := wf_i64 (by omega)
            have hok := wnTake_ok next m (r : Int) n0 n1 m1
            have b13 : (some g13 : Option Nat) ≠ some B := HN.out.1
            have b14 : (some g14 : Option Nat) ≠ some B := HN.out.2.1
            have HTX := Lib.hid (ptL_length ss r)
            have k13' : wr.cell? ((⟨g13, 0, none⟩ : Addr).add r) = some (S (sealN suite X r [] (ptL ss r))) := by
              rw [add_off]
              exact k13
            rcases hsr : seen (r : Int) with _ | _
            · rw [hsr] at hck
              have AO : Calls Try.prog 9 #[.pointer (some ⟨b, 0, none⟩), .int .i64 (r : Int), S (sealN suite X r [] (ptL ss r)), .int .i64 0] wr (Opened1 wr b B Y X suite 0 false (ptL ss r) next m r) := code_propen wr b B Y X suite 0 H12.out false hpb.out (by have := HA.out.bB; omega) HLX.out 0 (by omega) r (by omega) (ptL ss r) (by have := HTX.out; omega) next m hwb.out n0 n1 m1 hck
              have HSR := Lib.hid hsr
              have HJ2 := Lib.hid (hJ.out.take (n := (r : Int)) (by omega) (by omega) (by omega) (by omega))
              unfold Opened1 at AO
              obtain ⟨V, hV⟩ : ∃ V, V = sealN suite X r [] (ptL ss r) := ⟨_, rfl⟩
              obtain ⟨Tx, hTx⟩ : ∃ Tx, Tx = ptL ss r := ⟨_, rfl⟩
              rw [← hV] at k13 k13' AO
              rw [← hTx] at k14 AO
              clear hV hTx hck hJ hsr e1 e2 d13 d14
              unfold S at *
              go_wp2_with fail
              (with_reducible refine (R _).mono ?_)
              rintro e z0 ⟨rfl, rfl⟩
              go_wp2_with fail
              (with_reducible refine AO.mono ?_)
              rintro e z1 ⟨rfl, hpb1, hwb1, hg1⟩
              have hs1 := hs.out.kept hg1 (by simp; omega)
              have hlook := hs1.look hwf
              rw [HSR.out] at hlook
              have k14' : z1.cell? ⟨g14, r, none⟩ = some (.string ⟨Tx.toArray⟩) := hg1.cell (a := ⟨g14, r, none⟩) k14 b14
              have k14'' : z1.cell? ((⟨g14, 0, none⟩ : Addr).add r) = some (.string ⟨Tx.toArray⟩) := by
                rw [add_off]
                exact k14'
              obtain ⟨z2, hrun, hs2, hg2⟩ := hs1.put hwf (by unfold maxLen; omega)
              have HP2 := Lib.hid (hpb1.kept hg2 (by simp; omega))
              have HW2 := Lib.hid (hwb1.kept hg2 (by simp; omega))
              have HS2 := Lib.hid hs2
              have H13 := Lib.hid ((h13.out.kept hg1 (Or.inr HN.out.1)).kept hg2 (Or.inr HN.out.2.2.1))
              have H14 := Lib.hid ((h14.out.kept hg1 (Or.inr HN.out.2.1)).kept hg2 (Or.inr HN.out.2.2.2))
              have HG2 := Lib.hid (grow_trans_new (grow_trans_new hg.out hg1 HA.out.lB) hg2 lsb)
              clear hpb1 hwb1 hs1 hs2 hg1 hg2 hpb hwb hs h13 h14 hg AO R k13 k13' k14 b13 b14
              go_wp2_with fail
              go_roundw
              case rel => exact ⟨j + 1, _, _, nn + 1, _, by omega, by go_num, HP2, HW2, by have := hok.1; omega, hok.2.1, hok.2.2.1, by omega, HS2, HJ2, H13, H14, HG2⟩
              case measure => simp [intOf]; omega
            · rw [hsr] at hck
              have AO : Calls Try.prog 9 #[.pointer (some ⟨b, 0, none⟩), .int .i64 (r : Int), S (sealN suite X r [] (ptL ss r)), .int .i64 0] wr (Grown (.tuple #[S [], .int .i64 11]) wr) := code_propen_no wr b B Y X suite 0 false hpb.out 0 (by omega) r hwf _ next m hwb.out n0 n1 m1 11 hck rfl
              have HSR := Lib.hid hsr
              have hfun : (fun x => seen x || decide (x = (r : Int))) = seen := by
                funext x
                by_cases hx : x = (r : Int)
                · rw [hx, hsr]; rfl
                · simp [hx]
              have HFUN := Lib.hid hfun
              obtain ⟨V, hV⟩ : ∃ V, V = sealN suite X r [] (ptL ss r) := ⟨_, rfl⟩
              rw [← hV] at k13 k13' AO
              clear hV hck hsr e1 e2 d13 d14 k14 hok hfun
              unfold S at *
              go_wp2_with fail
              (with_reducible refine (R _).mono ?_)
              rintro e z0 ⟨rfl, rfl⟩
              go_wp2_with fail
              (with_reducible refine AO.mono ?_)
              rintro e z1 ⟨rfl, hg1⟩
              have hs1 := hs.out.kept hg1 nofun
              have hlook := hs1.look hwf
              rw [HSR.out] at hlook
              obtain ⟨z2, hrun, hs2, hg2⟩ := hs1.put hwf (by unfold maxLen; omega)
              rw [HFUN.out] at hs2
              have HP2 := Lib.hid ((hpb.out.kept hg1 nofun).kept hg2 (by simp; omega))
              have HW2 := Lib.hid ((hwb.out.kept hg1 nofun).kept hg2 (by simp; omega))
              have HS2 := Lib.hid hs2
              have H13 := Lib.hid ((h13.out.keptN hg1).kept hg2 (Or.inr HN.out.2.2.1))
              have H14 := Lib.hid ((h14.out.keptN hg1).kept hg2 (Or.inr HN.out.2.2.2))
              have HG2 := Lib.hid (grow_trans_new (grow_trans hg.out hg1) hg2 lsb)
              clear hs1 hs2 hg1 hg2 hpb hwb hs h13 h14 hg AO R k13 k13' b13 b14
              go_wp2_with fail
              go_roundw
              case rel => exact ⟨j + 1, next, m, nn + 1, seen, by omega, by go_num, HP2, HW2, n0, n1, m1, by omega, HS2, hJ, H13, H14, HG2⟩
              case measure => simp [intOf]; omega
        · go_wp2_with fail
          go_ret
          exact ⟨rfl, grow_below hg.out _ (Nat.le_refl _) (by simp)⟩

end Go.Proofs.Ytffeekfofbcobaa
