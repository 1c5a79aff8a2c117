/- AES: the columns. -/
import Derived.Test.YtffeekfofbcobaaAesBlock
import Derived.StillTailTactics
namespace Go.Proofs.Ytffeekfofbcobaa
open Go.RowKit
set_option linter.unusedVariables false

def colK (y b : List UInt8) (i : Nat) : List UInt8 := (colsL y b).take i ++ b.drop i
theorem colK_length (y b : List UInt8) (hb : b.length = 16) (i : Nat) : (colK y b i).length = 16 := by
  unfold colK
  rw [List.length_append, List.length_take, List.length_drop, colsL_length, hb]
  omega
theorem colK_set (y b : List UInt8) (hb : b.length = 16) (i : Nat) (hi : i < 16) : (colK y b i).set i (colF y b i 4) = colK y b (i + 1) := by
  have e1 : (colsL y b)[i]'(by rw [colsL_length]; exact hi) = colF y b i 4 := by
    unfold colsL
    rw [List.getElem_map, List.getElem_range]
  have e2 : b.drop i = b[i]'(by omega) :: b.drop (i + 1) := List.drop_eq_getElem_cons _
  unfold colK
  rw [List.set_append_right _ _ (by rw [List.length_take]; omega), List.length_take, colsL_length, Nat.min_eq_left (Nat.le_of_lt hi), Nat.sub_self, e2, List.set_cons_zero]
  rw [List.take_succ_eq_append_getElem (by rw [colsL_length]; exact hi), e1, List.append_assoc]
  rfl

def YB (w : World) (B : Nat) (l : List UInt8) : Prop := Blk w B 159 (l.map bcell)
theorem YB.cell {w : World} {B : Nat} {l : List UInt8} (h : YB w B l) (i : Nat) (hi : i < l.length) : w.cell? ⟨B, i, none⟩ = some (.int .u8 (l[i].toNat : Int)) := by
  rw [Blk.cell h]
  simp [bcell, hi]

set_option maxRecDepth 20000 in
set_option maxHeartbeats 1000000 in
theorem code_acols (w : World) (B : Nat) (y l : List UInt8) (hB : BB w B l) (hl : l.length = 16) (hy : y.length = 4) :
    Calls Try.prog 125 #[.pointer (some ⟨B, 0, none⟩), .agg (y.map bcell).toArray] w fun e w' => e = .returned (.tuple #[]) ∧ BB w' B (colsL y l) ∧ w.grownBy w' (some B) := by
  have HL := Lib.hid hl
  have HY := Lib.hid hy
  have info16 : (Try.prog.info? 166).map (·.size) = some (l.map bcell).length := by rw [List.length_map, hl]; kernel_rfl
  have HI := Lib.hid info16
  have hsv := fun W : World => run_store_new (P := Try.prog) W #[.int .u8 0, .int .u8 0, .int .u8 0, .int .u8 0, .int .u8 0, .int .u8 0, .int .u8 0, .int .u8 0, .int .u8 0, .int .u8 0, .int .u8 0, .int .u8 0, .int .u8 0, .int .u8 0, .int .u8 0, .int .u8 0] 166 (l.map bcell) (by simp [hl]) (by intro v hv; obtain ⟨c, _, rfl⟩ := List.mem_map.1 hv; rfl)
  clear hl hy info16
  go_enter Try.func125, Try.ntmps125
  go_upto_region 1 with (fail)
  have hBx : BB (w.alloc (.cells (y.map bcell).toArray 159)) B l := Blk.kept hB (World.grownBy_alloc _ _ none) (by simp)
  have hYx : YB (w.alloc (.cells (y.map bcell).toArray 159)) w.heap.size y := Blk.new w _ _
  have hgx : w.grownBy (w.alloc (.cells (y.map bcell).toArray 159)) (some B) := grow_alloc (grow_refl w _) _
  have hBY : B < w.heap.size := Blk.lt hB
  generalize w.alloc (.cells (y.map bcell).toArray 159) = v at *
  obtain ⟨Y, hY⟩ : ∃ Y, Y = w.heap.size := ⟨_, rfl⟩
  rw [← hY] at hYx hBY ⊢
  clear hY hB
  refine wp_region_lit ?_
  refine Go.Great.wpList_readTo rfl _ rfl (.pointer (some ⟨B, 0, none⟩)) rfl ?_
  refine Go.Great.wpList_readTo rfl _ rfl (.pointer (some ⟨B, 0, none⟩)) rfl ?_
  refine wpList_load_mid rfl 166 _ rfl B 0 rfl (l.map bcell) _ (Blk.range hBx) Try.underlying166 rfl HI.out ?_
  go_upto_region 2 with (fail)
  clear hsv
  have hYlt : Y < v.heap.size := Blk.lt hYx
  have hC0 : BB (v.alloc (.cells (l.map bcell).toArray 166)) v.heap.size l := Blk.new v _ _
  have hY0 : YB (v.alloc (.cells (l.map bcell).toArray 166)) Y y := Blk.kept hYx (World.grownBy_alloc _ _ none) (by simp)
  have hB0 : BB (v.alloc (.cells (l.map bcell).toArray 166)) B (colK y l 0) := Blk.kept hBx (World.grownBy_alloc _ _ none) (by simp)
  have hg0 : w.grownBy (v.alloc (.cells (l.map bcell).toArray 166)) (some B) := grow_alloc hgx _
  obtain ⟨C, hC⟩ : ∃ C, C = v.heap.size := ⟨_, rfl⟩
  rw [← hC] at hC0 hYlt ⊢
  clear hC hYx hBx hgx
  generalize v.alloc (.cells (l.map bcell).toArray 166) = x at *
  have HC := Lib.hid hC0
  have HYY := Lib.hid hY0
  clear hC0 hY0
  go_wp2_with fail
  go_loopw [12] (fun vi wr => ∃ i : Nat, i ≤ 16 ∧ vi = .int .i64 i ∧ BB wr B (colK y l i) ∧ x.grownBy wr (some B)) (fun vi _ => 16 - (intOf vi).toNat)
  case atStart => exact ⟨0, by omega, rfl, hB0, grow_refl _ _⟩
  case round =>
    clear hB0
    obtain ⟨i, hi, rfl, hK, hg⟩ := hrel
    have kl := colK_length y l HL.out i
    by_cases hlt : i < 16
    · have hs := Lib.hid (colK_set y l HL.out i hlt)
      have hd : decide ((i : Int) < 16) = true := by simp; omega
      have ci := hK.cell i (by omega)
      have fi := Blk.frozen hK i
      have hst : BB (wr.setCell ⟨B, i, none⟩ (.int .u8 0)) B ((colK y l i).set i (colF y l i 0)) := hK.set i 0
      have hgs := grow_setCell hg i (.int .u8 0)
      generalize (colK y l i)[i]'_ = d at *
      generalize colK y l i = L at *
      have HS := Lib.hid (And.intro hst hgs)
      clear hst hgs hK hg
      go_wp2_with fail
      go_loopw [23] (fun vk wk => ∃ k : Nat, k ≤ 4 ∧ vk = .int .i64 k ∧ BB wk B (L.set i (colF y l i k)) ∧ x.grownBy wk (some B)) (fun vk _ => 4 - (intOf vk).toNat)
      case atStart => exact ⟨0, by omega, rfl, HS.out.1, HS.out.2⟩
      case round =>
        clear HS fi ci
        obtain ⟨k, hk, rfl, hK, hg⟩ := hrel
        by_cases hlk : k < 4
        · obtain ⟨m, hm⟩ : ∃ m : Nat, m = (k + 4 - i % 4) % 4 := ⟨_, rfl⟩
          obtain ⟨n, hn⟩ : ∃ n : Nat, n = 4 * (i / 4) + k := ⟨_, rfl⟩
          have hml : m < y.length := by have := HY.out; omega
          have hnl : n < l.length := by have := HL.out; omega
          have q1 : ((k : Int) - (i : Int) % 4 + 4) % 4 = (m : Int) := by omega
          have q1t : Int.tmod ((k : Int) - (i : Int) % 4 + 4) 4 = (m : Int) := by rw [Int.tmod_eq_emod_of_nonneg (by omega)]; exact q1
          have q1a : IntKind.i64.wrap ((k : Int) - (i : Int) % 4) = (k : Int) - (i : Int) % 4 := IntWalk.i64_in _ (by omega)
          have q1b : IntKind.i64.wrap ((k : Int) - (i : Int) % 4 + 4) = (k : Int) - (i : Int) % 4 + 4 := IntWalk.i64_in _ (by omega)
          have q2a : IntKind.i64.wrap (4 * ((i : Int) / 4)) = 4 * ((i : Int) / 4) := IntWalk.i64_in _ (by omega)
          have q2b : IntKind.i64.wrap (4 * ((i : Int) / 4) + (k : Int)) = 4 * ((i : Int) / 4) + (k : Int) := IntWalk.i64_in _ (by omega)
          have q1n : (0 : Int) ≤ (k : Int) - (i : Int) % 4 + 4 := by omega
          have q2 : 4 * ((i : Int) / 4) + (k : Int) = (n : Int) := by omega
          have q2c : IntKind.i64.wrap (n : Int) = (n : Int) := IntWalk.i64_in _ (by omega)
          have q1c : IntKind.i64.wrap (m : Int) = (m : Int) := IntWalk.i64_in _ (by omega)
          have i0 : (0 : Int) ≤ (i : Int) := by omega
          have i1 : (i : Int) < 16 := by omega
          have m0 : (0 : Int) ≤ (m : Int) := by omega
          have m1 : (m : Int) < 4 := by omega
          have n0 : (0 : Int) ≤ (n : Int) := by omega
          have n1 : (n : Int) < 16 := by omega
          have hCr : BB wr C l := Blk.kept HC.out hg (by simp; omega)
          have hYr : YB wr Y y := Blk.kept HYY.out hg (by simp; omega)
          have cm := hYr.cell m hml
          have cn := hCr.cell n hnl
          have ci := hK.cell i (by rw [List.length_set]; omega)
          rw [List.getElem_set_self] at ci
          have fi := Blk.frozen hK i
          have hnext : colF y l i (k + 1) = colF y l i k ^^^ gmulB y[m] l[n] := by
            rw [colF, ← hm, ← hn, List.getD_eq_getElem?_getD, List.getElem?_eq_getElem hml, List.getD_eq_getElem?_getD, List.getElem?_eq_getElem hnl]
            rfl
          have hst := hK.set i (colF y l i (k + 1))
          rw [List.set_set] at hst
          have hgs := grow_setCell hg i (.int .u8 ((colF y l i (k + 1)).toNat : Int))
          have HS := Lib.hid (And.intro hst hgs)
          have A1 : ∀ W : World, Calls Try.prog 116 #[.int .u8 (y[m].toNat : Nat), .int .u8 (l[n].toNat : Nat)] W fun e w' => e = .returned (.int .u8 ((gmulB y[m] l[n]).toNat : Nat)) ∧ W = w' := fun W => by
            rw [toNat_gmulB]
            exact galois_mul _ _ W (u8_lt _) (u8_lt _)
          have xb := xor_byte (colF y l i k) (gmulB y[m] l[n])
          rw [← hnext] at xb
          clear hm hn hst hgs hK hg hCr hYr hnext
          generalize gmulB y[m] l[n] = g at *
          generalize y[m] = cy at *
          generalize l[n] = cl at *
          obtain ⟨cb, hcb⟩ : ∃ c, c = colF y l i (k + 1) := ⟨_, rfl⟩
          rw [← hcb] at xb HS
          have HCB := Lib.hid hcb
          clear hcb
          generalize colF y l i k = ca at *
          clear hml hnl
          go_wp2_with fail
          go_still_tail 22, (by kernel_rfl)
          still_call ((A1 _).mono (fun e w' h => ⟨h.1, h.2.symm⟩))
          repeat still_step
          refine wpStill_nil ?_
          change wpList _ _ _ _ _ wr.drew
          go_wp2_with fail
          go_roundw
          case rel => exact ⟨k + 1, by omega, by go_num, by rw [← HCB.out]; exact HS.out.1, grow_drew HS.out.2⟩
          case measure => simp [intOf]; omega
        · obtain rfl : k = 4 := by omega
          rw [hs.out] at hK
          go_wp2_with fail
          go_roundw
          case rel => exact ⟨i + 1, by omega, by go_num, hK, hg⟩
          case measure => simp [intOf]; omega
    · obtain rfl : i = 16 := by omega
      have e : colK y l 16 = colsL y l := by
        unfold colK
        rw [List.drop_of_length_le (by have := HL.out; omega), List.append_nil, List.take_of_length_le (by rw [colsL_length]; omega)]
      rw [e] at hK
      go_wp2_with fail
      go_end0
      exact ⟨rfl, hK, grow_trans hg0 hg⟩

end Go.Proofs.Ytffeekfofbcobaa
