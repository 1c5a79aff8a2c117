/-
  Several texts of this claim in one: Block, SubKey, Stream, StreamPlain, SealPlain, Seal, Pair, SealOpen, GcmOpen, NoiseOps, PairSeal, Rest, RestNat, Paired, PairOldLaw.
-/
import Derived.Test.YtffeekfofbcobaaText
import Derived.Test.YtffeekfofbcobaaXorPlain
import Derived.Test.YtffeekfofbcobaaTagPlain
import Derived.Test.YtffeekfofbcobaaTagW
import Derived.Test.YtffeekfofbcobaaWindow
import Derived.Test.YtffeekfofbcobaaZeros
import Derived.Test.YtffeekfofbcobaaRow
import Derived.Test.YtffeekfofbcobaaGcmSeal
import Derived.Test.YtffeekfofbcobaaWxor
import Derived.Test.YtffeekfofbcobaaNoiseSeal
import Derived.Test.YtffeekfofbcobaaBase
import Derived.Test.YtffeekfofbcobaaSized
namespace Go.Proofs.Ytffeekfofbcobaa
open Go.RowKit
set_option linter.unusedVariables false

/-- Two states, number by number. -/
def addW (a b : List Nat) : List Nat := List.zipWith add32 a b
def stateL (key rest : List UInt8) : List Nat := begun (key ++ rest)
def blockW (s : List Nat) : List Nat := addW (stirred s) s
def blockL (key nonce : List UInt8) (n : Nat) : List UInt8 := textW (blockW (stateL key (leB n 4 ++ nonce)))

theorem blockW_length {s : List Nat} (hs : Small s) (hl : s.length = 16) : (blockW s).length = 16 := by
  have := (roundsK_ok hs hl 10).2
  unfold blockW addW stirred
  rw [List.length_zipWith, this, hl]
  rfl

theorem blockL_length (key nonce : List UInt8) (n : Nat) : (blockL key nonce n).length = 64 := by
  unfold blockL
  rw [textW_length, blockW_length (s := stateL key (leB n 4 ++ nonce)) (begK_ok _ 12).1 (begK_ok _ 12).2]

def noText : Value := .tuple #[S [], .int .i64 1]
def Blocked (l : List UInt8) (w : World) (e : Ending) (w' : World) : Prop := e = .returned (.tuple #[S l, .int .i64 0]) ∧ w.grownBy w' none

theorem code_block_err (w : World) (key nonce : List UInt8) (n : Int) (hk : key.length ≤ 9223372036854775807) (hn : nonce.length ≤ 9223372036854775807) (h : ¬ (key.length = 32 ∧ nonce.length = 12)) :
    Calls Try.prog 65 #[S key, S nonce, .int .u32 n] w fun e w' => e = .returned noText ∧ w = w' := by
  have hc : checkN key nonce 12 = 1 := by unfold checkN; rw [if_neg h]
  have HC := Lib.hid hc
  clear hc h
  unfold S
  go_enter Try.func65, Try.ntmps65
  go_wp2_with fail
  refine (code_check w key nonce 12 hk hn (by omega)).mono ?_
  rintro e w1 ⟨rfl, rfl⟩
  rw [HC.out]
  go_wp2_with fail
  go_ret2
  exact ⟨rfl, rfl⟩

/-- The first k sums. -/
def sumK (v s : List Nat) : Nat → List Nat
  | 0 => v
  | k + 1 => (sumK v s k).set k (add32 (v.getD k 0) (s.getD k 0))

theorem sumK_length (v s : List Nat) (k : Nat) : (sumK v s k).length = v.length := by
  induction k with
  | zero => rfl
  | succ k ih => rw [sumK, List.length_set, ih]

theorem sumK_get (v s : List Nat) (k : Nat) : ∀ j, (sumK v s k)[j]? = if j < k then (v[j]?).map (fun x => add32 x (s.getD j 0)) else v[j]? := by
  induction k with
  | zero => intro j; simp [sumK]
  | succ k ih =>
    intro j
    rw [sumK, List.getElem?_set]
    by_cases e : k = j
    · subst e
      rw [if_pos rfl, sumK_length, if_pos (show k < k + 1 by omega)]
      by_cases q : k < v.length
      · simp [q, List.getD]
      · simp [q]
    · rw [if_neg e, ih]
      by_cases q : j < k
      · rw [if_pos q, if_pos (by omega)]
      · rw [if_neg q, if_neg (by omega)]

theorem sumK_all (v s : List Nat) (h : v.length = s.length) : sumK v s v.length = addW v s := by
  apply List.ext_getElem?
  intro j
  rw [sumK_get, addW, List.getElem?_zipWith]
  by_cases q : j < v.length
  · rw [if_pos q]
    have q2 : j < s.length := by omega
    simp [List.getElem?_eq_getElem q, List.getElem?_eq_getElem q2, List.getD]
  · rw [if_neg q, List.getElem?_eq_none (by omega)]

theorem sumK_next (v s : List Nat) (k : Nat) (hk : k < v.length) : (sumK v s k).getD k 0 = v.getD k 0 := by
  rw [List.getD_eq_getElem?_getD, sumK_get, if_neg (by omega), List.getD_eq_getElem?_getD]

set_option maxRecDepth 20000 in
set_option maxHeartbeats 4000000 in
theorem code_block (w : World) (key nonce : List UInt8) (n : Nat) (hk : key.length = 32) (hn : nonce.length = 12) (h32 : n < 4294967296) :
    Calls Try.prog 65 #[S key, S nonce, .int .u32 n] w (Blocked (blockL key nonce n) w) := by
  have hc : checkN key nonce 12 = 0 := by unfold checkN; rw [if_pos ⟨hk, hn⟩]
  have HC := Lib.hid hc
  obtain ⟨st, hst⟩ : ∃ s, s = stateL key (leB n 4 ++ nonce) := ⟨_, rfl⟩
  have hbl : blockL key nonce n = textW (addW (stirred st) st) := by rw [hst]; rfl
  have hs1 : Small st := by rw [hst]; exact (begK_ok _ 12).1
  have hs2 : st.length = 16 := by rw [hst]; exact (begK_ok _ 12).2
  obtain ⟨v, hv⟩ : ∃ v, v = stirred st := ⟨_, rfl⟩
  have hv1 : Small v := by rw [hv]; exact (roundsK_ok hs1 hs2 10).1
  have hv2 : v.length = 16 := by rw [hv]; exact (roundsK_ok hs1 hs2 10).2
  rw [hbl, ← hv]
  have HST := Lib.hid (show A16 (begun (key ++ (leB n 4 ++ nonce))) = A16 st from by rw [hst]; rfl)
  have HV := Lib.hid (show A16 (stirred st) = A16 v from by rw [hv])
  have hl48 : (key ++ (leB n 4 ++ nonce)).length = 48 := by simp [leB_length, hk, hn]
  have HL := Lib.hid hl48
  have HB4 := Lib.hid (leB_length n 4)
  have lk : key.length ≤ 32 := by omega
  have ln : nonce.length ≤ 12 := by omega
  clear hc hst hbl hv hl48 hk hn
  have r1 := rule_app
  have e1 : IntKind.u64.wrap (n : Int) = (n : Int) := IntWalk.u64_in _ (by omega)
  unfold S
  go_enter Try.func65, Try.ntmps65
  go_wp2_with fail
  refine (code_check w key nonce 12 (by omega) (by omega) (by omega)).mono ?_
  rintro e w1 ⟨rfl, rfl⟩
  rw [HC.out]
  go_wp2_with fail
  refine (wire_appendLittle w w.heap.size (.slice none 0 0) [] n 4 (brow_nil _ _) (by omega) (by omega) (by simp) (by omega)).mono ?_
  rintro e w1 ⟨b1, rfl, hown, hB1⟩
  have hcv := conv_brow hown
  rw [List.nil_append] at hcv
  have hlen : (leB n 4).length + nonce.length ≤ 9223372036854775807 := by rw [HB4.out]; omega
  unfold S at hcv
  have hg1 : w.grownBy w1 none := grow_of_below hB1
  clear hown hB1
  go_wp2_with fail
  clear hcv hlen
  refine (code_begun w1 key (leB n 4 ++ nonce) HL.out).mono ?_
  rintro e w2 ⟨rfl, hg2⟩
  rw [HST.out]
  have hg := grow_trans hg1 hg2
  clear hg1 hg2
  unfold A16
  have hsn := fun W : World => run_store_new (P := Try.prog) W #[Value.int IntKind.u32 0, Value.int IntKind.u32 0, Value.int IntKind.u32 0, Value.int IntKind.u32 0, Value.int IntKind.u32 0, Value.int IntKind.u32 0, Value.int IntKind.u32 0, Value.int IntKind.u32 0, Value.int IntKind.u32 0, Value.int IntKind.u32 0, Value.int IntKind.u32 0, Value.int IntKind.u32 0, Value.int IntKind.u32 0, Value.int IntKind.u32 0, Value.int IntKind.u32 0, Value.int IntKind.u32 0] 113 (st.map wcell) (by simp [hs2]) (wcells_mem st)
  go_upto_region 5 with (fail)
  clear hsn e1
  have hB9 : Blk (w2.alloc (.cells (st.map wcell).toArray 113)) w2.heap.size 113 (st.map wcell) := Blk.new w2 _ _
  have hg9 : w.grownBy (w2.alloc (.cells (st.map wcell).toArray 113)) none := grow_alloc hg _
  have hz9 : w.heap.size ≤ w2.heap.size := hg.size
  generalize w2.alloc (.cells (st.map wcell).toArray 113) = x at *
  generalize w2.heap.size = B at *
  clear hg
  have hi2 : (Try.prog.info? 113).map (·.size) = some (st.map wcell).length := by rw [List.length_map, hs2]; exact info16
  have HRg := Lib.hid hB9.range
  have HI := Lib.hid hi2
  clear hi2
  refine wp_region_lit ?_
  refine wpList_load_mid rfl 113 _ rfl B 0 rfl (st.map wcell) _ HRg.out Try.underlying113 rfl HI.out ?_
  go_wp2_with fail
  refine (code_stirred x st hs2 hs1).mono ?_
  rintro e x3 ⟨rfl, hg3⟩
  rw [HV.out]
  unfold A16
  have hsv := fun W : World => run_store_new (P := Try.prog) W #[Value.int IntKind.u32 0, Value.int IntKind.u32 0, Value.int IntKind.u32 0, Value.int IntKind.u32 0, Value.int IntKind.u32 0, Value.int IntKind.u32 0, Value.int IntKind.u32 0, Value.int IntKind.u32 0, Value.int IntKind.u32 0, Value.int IntKind.u32 0, Value.int IntKind.u32 0, Value.int IntKind.u32 0, Value.int IntKind.u32 0, Value.int IntKind.u32 0, Value.int IntKind.u32 0, Value.int IntKind.u32 0] 113 (v.map wcell) (by simp [hv2]) (wcells_mem v)
  go_upto_region 6 with (fail)
  clear hsv
  have hBs := (hB9.kept hg3 (by simp)).kept (World.grownBy_alloc x3 (.cells (v.map wcell).toArray 113) none) (by simp)
  have hBv : Blk (x3.alloc (.cells (v.map wcell).toArray 113)) x3.heap.size 113 (v.map wcell) := Blk.new x3 _ _
  have hgx : w.grownBy (x3.alloc (.cells (v.map wcell).toArray 113)) none := grow_alloc (grow_trans hg9 hg3) _
  have hzx : w.heap.size ≤ x3.heap.size := (grow_trans hg9 hg3).size
  have hlt9 : B < x3.heap.size := (hB9.kept hg3 (by simp)).lt
  generalize x3.alloc (.cells (v.map wcell).toArray 113) = y at *
  generalize x3.heap.size = C at *
  clear hg3 hg9 hB9 HRg
  have HBs := Lib.hid hBs
  have HBv := Lib.hid hBv
  have HGX := Lib.hid hgx
  clear hBs hBv hgx
  go_wp2_with fail
  go_loopw [28] (fun vi wr => ∃ k : Nat, k ≤ 16 ∧ vi = .int .i64 k ∧ WB wr C (sumK v st k) ∧ y.grownBy wr (some C)) (fun vi _ => 16 - (intOf vi).toNat)
  case atStart => exact ⟨0, by omega, rfl, HBv.out, grow_refl _ _⟩
  case round =>
    obtain ⟨k, hk, rfl, hW, hg⟩ := hrel
    by_cases hlt : k < 16
    · have hS : WB wr B st := (HBs.out).kept hg (by simp; omega)
      have c1 := hW.cell k (by rw [sumK_length]; omega)
      have c2 := hS.cell k (by omega)
      have f1 := hW.frozen k
      rw [sumK_next v st k (by omega)] at c1
      have hnew : WB (wr.setCell ⟨C, k, none⟩ (.int .u32 (add32 (v.getD k 0) (st.getD k 0) : Nat))) C (sumK v st (k + 1)) := hW.set k _
      have hgn : y.grownBy (wr.setCell ⟨C, k, none⟩ (.int .u32 (add32 (v.getD k 0) (st.getD k 0) : Nat))) (some C) := grow_setCell hg k _
      have ha := add32_val (v.getD k 0) (st.getD k 0)
      generalize v.getD k 0 = a at *
      generalize st.getD k 0 = b at *
      generalize add32 a b = c at *
      have HH := Lib.hid (And.intro hnew hgn)
      clear hnew hgn hS hW
      go_wp2_with fail
      go_region
      go_wp2_with fail
      go_roundw
      case rel => exact ⟨k + 1, by omega, by go_num, by first | exact HH.out.1 | (rw [← ha] at HH; exact HH.out.1), by first | exact grow_drew HH.out.2 | (rw [← ha] at HH; exact grow_drew HH.out.2)⟩
      case measure => simp [intOf]; omega
    · obtain rfl : k = 16 := by omega
      have hsum : sumK v st 16 = addW v st := by rw [← hv2]; exact sumK_all v st (by omega)
      rw [hsum] at hW
      have hal : (addW v st).length = 16 := by unfold addW; rw [List.length_zipWith]; omega
      have hsm : ∀ n ∈ addW v st, n < 4294967296 := by
        intro n hn
        unfold addW at hn
        obtain ⟨i, hi, rfl⟩ := List.getElem_of_mem hn
        rw [List.getElem_zipWith]
        exact Nat.mod_lt _ (by omega)
      have hWA : WAt wr C 0 (addW v st) := fun i hi => by
        have := hW.cell i hi
        rw [Nat.zero_add, this, List.getD_eq_getElem?_getD, List.getElem?_eq_getElem hi]
        rfl
      have hgf := grow_trans_new HGX.out hg hzx
      have hClt : C < wr.heap.size := lt_of_obj hW
      have HA := Lib.hid hal
      have HSM := Lib.hid hsm
      clear hsum hal hsm hW hg
      generalize addW v st = L at *
      go_wp2_with fail
      have hT := code_text wr C 0 16 L hWA (by rw [HA.out]; omega) HSM.out hClt
      rw [HA.out] at hT
      refine hT.mono ?_
      rintro e w5 ⟨rfl, hB5⟩
      unfold S
      go_wp2_with fail
      go_ret2
      exact ⟨rfl, grow_trans hgf (grow_of_below hB5)⟩

end Go.Proofs.Ytffeekfofbcobaa

namespace Go.Proofs.Ytffeekfofbcobaa
open Go.RowKit
set_option linter.unusedVariables false

def subL (key nonce : List UInt8) : List UInt8 := textW ((stirred (stateL key nonce)).take 4) ++ textW ((stirred (stateL key nonce)).drop 12)

theorem stirred_length (key nonce : List UInt8) : (stirred (stateL key nonce)).length = 16 := (roundsK_ok (begK_ok _ 12).1 (begK_ok _ 12).2 10).2

theorem subL_length (key nonce : List UInt8) : (subL key nonce).length = 32 := by
  unfold subL
  rw [List.length_append, textW_length, textW_length, List.length_take, List.length_drop, stirred_length]
  rfl

theorem small_mem {l : List Nat} (h : Small l) (n : Nat) (hn : n ∈ l) : n < 4294967296 := by
  obtain ⟨i, hi, rfl⟩ := List.getElem_of_mem hn
  have := h i
  rwa [List.getD_eq_getElem?_getD, List.getElem?_eq_getElem hi] at this

theorem code_sub_err (w : World) (key nonce : List UInt8) (hk : key.length ≤ 9223372036854775807) (hn : nonce.length ≤ 9223372036854775807) (h : ¬ (key.length = 32 ∧ nonce.length = 16)) :
    Calls Try.prog 52 #[S key, S nonce] w fun e w' => e = .returned noText ∧ w = w' := by
  have hc : checkN key nonce 16 = 1 := by unfold checkN; rw [if_neg h]
  have HC := Lib.hid hc
  clear hc h
  unfold S
  go_enter Try.func52, Try.ntmps52
  go_wp2_with fail
  refine (code_check w key nonce 16 hk hn (by omega)).mono ?_
  rintro e w1 ⟨rfl, rfl⟩
  rw [HC.out]
  go_wp2_with fail
  go_ret2
  exact ⟨rfl, rfl⟩

set_option maxRecDepth 20000 in
set_option maxHeartbeats 400000 in
theorem code_sub (w : World) (key nonce : List UInt8) (hk : key.length = 32) (hn : nonce.length = 16) :
    Calls Try.prog 52 #[S key, S nonce] w (Blocked (subL key nonce) w) := by
  have hc : checkN key nonce 16 = 0 := by unfold checkN; rw [if_pos ⟨hk, hn⟩]
  have HC := Lib.hid hc
  obtain ⟨st, hst⟩ : ∃ s, s = stateL key nonce := ⟨_, rfl⟩
  have hs1 : Small st := by rw [hst]; exact (begK_ok _ 12).1
  have hs2 : st.length = 16 := by rw [hst]; exact (begK_ok _ 12).2
  obtain ⟨v, hv⟩ : ∃ v, v = stirred st := ⟨_, rfl⟩
  have hv1 : Small v := by rw [hv]; exact (roundsK_ok hs1 hs2 10).1
  have hv2 : v.length = 16 := by rw [hv]; exact (roundsK_ok hs1 hs2 10).2
  have hbl : subL key nonce = textW (v.take 4) ++ textW (v.drop 12) := by rw [hv, hst]; rfl
  rw [hbl]
  have HST := Lib.hid (show A16 (begun (key ++ nonce)) = A16 st from by rw [hst]; rfl)
  have HV := Lib.hid (show A16 (stirred st) = A16 v from by rw [hv])
  have HL := Lib.hid (show (key ++ nonce).length = 48 from by simp [hk, hn])
  have hz1 : (v.take 4).length = 4 := by rw [List.length_take]; omega
  have hz2 : (v.drop 12).length = 4 := by rw [List.length_drop]; omega
  have hm1 : ∀ n ∈ v.take 4, n < 4294967296 := fun n hn => small_mem hv1 n (List.mem_of_mem_take hn)
  have hm2 : ∀ n ∈ v.drop 12, n < 4294967296 := fun n hn => small_mem hv1 n (List.mem_of_mem_drop hn)
  have ht1 : (textW (v.take 4)).length = 16 := by rw [textW_length, hz1]
  have ht2 : (textW (v.drop 12)).length = 16 := by rw [textW_length, hz2]
  have lk : key.length ≤ 32 := by omega
  have ln : nonce.length ≤ 16 := by omega
  have HM := Lib.hid (And.intro hz1 (And.intro hz2 (And.intro hm1 hm2)))
  have HV2 := Lib.hid hv2
  clear hc hst hbl hv hk hn hz1 hz2 hm1 hm2 hv1
  unfold S
  go_enter Try.func52, Try.ntmps52
  go_wp2_with fail
  refine (code_check w key nonce 16 (by omega) (by omega) (by omega)).mono ?_
  rintro e w1 ⟨rfl, rfl⟩
  rw [HC.out]
  go_wp2_with fail
  refine (code_begun w key nonce HL.out).mono ?_
  rintro e w2 ⟨rfl, hg⟩
  rw [HST.out]
  unfold A16
  go_wp2_with fail
  refine (code_stirred w2 st hs2 hs1).mono ?_
  rintro e x3 ⟨rfl, hg3⟩
  rw [HV.out]
  unfold A16
  have hsv := fun W : World => run_store_new (P := Try.prog) W #[Value.int IntKind.u32 0, Value.int IntKind.u32 0, Value.int IntKind.u32 0, Value.int IntKind.u32 0, Value.int IntKind.u32 0, Value.int IntKind.u32 0, Value.int IntKind.u32 0, Value.int IntKind.u32 0, Value.int IntKind.u32 0, Value.int IntKind.u32 0, Value.int IntKind.u32 0, Value.int IntKind.u32 0, Value.int IntKind.u32 0, Value.int IntKind.u32 0, Value.int IntKind.u32 0, Value.int IntKind.u32 0] 113 (v.map wcell) (by simp [hv2]) (wcells_mem v)
  go_upto_region 5 with (fail)
  clear hsv hv2
  have hBv : WB (x3.alloc (.cells (v.map wcell).toArray 113)) x3.heap.size v := Blk.new x3 _ _
  have hgx : w.grownBy (x3.alloc (.cells (v.map wcell).toArray 113)) none := grow_alloc (grow_trans hg hg3) _
  have hClt : x3.heap.size < (x3.alloc (.cells (v.map wcell).toArray 113)).heap.size := by simp
  generalize x3.alloc (.cells (v.map wcell).toArray 113) = y at *
  generalize x3.heap.size = C at *
  clear hg hg3
  have hA1 : WAt y C 0 (v.take 4) := fun i hi => by
    rw [HM.out.1] at hi
    have := hBv.cell i (by rw [HV2.out]; omega)
    rw [Nat.zero_add, this, List.getD_eq_getElem?_getD, List.getElem?_eq_getElem (by rw [HV2.out]; omega), List.getElem_take]
    rfl
  have hA2 : WAt y C 12 (v.drop 12) := fun i hi => by
    rw [HM.out.2.1] at hi
    have := hBv.cell (12 + i) (by rw [HV2.out]; omega)
    rw [this, List.getD_eq_getElem?_getD, List.getElem?_eq_getElem (by rw [HV2.out]; omega), List.getElem_drop]
    rfl
  have A1 : ∀ W, WAt W C 0 (v.take 4) → C < W.heap.size → Calls Try.prog 64 #[.slice (some ⟨C, 0, none⟩) 4 16] W (Texted (textW (v.take 4)) W) := fun W h1 h2 => by
    have := code_text W C 0 16 (v.take 4) h1 (by rw [HM.out.1]; omega) HM.out.2.2.1 h2
    rw [HM.out.1] at this
    exact this
  have A2 : ∀ W, WAt W C 12 (v.drop 12) → C < W.heap.size → Calls Try.prog 64 #[.slice (some ⟨C, 12, none⟩) 4 4] W (Texted (textW (v.drop 12)) W) := fun W h1 h2 => by
    have := code_text W C 12 4 (v.drop 12) h1 (by rw [HM.out.2.1]; omega) HM.out.2.2.2 h2
    rw [HM.out.2.1] at this
    exact this
  have hA1d : WAt y.drew C 0 (v.take 4) := hA1
  have hA2d : WAt y.drew C 12 (v.drop 12) := hA2
  have hCd : C < y.drew.heap.size := hClt
  have hgd : w.grownBy y.drew none := grow_drew hgx
  clear hBv hA1 hA2 hgx hClt
  have r1 := rule_app
  go_region_with
    (first
      | (go_at_call 64; (with_reducible refine (A1 _ hA1d hCd).mono ?_); rintro e w4 ⟨rfl, hb4⟩; unfold S)
      | (go_at_call 64; (with_reducible refine (A2 _ (hA2d.below hb4 hCd) (Nat.lt_of_lt_of_le hCd hb4.size)).mono ?_); rintro e w5 ⟨rfl, hb5⟩; unfold S))
  all_goals
    go_wp2_with fail
    go_ret2
    exact ⟨rfl, grow_trans (grow_trans hgd (grow_of_below hb4)) (grow_of_below hb5)⟩

end Go.Proofs.Ytffeekfofbcobaa

namespace Go.Proofs.Ytffeekfofbcobaa
open Go.RowKit
set_option linter.unusedVariables false

def next32 (n : Nat) : Nat := (n + 1) % 4294967296

/-- A text xored with the blocks from number n on (so many at most). -/
def chx (key nonce : List UInt8) : Nat → Nat → List UInt8 → List UInt8
  | 0, _, _ => []
  | f + 1, n, s => if s = [] then [] else xorL s (blockL key nonce n) ++ chx key nonce f (next32 n) (s.drop 64)

def chxL (key nonce : List UInt8) (n : Nat) (s : List UInt8) : List UInt8 := chx key nonce (s.length + 1) n s

theorem chx_nil (key nonce : List UInt8) (f n : Nat) : chx key nonce f n [] = [] := by
  cases f <;> simp [chx]

theorem chx_length (key nonce : List UInt8) : ∀ (f n : Nat) (s : List UInt8), s.length ≤ 64 * f → (chx key nonce f n s).length = s.length
  | 0, _, s, h => by
    obtain rfl : s = [] := List.eq_nil_of_length_eq_zero (by omega)
    rfl
  | f + 1, n, s, h => by
    unfold chx
    by_cases e : s = []
    · simp [e]
    · rw [if_neg e, List.length_append, chx_length key nonce f _ (s.drop 64) (by rw [List.length_drop]; omega), xorL_length, blockL_length, List.length_drop]
      omega

theorem chxL_length (key nonce : List UInt8) (n : Nat) (s : List UInt8) : (chxL key nonce n s).length = s.length := chx_length _ _ _ _ _ (by omega)

theorem drop_part (s b : List UInt8) (hb : b.length = 64) : s.drop (xorL s b).length = s.drop 64 := by
  rw [xorL_length, hb]
  rcases Nat.lt_or_ge s.length 64 with h | h
  · rw [Nat.min_eq_left (by omega), List.drop_length, List.drop_of_length_le (by omega)]
  · rw [Nat.min_eq_right h]

set_option maxRecDepth 20000 in
set_option maxHeartbeats 2000000 in
theorem code_cxor (w : World) (key nonce s : List UInt8) (n : Nat) (hk : key.length = 32) (hn : nonce.length = 12) (h32 : n < 4294967296) (hs : s.length ≤ 2000) :
    Calls Try.prog 54 #[S key, S nonce, .int .u32 n, S s] w (Blocked (chxL key nonce n s) w) := by
  have hc : checkN key nonce 12 = 0 := by unfold checkN; rw [if_pos ⟨hk, hn⟩]
  have HC := Lib.hid hc
  have HK := Lib.hid hk
  have HN := Lib.hid hn
  have hrec : chxL key nonce n s = [] ++ chx key nonce (s.length + 1) n s := rfl
  generalize chxL key nonce n s = V at *
  have HR := Lib.hid hrec
  have lk : key.length ≤ 32 := by omega
  have ln : nonce.length ≤ 12 := by omega
  clear hc hk hn hrec
  have r1 := rule_app
  have r2 := rule_ext
  have hd : decide (2000 < (s.length : Int)) = false := by simp; omega
  unfold S
  go_enter Try.func54, Try.ntmps54
  go_wp2_with fail
  refine (code_check w key nonce 12 (by omega) (by omega) (by omega)).mono ?_
  rintro e w1 ⟨rfl, rfl⟩
  rw [HC.out]
  go_wp2_with fail
  go_loopw [2, 3, 11] (fun vn vs vo wr => ∃ (f m : Nat) (T out : List UInt8), vn = .int .u32 m ∧ m < 4294967296 ∧ vs = S T ∧ vo = S out ∧ Hid (V = out ++ chx key nonce f m T) ∧ Hid (T.length ≤ 64 * f) ∧ out.length + T.length ≤ 2000 ∧ w.grownBy wr none) (fun _ vs _ _ => match vs with | .string b => b.size | _ => 0)
  case atStart => exact ⟨s.length + 1, n, s, [], rfl, h32, rfl, rfl, HR.out, by show s.length ≤ 64 * (s.length + 1); omega, by simpa using hs, grow_refl _ _⟩
  case round =>
    clear HR
    obtain ⟨f, m, T, out, rfl, m32, rfl, rfl, hV, hf, hle, hg⟩ := hrel
    by_cases hT : T = []
    · subst hT
      rw [chx_nil, List.append_nil] at hV
      unfold S
      go_wp2_with fail
      go_ret2
      exact ⟨by rw [hV.out]; rfl, hg⟩
    · have q1 : (!T.isEmpty) = true := by simpa using hT
      have q2 : T.isEmpty = false := by simpa using hT
      have hpos : 0 < T.length := List.length_pos_iff.2 hT
      have hb64 := blockL_length key nonce m
      have hxl := xorL_length T (blockL key nonce m)
      have hdp := Lib.hid (drop_part T (blockL key nonce m) hb64)
      obtain ⟨g, rfl⟩ : ∃ g, f = g + 1 := by
        have := hf.out
        exact ⟨f - 1, by omega⟩
      have hstep := Lib.hid (show V = (out ++ xorL T (blockL key nonce m)) ++ chx key nonce g (next32 m) (T.drop 64) from by
        rw [hV.out, chx, if_neg hT, List.append_assoc])
      have hlen2 : (xorL T (blockL key nonce m)).length ≤ T.length := by rw [hxl]; omega
      have hlen1 : 0 < (xorL T (blockL key nonce m)).length := by rw [hxl, hb64]; omega
      have hcat : out.length + (xorL T (blockL key nonce m)).length ≤ 9223372036854775807 := by omega
      have hnx := Lib.hid (show ((m : Int) + 1) % 4294967296 = ((next32 m : Nat) : Int) from by unfold next32; omega)
      have htk : List.take (T.length - (xorL T (blockL key nonce m)).length) (List.drop (xorL T (blockL key nonce m)).length T) = List.drop (xorL T (blockL key nonce m)).length T := List.take_of_length_le (by simp)
      have hbl : (blockL key nonce m).length ≤ 140737488355328 := by omega
      have hsum : (out ++ xorL T (blockL key nonce m)).length + (T.drop (xorL T (blockL key nonce m)).length).length ≤ 2000 := by rw [List.length_append, List.length_drop]; omega
      clear hxl hb64 hV hT
      unfold S
      go_wp2_with fail
      refine (code_block _ key nonce m HK.out HN.out m32).mono ?_
      rintro e w2 ⟨rfl, hg2⟩
      unfold S
      go_wp2_with fail
      refine (wire_xor w2 T (blockL key nonce m) (by omega) hbl).mono ?_
      rintro e w3 ⟨rfl, hg3⟩
      have hg' := grow_trans (grow_trans hg hg2) hg3
      clear hg hg2 hg3 hbl
      generalize xorL T (blockL key nonce m) = X at *
      unfold S
      go_wp2_with fail
      rw [hnx.out]
      go_roundw
      case rel => exact ⟨g, next32 m, T.drop X.length, out ++ X, rfl, Nat.mod_lt _ (by omega), rfl, rfl, by rw [hdp.out]; exact hstep, by rw [hdp.out, List.length_drop]; have := hf.out; show T.length - 64 ≤ 64 * g; omega, hsum, hg'⟩
      case measure => simp [ByteArray.size]; omega

end Go.Proofs.Ytffeekfofbcobaa

namespace Go.Proofs.Ytffeekfofbcobaa
set_option linter.unusedVariables false

/-- So many blocks of the stream. -/
def streamF (key nonce : List UInt8) : Nat → Nat → List UInt8
  | 0, _ => []
  | f + 1, n => blockL key nonce n ++ streamF key nonce f (next32 n)

theorem streamF_length (key nonce : List UInt8) : ∀ (f n : Nat), (streamF key nonce f n).length = 64 * f
  | 0, _ => rfl
  | f + 1, n => by rw [streamF, List.length_append, blockL_length, streamF_length key nonce f]; omega

theorem chx_stream (key nonce : List UInt8) : ∀ (f n : Nat) (s : List UInt8), s.length ≤ 64 * f → chx key nonce f n s = xorL s (streamF key nonce f n)
  | 0, n, s, h => by
    obtain rfl : s = [] := List.eq_nil_of_length_eq_zero (by omega)
    rfl
  | f + 1, n, s, h => by
    unfold chx
    by_cases e : s = []
    · subst e
      simp [xorL_nil_left]
    · rw [if_neg e, streamF, xorL_append, blockL_length, chx_stream key nonce f _ _ (by rw [List.length_drop]; omega)]

def addn32 (n j : Nat) : Nat := (n + j) % 4294967296

theorem streamF_add (key nonce : List UInt8) : ∀ (j f n : Nat), n < 4294967296 → streamF key nonce (j + f) n = streamF key nonce j n ++ streamF key nonce f (addn32 n j)
  | 0, f, n, h => by
    rw [Nat.zero_add, show addn32 n 0 = n from by unfold addn32; omega]
    rfl
  | j + 1, f, n, h => by
    rw [show j + 1 + f = (j + f) + 1 from by omega, streamF, streamF, streamF_add key nonce j f (next32 n) (Nat.mod_lt _ (by omega)), List.append_assoc]
    rw [show addn32 (next32 n) j = addn32 n (j + 1) from by unfold addn32 next32; omega]

/-- However many blocks beyond the text. -/
theorem chxL_stream (key nonce : List UInt8) (f n : Nat) (s : List UInt8) (h : s.length ≤ 64 * f) (h32 : n < 4294967296) : chxL key nonce n s = xorL s (streamF key nonce f n) := by
  unfold chxL
  rw [chx_stream _ _ _ _ _ (by omega)]
  have h1 := streamF_length key nonce f n
  have h2 := streamF_length key nonce (s.length + 1) n
  rcases Nat.le_total f (s.length + 1) with q | q
  · obtain ⟨d, hd⟩ : ∃ d, s.length + 1 = f + d := ⟨s.length + 1 - f, by omega⟩
    rw [hd, streamF_add _ _ _ _ _ h32, xorL_take _ _ _ (by omega)]
  · obtain ⟨d, hd⟩ : ∃ d, f = (s.length + 1) + d := ⟨f - (s.length + 1), by omega⟩
    rw [hd, streamF_add _ _ (s.length + 1) d _ h32, xorL_take _ _ _ (by omega)]

theorem chxL_twice (key nonce : List UInt8) (n : Nat) (s : List UInt8) (h32 : n < 4294967296) : chxL key nonce n (chxL key nonce n s) = s := by
  have hl := chxL_length key nonce n s
  rw [chxL_stream key nonce (s.length + 1) n (chxL key nonce n s) (by omega) h32, chxL_stream key nonce (s.length + 1) n s (by omega) h32]
  exact xorL_twice _ _ (by rw [streamF_length]; omega)

theorem chxL_pair (key nonce : List UInt8) (n : Nat) (s t : List UInt8) (h32 : n < 4294967296) (h : t.length = s.length) : xorL (chxL key nonce n s) (chxL key nonce n t) = xorL s t := by
  rw [chxL_stream key nonce (s.length + 1) n s (by omega) h32, chxL_stream key nonce (s.length + 1) n t (by omega) h32]
  exact xorL_pair _ _ _ (by rw [streamF_length]; omega) (by rw [streamF_length]; omega)

theorem chxL_split (key nonce : List UInt8) (n j : Nat) (a b : List UInt8) (h32 : n < 4294967296) (ha : a.length = 64 * j) : chxL key nonce n (a ++ b) = chxL key nonce n a ++ chxL key nonce (addn32 n j) b := by
  rw [chxL_stream key nonce (j + (b.length + 1)) n (a ++ b) (by rw [List.length_append]; omega) h32, chxL_stream key nonce j n a (by omega) h32,
    chxL_stream key nonce (b.length + 1) (addn32 n j) b (by omega) (Nat.mod_lt _ (by omega)), streamF_add _ _ _ _ _ h32]
  exact xorL_append_left _ _ _ _ (by rw [streamF_length, ha])

theorem xorL_zeros : ∀ (K : List UInt8), xorL (List.replicate K.length 0) K = K
  | [] => rfl
  | k :: K => by
    have := xorL_zeros K
    simp only [xorL, List.length_cons, List.replicate_succ, List.zipWith_cons_cons] at this ⊢
    rw [this, UInt8.zero_xor]

theorem chxL_zeros (key nonce : List UInt8) (n : Nat) (h32 : n < 4294967296) : chxL key nonce n (zerosL 64) = blockL key nonce n := by
  rw [chxL_stream key nonce 1 n _ (by rw [zerosL_length]; omega) h32, streamF, streamF, List.append_nil]
  have := xorL_zeros (blockL key nonce n)
  rw [blockL_length] at this
  exact this

end Go.Proofs.Ytffeekfofbcobaa

namespace Go.Proofs.Ytffeekfofbcobaa
set_option linter.unusedVariables false

def filledL (s : List UInt8) : List UInt8 := s ++ zerosL ((16 - s.length % 16) % 16)
def sealTagL (key nonce more s : List UInt8) : List UInt8 := tagL ((blockL key nonce 0).take 32) (filledL more ++ filledL s ++ (leB more.length 8 ++ leB s.length 8))
def sealL (key nonce more text : List UInt8) : List UInt8 := chxL key nonce 1 text ++ sealTagL key nonce more (chxL key nonce 1 text)

theorem filledL_length (s : List UInt8) : (filledL s).length ≤ s.length + 15 := by
  unfold filledL
  rw [List.length_append, zerosL_length]
  omega

theorem tagL_length (k t : List UInt8) : (tagL k t).length = 16 := by unfold tagL; rw [List.length_append, leB_length, leB_length]

theorem sealTagL_length (key nonce more s : List UInt8) : (sealTagL key nonce more s).length = 16 := tagL_length _ _

theorem sealL_length (key nonce more text : List UInt8) : (sealL key nonce more text).length = text.length + 16 := by
  unfold sealL
  rw [List.length_append, sealTagL_length, chxL_length]

theorem sealL_take (key nonce more text : List UInt8) : (sealL key nonce more text).take text.length = chxL key nonce 1 text := by
  unfold sealL
  rw [List.take_append_of_le_length (by rw [chxL_length]; omega), List.take_of_length_le (by rw [chxL_length]; omega)]

end Go.Proofs.Ytffeekfofbcobaa

namespace Go.Proofs.Ytffeekfofbcobaa
open Go.RowKit
set_option linter.unusedVariables false

set_option maxHeartbeats 1000000 in
theorem code_filled (w : World) (s : List UInt8) (hs : s.length ≤ 1000000) : Calls Try.prog 68 #[S s] w (Grown (S (filledL s)) w) := by
  have hV : filledL s = s ++ zerosL ((16 - s.length % 16) % 16) := rfl
  generalize filledL s = V at *
  have HV := Lib.hid hV
  clear hV
  obtain ⟨m, hm⟩ : ∃ m, m = (16 - s.length % 16) % 16 := ⟨_, rfl⟩
  rw [← hm] at HV
  have m16 : m < 16 := by omega
  have h1 : -((s.length : Int) % 16) % 16 = (m : Int) := by rw [hm]; omega
  have HM := Lib.hid hm
  clear hm
  have A := fun W : World => repeat_zero W m (by omega)
  have r1 := rule_app
  have r3 := zerosL_length
  have hcat : s.length + m ≤ 9223372036854775807 := by omega
  unfold S at *
  go_enter Try.func68, Try.ntmps68
  go_wp2_with fail
  refine (A _).mono ?_
  rintro e x1 ⟨rfl, hg⟩
  go_wp2_with fail
  rw [HV.out]
  go_ret
  exact ⟨rfl, hg⟩

set_option maxRecDepth 20000 in
set_option maxHeartbeats 2000000 in
theorem code_etag (w : World) (key nonce more s : List UInt8) (hk : key.length = 32) (hn : nonce.length = 12) (hm : more.length ≤ 100000) (hs : s.length ≤ 100000) :
    Calls Try.prog 55 #[S key, S nonce, S more, S s] w (Grown (S (sealTagL key nonce more s)) w) := by
  have hV : sealTagL key nonce more s = tagL ((blockL key nonce 0).take 32) (filledL more ++ filledL s ++ (leB more.length 8 ++ leB s.length 8)) := rfl
  generalize sealTagL key nonce more s = V at *
  have A1 : ∀ W : World, Calls Try.prog 65 #[S key, S nonce, .int .u32 0] W (Blocked (blockL key nonce 0) W) := fun W => code_block W key nonce 0 hk hn (by omega)
  have lb := blockL_length key nonce 0
  generalize blockL key nonce 0 = bl at *
  have AL1 : ∀ W : World, Calls Try.prog 51 #[.slice none 0 0, .int .u64 (more.length : Int), .int .i64 8] W (OwnBytesN W W.heap.size (leB more.length 8)) := fun W => wire_appendLittle W W.heap.size (.slice none 0 0) [] more.length 8 (brow_nil _ _) (by omega) (by omega) (by simp) (Nat.le_refl _)
  have AL2 : ∀ (W : World) (b : Nat) (v : Value), brow W b v (leB more.length 8) → b ≤ W.heap.size → Calls Try.prog 51 #[v, .int .u64 (s.length : Int), .int .i64 8] W (OwnBytesN W b (leB more.length 8 ++ leB s.length 8)) := fun W b v h1 h2 => wire_appendLittle W b v (leB more.length 8) s.length 8 h1 (by omega) (by omega) (by rw [leB_length]; omega) h2
  have lz : (leB more.length 8 ++ leB s.length 8).length = 16 := by rw [List.length_append, leB_length, leB_length]
  have A2 := fun W : World => code_filled W more (by omega)
  have A3 := fun W : World => code_filled W s (by omega)
  have lf1 := filledL_length more
  have lf2 := filledL_length s
  have A4 : ∀ W : World, Calls Try.prog 67 #[S (bl.take 32), S (filledL more ++ filledL s ++ (leB more.length 8 ++ leB s.length 8))] W (Grown (.tuple #[S V, .int .i64 0]) W) := fun W => by
    rw [hV]
    exact code_ptag W _ _ (by rw [List.length_take]; omega) (by rw [List.length_append, List.length_append]; omega)
  generalize filledL more = fm at *
  generalize filledL s = fs at *
  generalize leB more.length 8 ++ leB s.length 8 = sz at *
  rw [List.append_assoc] at A4
  have w1 : IntKind.u64.wrap (more.length : Int) = (more.length : Int) := IntWalk.u64_in _ (by omega)
  have w2 : IntKind.u64.wrap (s.length : Int) = (s.length : Int) := IntWalk.u64_in _ (by omega)
  have k1 : fm.length + fs.length ≤ 9223372036854775807 := by omega
  have k2 : (fm ++ fs).length + sz.length ≤ 9223372036854775807 := by rw [List.length_append]; omega
  have k4 : fm.length + fs.length + sz.length ≤ 9223372036854775807 := by omega
  have k3 : 32 ≤ bl.length := by omega
  have r1 := rule_app
  have r2 := rule_ext
  unfold S Blocked at *
  clear hV hk hn hm hs lf1 lf2
  go_enter Try.func55, Try.ntmps55
  go_wp2_with fail
  refine (A1 _).mono ?_
  rintro e x1 ⟨rfl, hg1⟩
  go_wp2_with fail
  refine (AL1 _).mono ?_
  rintro e x2 ⟨t1, rfl, hb1, hB1⟩
  go_wp2_with fail
  refine (AL2 _ _ _ hb1 hB1.size).mono ?_
  rintro e x3 ⟨t2, rfl, hb2, hB2⟩
  have hg3 := grow_trans hg1 (grow_of_below (hB1.trans hB2))
  clear hg1 hB1 hB2 hb1 AL1 AL2 A1
  unfold S
  go_wp2_with fail
  have b0 := hb2.drew
  have c0 := conv_brow b0
  unfold S at c0
  go_region_with (first
    | (go_at_call 68; (with_reducible refine (A2 _).mono ?_); rintro e y1 ⟨rfl, g1⟩; have b1 := b0.keptb g1; have c1 := conv_brow b1; unfold S at c1)
    | (go_at_call 68; (with_reducible refine (A3 _).mono ?_); rintro e y2 ⟨rfl, g2⟩; have b2 := b1.keptb g2; have c2 := conv_brow b2; unfold S at c2)
    | (go_at_call 67; (with_reducible refine (A4 _).mono ?_); rintro e y3 ⟨rfl, g3⟩))
  all_goals
    go_wp2_with fail
    go_ret
    exact ⟨rfl, grow_trans (grow_trans (grow_trans (grow_drew hg3) g1) g2) g3⟩

end Go.Proofs.Ytffeekfofbcobaa

namespace Go.Proofs.Ytffeekfofbcobaa
open Go.RowKit
set_option linter.unusedVariables false

/-- A session's cells. -/
def pairC (B : Nat) (send recv : List UInt8) (suite sealed : Nat) (first : Bool) : List Value := [.pointer (some ⟨B, 0, none⟩), S send, S recv, .int .i64 (suite : Int), .int .i64 0, .int .i64 (sealed : Int), .bool first]
def PairAt (w : World) (b B : Nat) (send recv : List UInt8) (suite sealed : Nat) (first : Bool) : Prop := Blk w b 48 (pairC B send recv suite sealed first)

def NewPair (w : World) (send recv : List UInt8) (suite : Nat) (first : Bool) (e : Ending) (w' : World) : Prop :=
  ∃ b B, e = .returned (.tuple #[.pointer (some ⟨b, 0, none⟩), .int .i64 0]) ∧ PairAt w' b B send recv suite 0 first ∧ WnAt w' B 0 0 ∧ w.grownBy w' none ∧ w.heap.size ≤ b ∧ w.heap.size ≤ B ∧ b ≠ B

set_option maxRecDepth 100000 in
set_option maxHeartbeats 2000000 in
theorem code_prnew (w : World) (suite : Nat) (h12 : suite = 1 ∨ suite = 2) (send recv : List UInt8) (hs : send.length = 32) (hr : recv.length = 32) (first : Bool) :
    Calls Try.prog 16 #[.int .i64 (suite : Int), .agg #[S send, S recv], .int .i64 0, .bool first] w (NewPair w send recv suite first) := by
  have q1 : ((send.length : Int) != 32) = false := by rw [hs]; rfl
  have q2 : ((recv.length : Int) != 32) = false := by rw [hr]; rfl
  have q3 : (((suite : Int) == 1) || ((suite : Int) == 2)) = true := by rcases h12 with rfl | rfl <;> rfl
  have q4 : ((suite : Int) == 1) = false → ((suite : Int) == 2) = true := by rcases h12 with rfl | rfl <;> simp
  have A1 := fun W : World => window_new W
  rcases h12 with rfl | rfl
  all_goals
    unfold S
    go_enter Try.func16, Try.ntmps16
    go_wp2_with fail
    go_region_held3 (fun W => W.cell? ⟨w.heap.size, 0, none⟩ = some (.string ⟨send.toArray⟩) ∧ W.cell? ⟨w.heap.size, 1, none⟩ = some (.string ⟨recv.toArray⟩)) (first | exact ⟨by rw [obj_cell (obj_new_drew w _)]; rfl, by rw [obj_cell (obj_new_drew w _)]; rfl⟩ | exact ⟨c0, c1⟩ | exact ⟨obj_cell (obj_alloc hb0) 0, obj_cell (obj_alloc hb0) 1⟩) (first
      | (go_at_call 32; (with_reducible refine (A1 _).mono ?_); rintro e x1 ⟨rfl, hw1, hg1⟩; have hb0 := grow_obj hg1 (obj_new_drew w (.cells #[.string ⟨send.toArray⟩, .string ⟨recv.toArray⟩] 44)) nofun; have c0 := obj_cell hb0 0; have c1 := obj_cell hb0 1))
    all_goals
      have hw2 : WnAt x1 (w.heap.size + 1) 0 0 := by simpa using hw1
      have hg2 := grow_trans (grow_drew (World.grownBy_alloc w (.cells #[.string ⟨send.toArray⟩, .string ⟨recv.toArray⟩] 44) none)) hg1
      have hl := lt_of_obj hw2
      have hz := hg2.size
      clear hw1 hg1 hb0 c0 c1
      go_wp2_with fail
      go_ret2
      exact ⟨x1.heap.size, w.heap.size + 1, rfl, obj_new _ _, obj_alloc hw2, grow_alloc hg2 _, hz, by omega, by omega⟩

theorem PairAt.cells {w : World} {b B : Nat} {send recv : List UInt8} {suite sealed : Nat} {first : Bool} (h : PairAt w b B send recv suite sealed first) :
    w.cell? ⟨b, 0, none⟩ = some (.pointer (some ⟨B, 0, none⟩)) ∧ w.cell? ⟨b, 1, none⟩ = some (S send) ∧ w.cell? ⟨b, 2, none⟩ = some (S recv) ∧ w.cell? ⟨b, 3, none⟩ = some (.int .i64 (suite : Int)) ∧ w.cell? ⟨b, 4, none⟩ = some (.int .i64 0) ∧ w.cell? ⟨b, 5, none⟩ = some (.int .i64 (sealed : Int)) ∧ w.cell? ⟨b, 6, none⟩ = some (.bool first) ∧ w.frozen? ⟨b, 5, none⟩ = false :=
  ⟨Blk.cell h 0, Blk.cell h 1, Blk.cell h 2, Blk.cell h 3, Blk.cell h 4, Blk.cell h 5, Blk.cell h 6, Blk.frozen h 5⟩
theorem PairAt.kept {w w' : World} {b B : Nat} {send recv : List UInt8} {suite sealed : Nat} {first : Bool} {r : Option Nat} (h : PairAt w b B send recv suite sealed first) (g : w.grownBy w' r) (hr : some b ≠ r) : PairAt w' b B send recv suite sealed first := Blk.kept h g hr

theorem code_prold (w : World) (b B : Nat) (send recv : List UInt8) (suite sealed : Nat) (first : Bool) (h : PairAt w b B send recv suite sealed first) (now most : Nat) (M : Int) (hM : M = (most : Int)) (hm : most ≤ 1000) :
    Calls Try.prog 18 #[.pointer (some ⟨b, 0, none⟩), .int .i64 (now : Int), .int .i64 M] w fun e w' => e = .returned (.bool (decide (most ≤ now))) ∧ w = w' := by
  obtain ⟨c0, c1, c2, c3, c4, c5, c6, f5⟩ := h.cells
  subst hM
  have hd : decide ((most : Int) ≤ (now : Int)) = decide (most ≤ now) := by simp
  clear c0 c1 c2 c3 c5 c6 f5
  go_enter Try.func18, Try.ntmps18
  go_wp2_with fail
  go_ret
  exact ⟨by simp, rfl⟩

theorem code_prover (w : World) (b B : Nat) (send recv : List UInt8) (suite sealed : Nat) (first : Bool) (h : PairAt w b B send recv suite sealed first) (now : Nat) (hs : sealed < 1000) :
    Calls Try.prog 11 #[.pointer (some ⟨b, 0, none⟩), .int .i64 (now : Int)] w fun e w' => e = .returned (.bool (decide (180 ≤ now))) ∧ w = w' := by
  have A := code_prold w b B send recv suite sealed first h now 180 180 rfl (by omega)
  obtain ⟨c0, c1, c2, c3, c4, c5, c6, f5⟩ := h.cells
  have hd : decide ((1000 : Int) ≤ (sealed : Int)) = false := by simp; omega
  have hd2 : ¬ ((1000 : Int) ≤ (sealed : Int)) := by omega
  clear c0 c1 c2 c3 c4 c6 f5
  by_cases hn : 180 ≤ now
  · have e1 : decide (180 ≤ now) = true := by simp [hn]
    rw [e1] at A ⊢
    go_enter Try.func11, Try.ntmps11
    go_wp2_with fail
    (with_reducible refine A.mono ?_)
    rintro e x ⟨rfl, rfl⟩
    go_wp2_with fail
    go_ret
    exact ⟨rfl, rfl⟩
  · have e1 : decide (180 ≤ now) = false := by simp [hn]
    rw [e1] at A ⊢
    go_enter Try.func11, Try.ntmps11
    go_wp2_with fail
    (with_reducible refine A.mono ?_)
    rintro e x ⟨rfl, rfl⟩
    go_wp2_with fail
    go_ret
    exact ⟨rfl, rfl⟩

theorem code_prstale (w : World) (b B : Nat) (send recv : List UInt8) (suite sealed : Nat) (first : Bool) (h : PairAt w b B send recv suite sealed first) (now : Nat) (hs : sealed < 1000) :
    Calls Try.prog 10 #[.pointer (some ⟨b, 0, none⟩), .int .i64 (now : Int)] w fun e w' => e = .returned (.bool (decide (180 ≤ now) || (first && decide (120 ≤ now)))) ∧ w = w' := by
  have A := code_prover w b B send recv suite sealed first h now hs
  have A2 := code_prold w b B send recv suite sealed first h now 120 120 rfl (by omega)
  obtain ⟨c0, c1, c2, c3, c4, c5, c6, f5⟩ := h.cells
  clear c0 c1 c2 c3 c4 c5 f5
  generalize decide (180 ≤ now) = x at *
  generalize decide (120 ≤ now) = y at *
  clear h
  cases x <;> cases first
  all_goals
    go_enter Try.func10, Try.ntmps10
    go_wp2_with fail
    (with_reducible refine A.mono ?_)
    rintro e x ⟨rfl, rfl⟩
    go_wp2_with (first | (go_at_call 18; (with_reducible refine A2.mono ?_); rintro e x ⟨rfl, rfl⟩) | fail)
    go_ret
    exact ⟨by simp, rfl⟩

end Go.Proofs.Ytffeekfofbcobaa

namespace Go.Proofs.Ytffeekfofbcobaa
open Go.RowKit
set_option linter.unusedVariables false

/-- What the check answers. -/
def checkE (key nonce more text : List UInt8) (most : Nat) : Int := if key.length = 32 ∧ nonce.length = 12 then (if more.length ≤ 2000 ∧ text.length ≤ most then 0 else 2) else 1

set_option maxHeartbeats 1000000 in
theorem code_echeck (w : World) (key nonce more text : List UInt8) (most : Nat) (hm : most ≤ 100000) :
    Calls Try.prog 53 #[S key, S nonce, S more, S text, .int .i64 most] w fun e w' => e = .returned (.int .i64 (checkE key nonce more text most)) ∧ w = w' := by
  obtain ⟨V, hV⟩ : ∃ V, V = checkE key nonce more text most := ⟨_, rfl⟩
  rw [← hV]
  have HV := Lib.hid hV
  clear hV
  unfold S
  by_cases h1 : key.length = 32
  · have q1 : ((key.length : Int) != 32) = false := by simp; omega
    by_cases h2 : nonce.length = 12
    · have q2 : ((nonce.length : Int) != 12) = false := by simp; omega
      by_cases h3 : more.length ≤ 2000
      · have q3 : decide ((2000 : Int) < (more.length : Int)) = false := by simp; omega
        by_cases h4 : text.length ≤ most
        · have q4 : ¬ most < text.length := by omega
          have HR := Lib.hid (show V = 0 from by rw [HV.out]; unfold checkE; rw [if_pos ⟨h1, h2⟩, if_pos ⟨h3, h4⟩])
          clear h1 h2 h3 h4 HV
          go_enter Try.func53, Try.ntmps53
          go_wp2_with fail
          go_ret
          exact ⟨by rw [HR.out]; rfl, rfl⟩
        · have q4 : most < text.length := by omega
          have HR := Lib.hid (show V = 2 from by rw [HV.out]; unfold checkE; rw [if_pos ⟨h1, h2⟩, if_neg (by omega)])
          clear h1 h2 h3 h4 HV
          go_enter Try.func53, Try.ntmps53
          go_wp2_with fail
          go_ret
          exact ⟨by rw [HR.out]; rfl, rfl⟩
      · have q3 : decide ((2000 : Int) < (more.length : Int)) = true := by simp; omega
        have HR := Lib.hid (show V = 2 from by rw [HV.out]; unfold checkE; rw [if_pos ⟨h1, h2⟩, if_neg (by omega)])
        clear h1 h2 h3 HV
        go_enter Try.func53, Try.ntmps53
        go_wp2_with fail
        go_ret
        exact ⟨by rw [HR.out]; rfl, rfl⟩
    · have q2 : ((nonce.length : Int) != 12) = true := by simp; omega
      have HR := Lib.hid (show V = 1 from by rw [HV.out]; unfold checkE; rw [if_neg (by omega)])
      clear h1 h2 HV
      go_enter Try.func53, Try.ntmps53
      go_wp2_with fail
      go_ret
      exact ⟨by rw [HR.out]; rfl, rfl⟩
  · have q1 : ((key.length : Int) != 32) = true := by simp; omega
    have HR := Lib.hid (show V = 1 from by rw [HV.out]; unfold checkE; rw [if_neg (by omega)])
    clear h1 HV
    go_enter Try.func53, Try.ntmps53
    go_wp2_with fail
    go_ret
    exact ⟨by rw [HR.out]; rfl, rfl⟩

def noTextE (n : Int) : Value := .tuple #[S [], .int .i64 n]

theorem code_seal_err (w : World) (key nonce more text : List UInt8) (n : Int) (h : checkE key nonce more text 2000 = n) (hn : (n == 0) = false) :
    Calls Try.prog 42 #[S key, S nonce, S more, S text] w fun e w' => e = .returned (noTextE n) ∧ w = w' := by
  have H := Lib.hid h
  have hn2 : (n != 0) = true := by simpa using hn
  clear h
  unfold S noTextE
  go_enter Try.func42, Try.ntmps42
  go_wp2_with fail
  refine (code_echeck w key nonce more text 2000 (by omega)).mono ?_
  rintro e w1 ⟨rfl, rfl⟩
  rw [H.out]
  go_wp2_with fail
  go_ret2
  exact ⟨rfl, rfl⟩

set_option maxHeartbeats 1000000 in
theorem code_seal (w : World) (key nonce more text : List UInt8) (hk : key.length = 32) (hn : nonce.length = 12) (hm : more.length ≤ 2000) (ht : text.length ≤ 2000) :
    Calls Try.prog 42 #[S key, S nonce, S more, S text] w (Blocked (sealL key nonce more text) w) := by
  have H := Lib.hid (show checkE key nonce more text 2000 = 0 from by unfold checkE; rw [if_pos ⟨hk, hn⟩, if_pos ⟨hm, ht⟩])
  have hV : sealL key nonce more text = chxL key nonce 1 text ++ sealTagL key nonce more (chxL key nonce 1 text) := rfl
  generalize sealL key nonce more text = V at *
  have A1 : ∀ W : World, Calls Try.prog 54 #[S key, S nonce, .int .u32 1, S text] W (Blocked (chxL key nonce 1 text) W) := fun W => code_cxor W key nonce text 1 hk hn (by omega) ht
  have lc := chxL_length key nonce 1 text
  have A2 : ∀ W : World, Calls Try.prog 55 #[S key, S nonce, S more, S (chxL key nonce 1 text)] W (Grown (S (sealTagL key nonce more (chxL key nonce 1 text))) W) := fun W => code_etag W key nonce more _ hk hn (by omega) (by omega)
  have lt := sealTagL_length key nonce more (chxL key nonce 1 text)
  generalize sealTagL key nonce more (chxL key nonce 1 text) = T at *
  generalize chxL key nonce 1 text = C at *
  have HV := Lib.hid hV
  have k1 : C.length + T.length ≤ 9223372036854775807 := by omega
  have r1 := rule_app
  clear hV hk hn hm lc lt
  unfold S Blocked at *
  go_enter Try.func42, Try.ntmps42
  go_wp2_with fail
  refine (code_echeck w key nonce more text 2000 (by omega)).mono ?_
  rintro e w1 ⟨rfl, rfl⟩
  rw [H.out]
  go_wp2_with fail
  refine (A1 _).mono ?_
  rintro e w2 ⟨rfl, hg2⟩
  unfold S
  go_wp2_with fail
  refine (A2 _).mono ?_
  rintro e w3 ⟨rfl, hg3⟩
  go_wp2_with fail
  rw [HV.out]
  go_ret2
  exact ⟨rfl, grow_trans hg2 hg3⟩

/-- Opened: what is no box. -/
theorem code_open_err (w : World) (key nonce more text : List UInt8) (n : Int) (h : checkE key nonce more text 2016 = n) (hn : (n == 0) = false) :
    Calls Try.prog 43 #[S key, S nonce, S more, S text] w fun e w' => e = .returned (noTextE n) ∧ w = w' := by
  have H := Lib.hid h
  have hn2 : (n != 0) = true := by simpa using hn
  clear h
  unfold S noTextE
  go_enter Try.func43, Try.ntmps43
  go_wp2_with fail
  refine (code_echeck w key nonce more text 2016 (by omega)).mono ?_
  rintro e w1 ⟨rfl, rfl⟩
  rw [H.out]
  go_wp2_with fail
  go_ret2
  exact ⟨rfl, rfl⟩

theorem code_open_short (w : World) (key nonce more text : List UInt8) (hk : key.length = 32) (hn : nonce.length = 12) (hm : more.length ≤ 2000) (ht : text.length < 16) :
    Calls Try.prog 43 #[S key, S nonce, S more, S text] w fun e w' => e = .returned (noTextE 4) ∧ w = w' := by
  have H := Lib.hid (show checkE key nonce more text 2016 = 0 from by unfold checkE; rw [if_pos ⟨hk, hn⟩, if_pos ⟨hm, by omega⟩])
  have q : (text.length : Int) < 16 := by omega
  clear hk hn hm ht
  unfold S noTextE
  go_enter Try.func43, Try.ntmps43
  go_wp2_with fail
  refine (code_echeck w key nonce more text 2016 (by omega)).mono ?_
  rintro e w1 ⟨rfl, rfl⟩
  rw [H.out]
  go_wp2_with fail
  go_ret2
  exact ⟨rfl, rfl⟩

/-- Opened: a box. -/
theorem code_open (w : World) (key nonce more c : List UInt8) (hk : key.length = 32) (hn : nonce.length = 12) (hm : more.length ≤ 2000) (hc : c.length ≤ 2000) :
    Calls Try.prog 43 #[S key, S nonce, S more, S (c ++ sealTagL key nonce more c)] w (Blocked (chxL key nonce 1 c) w) := by
  have lt := sealTagL_length key nonce more c
  have H := Lib.hid (show checkE key nonce more (c ++ sealTagL key nonce more c) 2016 = 0 from by unfold checkE; rw [if_pos ⟨hk, hn⟩, if_pos ⟨hm, by rw [List.length_append]; omega⟩])
  have A1 : ∀ W : World, Calls Try.prog 54 #[S key, S nonce, .int .u32 1, S c] W (Blocked (chxL key nonce 1 c) W) := fun W => code_cxor W key nonce c 1 hk hn (by omega) hc
  have A2 : ∀ W : World, Calls Try.prog 55 #[S key, S nonce, S more, S c] W (Grown (S (sealTagL key nonce more c)) W) := fun W => code_etag W key nonce more _ hk hn (by omega) (by omega)
  generalize sealTagL key nonce more c = T at *
  generalize chxL key nonce 1 c = C at *
  obtain ⟨U, hU⟩ : ∃ U, U = c ++ T := ⟨_, rfl⟩
  rw [← hU] at H ⊢
  have lU : U.length = c.length + 16 := by rw [hU, List.length_append, lt]
  have tU : U.take c.length = c := by rw [hU, List.take_left]
  have n1 : ¬ ((U.length : Int) < 16) := by omega
  have e1 : ((U.length : Int) - 16) = (c.length : Int) := by omega
  have e2 : (0 : Int) ≤ (c.length : Int) := by omega
  have e3 : (c.length : Int) ≤ (U.length : Int) := by omega
  have r1 := rule_app
  have r2 := rule_ext
  have k1 : c.length + T.length ≤ 9223372036854775807 := by omega
  have HU := Lib.hid hU
  have q : (c ++ T == U) = true := beq_iff_eq.mpr hU.symm
  clear hU hk hn hm lt lU hc
  unfold S Blocked at *
  go_enter Try.func43, Try.ntmps43
  go_wp2_with fail
  refine (code_echeck w key nonce more U 2016 (by omega)).mono ?_
  rintro e w1 ⟨rfl, rfl⟩
  rw [H.out]
  go_wp2_with fail
  refine (A2 _).mono ?_
  rintro e w2 ⟨rfl, hg2⟩
  go_wp2_with fail
  refine (A1 _).mono ?_
  rintro e w3 ⟨rfl, hg3⟩
  unfold S
  go_wp2_with fail
  go_ret2
  exact ⟨rfl, grow_trans hg2 hg3⟩

end Go.Proofs.Ytffeekfofbcobaa

namespace Go.Proofs.Ytffeekfofbcobaa
open Go.RowKit
set_option linter.unusedVariables false

theorem code_gopen_err (w : World) (key nonce more text : List UInt8) (n : Int) (h : gcheckE key nonce more text 2016 = n) (hn : (n == 0) = false) :
    Calls Try.prog 103 #[S key, S nonce, S more, S text] w fun e w' => e = .returned (gnoE n) ∧ w = w' := by
  have H := Lib.hid h
  have hn2 : (n != 0) = true := by simpa using hn
  clear h
  unfold S gnoE
  go_enter Try.func103, Try.ntmps103
  go_wp2_with fail
  refine (code_gcheck w key nonce more text 2016 (by omega)).mono ?_
  rintro e w1 ⟨rfl, rfl⟩
  rw [H.out]
  go_wp2_with fail
  go_ret2
  exact ⟨rfl, rfl⟩

theorem code_gopen_short (w : World) (key nonce more text : List UInt8) (hk : key.length = 32) (hn : nonce.length = 12) (hm : more.length ≤ 2000) (ht : text.length < 16) :
    Calls Try.prog 103 #[S key, S nonce, S more, S text] w fun e w' => e = .returned (gnoE 4) ∧ w = w' := by
  have H := Lib.hid (show gcheckE key nonce more text 2016 = 0 from by unfold gcheckE; rw [if_pos ⟨hk, hn⟩, if_pos ⟨hm, by omega⟩])
  have q : (text.length : Int) < 16 := by omega
  clear hk hn hm ht
  unfold S gnoE
  go_enter Try.func103, Try.ntmps103
  go_wp2_with fail
  refine (code_gcheck w key nonce more text 2016 (by omega)).mono ?_
  rintro e w1 ⟨rfl, rfl⟩
  rw [H.out]
  go_wp2_with fail
  go_ret2
  exact ⟨rfl, rfl⟩

set_option maxRecDepth 100000 in
set_option maxHeartbeats 1000000 in
theorem code_gopen (w : World) (key nonce more c : List UInt8) (hk : key.length = 32) (hn : nonce.length = 12) (hm : more.length ≤ 2000) (hc : c.length ≤ 2000) :
    Calls Try.prog 103 #[S key, S nonce, S more, S (c ++ gtagL key nonce more c)] w (GSaid (gcxL key nonce c) w) := by
  have lt := gtagL_length key nonce more c hk hn
  have H := Lib.hid (show gcheckE key nonce more (c ++ gtagL key nonce more c) 2016 = 0 from by unfold gcheckE; rw [if_pos ⟨hk, hn⟩, if_pos ⟨hm, by rw [List.length_append]; omega⟩])
  have A0 : ∀ W : World, Calls Try.prog 106 #[S key] W (NewC W key) := fun W => code_new W key (Or.inr hk)
  have A1 : ∀ (W : World) (C T : Nat), GBox W C T key → Calls Try.prog 108 #[.agg #[.pointer (some ⟨C, 0, none⟩), S nonce], S c] W (Grown (S (gcxL key nonce c)) W) := fun W C T hW => code_gxored W C T key nonce c hW hk hn (by omega)
  have A2 : ∀ (W : World) (C T : Nat), GBox W C T key → Calls Try.prog 107 #[.agg #[.pointer (some ⟨C, 0, none⟩), S nonce], S more, S c] W (Grown (S (gtagL key nonce more c)) W) := fun W C T hW => code_gtag W C T key nonce more _ hW hk hn hm (by omega)
  generalize gtagL key nonce more c = TG at *
  generalize gcxL key nonce c = CT at *
  obtain ⟨U, hU⟩ : ∃ U, U = c ++ TG := ⟨_, rfl⟩
  rw [← hU] at H ⊢
  have lU : U.length = c.length + 16 := by rw [hU, List.length_append, lt]
  have tU : U.take c.length = c := by rw [hU, List.take_left]
  have dU : (U.drop c.length).take (U.length - c.length) = TG := by rw [hU, List.drop_left, List.take_of_length_le (by rw [List.length_append]; omega)]
  have n1 : ¬ ((U.length : Int) < 16) := by omega
  have e1 : ((U.length : Int) - 16) = (c.length : Int) := by omega
  have e2 : (0 : Int) ≤ (c.length : Int) := by omega
  have e3 : (c.length : Int) ≤ (U.length : Int) := by omega
  have e4 : IntKind.i64.wrap (c.length : Int) = (c.length : Int) := IntWalk.i64_in _ (by omega)
  have r2 := rule_ext
  have HC := Lib.hid (fun W : World => code_gcheck W key nonce more U 2016 (by omega))
  clear hU hk hn hm lt lU hc
  unfold S GSaid at *
  go_enter Try.func103, Try.ntmps103
  go_wp2_with fail
  refine (HC.out _).mono ?_
  rintro e w1 ⟨rfl, rfl⟩
  rw [H.out]
  go_wp2_with fail
  (with_reducible refine (A0 _).mono ?_)
  rintro e w2 ⟨C, T, rfl, hC, hT, hC1, hT1, hg2⟩
  have HGB := Lib.hid (show GBox w2 C T key from ⟨hC, hT⟩)
  clear hC hT A0
  go_wp2_with fail
  obtain ⟨x, hx⟩ : ∃ x, x = w2.alloc (.cells #[.pointer (some ⟨C, 0, none⟩), .string ⟨nonce.toArray⟩] 149) := ⟨_, rfl⟩
  obtain ⟨B, hB⟩ : ∃ B, B = w2.heap.size := ⟨_, rfl⟩
  have hgx : w2.grownBy x none := by rw [hx]; exact grow_alloc (grow_refl w2 none) _
  have k0 : x.cell? ⟨B, 0, none⟩ = some (.pointer (some ⟨C, 0, none⟩)) := by rw [hx, hB, obj_cell (obj_new w2 _)]; rfl
  have k2 : x.cell? ⟨B, 1, none⟩ = some (.string ⟨nonce.toArray⟩) := by rw [hx, hB, obj_cell (obj_new w2 _)]; rfl
  rw [← hx, ← hB]
  have HGX := Lib.hid hgx
  clear hx hB hgx
  go_quiet (fail)
  go_wp2_with fail
  (with_reducible refine (A2 _ C T (HGB.out.kept (grow_drewN HGX.out _))).mono ?_)
  rintro e w3 ⟨rfl, hg3⟩
  have m0 := hg3.cell (a := ⟨B, 0, none⟩) k0 nofun
  have m1 := hg3.cell (a := ⟨B, 1, none⟩) k2 nofun
  have HG3 := Lib.hid (grow_trans (grow_drewN HGX.out _) hg3)
  clear k0 k2 hg3 A2
  go_wp2_with fail
  (with_reducible refine (A1 _ C T (HGB.out.kept HG3.out)).mono ?_)
  rintro e w4 ⟨rfl, hg4⟩
  have HF := grow_trans (grow_trans hg2 HG3.out) hg4
  go_wp2_with fail
  go_ret2
  exact ⟨rfl, HF⟩

end Go.Proofs.Ytffeekfofbcobaa

namespace Go.Proofs.Ytffeekfofbcobaa
open Go.RowKit
set_option linter.unusedVariables false

/-- A text sealed as the n-th. -/
def sealN (suite : Nat) (key : List UInt8) (n : Nat) (more text : List UInt8) : List UInt8 := if suite = 1 then sealL key (nonL 1 n) more text else gsealL key (nonL 2 n) more text
theorem sealN_length (suite : Nat) (key : List UInt8) (n : Nat) (more text : List UInt8) (hk : key.length = 32) : (sealN suite key n more text).length = text.length + 16 := by
  unfold sealN
  split
  · exact sealL_length _ _ _ _
  · exact gsealL_length _ _ _ _ hk (nonL_length 2 n)

theorem noise_seal (w : World) (suite : Nat) (h12 : suite = 1 ∨ suite = 2) (key more text : List UInt8) (n : Nat) (hn : n < 18446744073709551616) (hk : key.length = 32) (hm : more.length ≤ 2000) (ht : text.length ≤ 2000) :
    Calls Try.prog 17 #[.int .i64 (suite : Int), S key, .int .u64 (n : Int), S more, S text] w (Grown (.tuple #[S (sealN suite key n more text), .int .i64 0]) w) := by
  rcases h12 with rfl | rfl
  · exact code_nzSeal1 w key more text _ n 0 hn fun W => code_seal W key (nonL 1 n) more text hk (nonL_length 1 n) hm ht
  · exact code_nzSeal2 w key more text _ n 0 hn fun W => code_gseal W key (nonL 2 n) more text hk (nonL_length 2 n) hm ht

theorem noise_open (w : World) (suite : Nat) (h12 : suite = 1 ∨ suite = 2) (key more text : List UInt8) (n : Nat) (hn : n < 18446744073709551616) (hk : key.length = 32) (hm : more.length ≤ 2000) (ht : text.length ≤ 2000) :
    Calls Try.prog 20 #[.int .i64 (suite : Int), S key, .int .u64 (n : Int), S more, S (sealN suite key n more text)] w (Grown (.tuple #[S text, .int .i64 0]) w) := by
  rcases h12 with rfl | rfl
  · refine code_nzOpen1 w key more _ _ n 0 hn fun W => ?_
    have := code_open W key (nonL 1 n) more (chxL key (nonL 1 n) 1 text) hk (nonL_length 1 n) hm (by rw [chxL_length]; exact ht)
    rwa [chxL_twice _ _ 1 text (by omega)] at this
  · refine code_nzOpen2 w key more _ _ n 0 hn fun W => ?_
    have := code_gopen W key (nonL 2 n) more (gcxL key (nonL 2 n) text) hk (nonL_length 2 n) hm (by rw [gcxL_length _ _ _ hk (nonL_length 2 n)]; exact ht)
    rwa [gcxL_twice _ _ text hk (nonL_length 2 n)] at this

end Go.Proofs.Ytffeekfofbcobaa

namespace Go.Proofs.Ytffeekfofbcobaa
open Go.RowKit
set_option linter.unusedVariables false

def Sealed1 (w : World) (b B : Nat) (send recv : List UInt8) (suite sealed : Nat) (first : Bool) (text : List UInt8) (e : Ending) (w' : World) : Prop :=
  e = .returned (.tuple #[.int .i64 (sealed : Int), S (sealN suite send sealed [] text), .int .i64 0]) ∧ PairAt w' b B send recv suite (sealed + 1) first ∧ w.grownBy w' (some b)

set_option maxRecDepth 100000 in
set_option maxHeartbeats 2000000 in
theorem code_prseal (w : World) (b B : Nat) (send recv : List UInt8) (suite sealed : Nat) (h12 : suite = 1 ∨ suite = 2) (first : Bool) (h : PairAt w b B send recv suite sealed first) (hk : send.length = 32) (now : Nat) (hn : now < 180) (hs : sealed < 1000) (text : List UInt8) (ht : text.length ≤ 2000) :
    Calls Try.prog 7 #[.pointer (some ⟨b, 0, none⟩), S text, .int .i64 (now : Int)] w (Sealed1 w b B send recv suite sealed first text) := by
  have A1 := code_prover w b B send recv suite sealed first h now hs
  have e1 : decide (180 ≤ now) = false := by simp; omega
  rw [e1] at A1
  have A2 := fun W : World => noise_seal W suite h12 send [] text sealed (by omega) hk (by simp) ht
  have hlt := Blk.lt h
  obtain ⟨c0, c1, c2, c3, c4, c5, c6, f5⟩ := h.cells
  have wn : IntKind.u64.wrap (sealed : Int) = (sealed : Int) := IntWalk.u64_in _ (by omega)
  have H := Lib.hid h
  unfold Sealed1
  generalize sealN suite send sealed [] text = V at *
  clear c0 c2 c4 c6 f5 e1 h12 h
  unfold S at *
  go_enter Try.func7, Try.ntmps7
  go_wp2_with fail
  (with_reducible refine A1.mono ?_)
  rintro e x ⟨rfl, rfl⟩
  go_wp2_with fail
  go_region_held3 (fun W => W.cell? ⟨b, 1, none⟩ = some (.string ⟨send.toArray⟩) ∧ W.cell? ⟨b, 3, none⟩ = some (.int .i64 (suite : Int)) ∧ W.cell? ⟨b, 5, none⟩ = some (.int .i64 (sealed : Int))) (first | exact ⟨c1, c3, c5⟩ | exact ⟨d1, d3, d5⟩) (first
    | (go_at_call 17; (with_reducible refine (A2 _).mono ?_); rintro e x1 ⟨rfl, hg1⟩; have H1 : PairAt x1 b B send recv suite sealed first := Blk.kept (Blk.drew H.out) hg1 nofun; obtain ⟨d0, d1, d2, d3, d4, d5, d6, f5⟩ := H1.cells))
  all_goals
    have n5 := H1.cells.2.2.2.2.2.2.2
    have H2 : PairAt (x1.setCell ⟨b, 5, none⟩ (.int .i64 ((sealed : Int) + 1))) b B send recv suite (sealed + 1) first := Blk.set H1 5 (.int .i64 ((sealed : Int) + 1))
    obtain ⟨m0, m1, m2, m3, m4, m5, m6, m7⟩ := H2.cells
    have HG := Lib.hid (grow_setCell (grow_none (r := some b) (grow_trans (grow_drew (grow_refl w none)) hg1)) 5 (.int .i64 ((sealed : Int) + 1)))
    have HP := Lib.hid H2
    clear hg1 H1 H2 m0 m1 m2 m3 m4 m6 m7 d0 d1 d2 d3 d4 d6
    go_wp2_with fail
    refine bodyPost_ret (v := .tuple #[.int .i64 (sealed : Int), .string ⟨V.toArray⟩, .int .i64 0]) (by simp [results, Try.results7, go_sem]) rfl ?_
    exact ⟨rfl, HP.out, HG.out⟩

theorem code_prseal_old (w : World) (b B : Nat) (send recv : List UInt8) (suite sealed : Nat) (first : Bool) (h : PairAt w b B send recv suite sealed first) (now : Nat) (hn : 180 ≤ now) (hs : sealed < 1000) (text : List UInt8) :
    Calls Try.prog 7 #[.pointer (some ⟨b, 0, none⟩), S text, .int .i64 (now : Int)] w fun e w' => e = .returned (.tuple #[.int .i64 0, S [], .int .i64 11]) ∧ w = w' := by
  have A1 := code_prover w b B send recv suite sealed first h now hs
  have e1 : decide (180 ≤ now) = true := by simp; omega
  rw [e1] at A1
  clear h e1
  unfold S at *
  go_enter Try.func7, Try.ntmps7
  go_wp2_with fail
  (with_reducible refine A1.mono ?_)
  rintro e x ⟨rfl, rfl⟩
  go_wp2_with fail
  refine bodyPost_ret (v := .tuple #[.int .i64 0, .string ⟨#[]⟩, .int .i64 11]) (by simp [results, Try.results7, go_sem]) rfl ?_
  exact ⟨rfl, rfl⟩

theorem code_propen_old (w : World) (b B : Nat) (send recv : List UInt8) (suite sealed : Nat) (first : Bool) (h : PairAt w b B send recv suite sealed first) (now : Nat) (hn : 180 ≤ now) (n : Int) (text : List UInt8) :
    Calls Try.prog 9 #[.pointer (some ⟨b, 0, none⟩), .int .i64 n, S text, .int .i64 (now : Int)] w fun e w' => e = .returned (.tuple #[S [], .int .i64 11]) ∧ w = w' := by
  have A1 := code_prold w b B send recv suite sealed first h now 180 180 rfl (by omega)
  have e1 : decide (180 ≤ now) = true := by simp; omega
  rw [e1] at A1
  clear h e1
  unfold S at *
  go_enter Try.func9, Try.ntmps9
  go_wp2_with fail
  (with_reducible refine A1.mono ?_)
  rintro e x ⟨rfl, rfl⟩
  go_wp2_with fail
  go_ret2
  exact ⟨rfl, rfl⟩

/-- A number that the window refuses. -/
theorem code_propen_no (w : World) (b B : Nat) (send recv : List UInt8) (suite sealed : Nat) (first : Bool) (h : PairAt w b B send recv suite sealed first) (now : Nat) (hn : now < 180) (n : Int) (hwf : (Lit.int .i64 n).wf = true) (text : List UInt8)
    (next : Int) (m : Nat) (hw : WnAt w B next m) (h0 : 0 ≤ next) (h1 : next ≤ 1099511627777) (hm : m < 18446744073709551616) (c : Int) (hc : wnCheck next m n = c) (hc0 : (c == 0) = false) :
    Calls Try.prog 9 #[.pointer (some ⟨b, 0, none⟩), .int .i64 n, S text, .int .i64 (now : Int)] w (Grown (.tuple #[S [], .int .i64 c]) w) := by
  have A1 := code_prold w b B send recv suite sealed first h now 180 180 rfl (by omega)
  have e1 : decide (180 ≤ now) = false := by simp; omega
  rw [e1] at A1
  have A2 := window_check w B next m n hw h0 h1 hm hwf
  rw [hc] at A2
  obtain ⟨c0, c1, c2, c3, c4, c5, c6, f5⟩ := h.cells
  have q : (c != 0) = true := by simp [bne, hc0]
  clear h e1 hc hw h0 h1 hm c1 c2 c3 c4 c5 c6 f5 hwf
  unfold S at *
  go_enter Try.func9, Try.ntmps9
  go_wp2_with fail
  (with_reducible refine A1.mono ?_)
  rintro e x ⟨rfl, rfl⟩
  go_wp2_with fail
  (with_reducible refine A2.mono ?_)
  rintro e x ⟨rfl, hg⟩
  go_wp2_with fail
  go_ret2
  exact ⟨rfl, hg⟩

def Opened1 (w : World) (b B : Nat) (send recv : List UInt8) (suite sealed : Nat) (first : Bool) (text : List UInt8) (next : Int) (m : Nat) (n : Int) (e : Ending) (w' : World) : Prop :=
  e = .returned (.tuple #[S text, .int .i64 0]) ∧ PairAt w' b B send recv suite sealed first ∧ WnAt w' B (wnTake next m n).1 (wnTake next m n).2 ∧ w.grownBy w' (some B)

set_option maxRecDepth 100000 in
set_option maxHeartbeats 2000000 in
theorem code_propen (w : World) (b B : Nat) (send recv : List UInt8) (suite sealed : Nat) (h12 : suite = 1 ∨ suite = 2) (first : Bool) (h : PairAt w b B send recv suite sealed first) (hbB : b ≠ B) (hk : recv.length = 32) (now : Nat) (hn : now < 180) (n : Nat) (n1 : n ≤ 1099511627776) (text : List UInt8) (ht : text.length ≤ 2000)
    (next : Int) (m : Nat) (hw : WnAt w B next m) (h0 : 0 ≤ next) (h1 : next ≤ 1099511627777) (hm : m < 18446744073709551616) (hc : wnCheck next m (n : Int) = 0) :
    Calls Try.prog 9 #[.pointer (some ⟨b, 0, none⟩), .int .i64 (n : Int), S (sealN suite recv n [] text), .int .i64 (now : Int)] w (Opened1 w b B send recv suite sealed first text next m n) := by
  have A1 := code_prold w b B send recv suite sealed first h now 180 180 rfl (by omega)
  have e1 : decide (180 ≤ now) = false := by simp; omega
  rw [e1] at A1
  have hwf : (Lit.int .i64 (n : Int)).wf = true := wf_i64 (by omega)
  have A2 := window_check w B next m n hw h0 h1 hm hwf
  rw [hc] at A2
  have A3 := fun W : World => noise_open W suite h12 recv [] text n (by omega) hk (by simp) ht
  have A4 := fun (W : World) (k : WnAt W B next m) => window_take W B next m n k h0 h1 hm hwf
  rw [hc] at A4
  obtain ⟨c0, c1, c2, c3, c4, c5, c6, f5⟩ := h.cells
  have wn : IntKind.u64.wrap (n : Int) = (n : Int) := IntWalk.u64_in _ (by omega)
  have H := Lib.hid h
  have HW := Lib.hid hw
  unfold Opened1
  generalize sealN suite recv n [] text = V at *
  clear h e1 hc hw h0 h1 hm c1 c2 c3 c4 c5 c6 f5 hwf
  unfold S at *
  go_enter Try.func9, Try.ntmps9
  go_wp2_with fail
  (with_reducible refine A1.mono ?_)
  rintro e x ⟨rfl, rfl⟩
  go_wp2_with fail
  (with_reducible refine A2.mono ?_)
  rintro e x ⟨rfl, hg⟩
  have H1 := H.out.kept hg nofun
  have HW1 := Lib.hid (HW.out.kept hg nofun)
  obtain ⟨c0, c1, c2, c3, c4, c5, c6, f5⟩ := H1.cells
  have HP1 := Lib.hid H1
  have HG1 := Lib.hid hg
  clear hg H1 c0 c1 c4 c5 c6 f5 H HW
  go_wp2_with fail
  go_region_held3 (fun W => W.cell? ⟨b, 2, none⟩ = some (.string ⟨recv.toArray⟩) ∧ W.cell? ⟨b, 3, none⟩ = some (.int .i64 (suite : Int))) (first | exact ⟨c2, c3⟩ | exact ⟨d2, d3⟩) (first
    | (go_at_call 20; (with_reducible refine (A3 _).mono ?_); rintro e x1 ⟨rfl, hg1⟩; have H2 : PairAt x1 b B send recv suite sealed first := Blk.kept (Blk.drew HP1.out) hg1 nofun; obtain ⟨d0, d1, d2, d3, d4, d5, d6, f5⟩ := H2.cells))
  all_goals
    have HW2 := HW1.out.kept (grow_trans (grow_drew (grow_refl _ none)) hg1) nofun
    have A5 := A4 _ HW2
    have HG2 := Lib.hid (grow_trans HG1.out (grow_trans (grow_drew (grow_refl _ none)) hg1))
    have HP2 := Lib.hid H2
    clear hg1 H2 d1 d2 d3 d4 d5 d6 f5 A4 HW2 HW1 HG1
    go_wp2_with fail
    (with_reducible refine A5.mono ?_)
    rintro e x3 ⟨rfl, hw3, hg3⟩
    have HP3 := HP2.out.kept hg3 (by simp; omega)
    go_wp2_with fail
    go_ret2
    exact ⟨rfl, HP3, hw3, grow_trans (grow_none HG2.out) hg3⟩

end Go.Proofs.Ytffeekfofbcobaa

namespace Go.Proofs.Ytffeekfofbcobaa
open Go.RowKit
set_option linter.unusedVariables false

theorem tmod_rest (n m : Int) (hm : 0 < m) : (if n.tmod m < 0 then n.tmod m + m else n.tmod m) = n % m := by
  have h1 := Int.tmod_eq_emod (a := n) (b := m)
  have h2 := Int.emod_nonneg n (b := m) (by omega)
  have h3 := Int.emod_lt_of_pos n hm
  by_cases hn : 0 ≤ n ∨ m ∣ n
  · rw [if_pos hn] at h1
    rw [if_neg (by omega)]; omega
  · rw [if_neg hn] at h1
    have : (m.natAbs : Int) = m := by omega
    have h4 : n % m ≠ 0 := fun h => hn (Or.inr (Int.dvd_of_emod_eq_zero h))
    rw [if_pos (by omega)]; omega

set_option maxHeartbeats 400000 in
theorem rest_any (n m : Int) (w : World) (hn0 : -9223372036854775808 ≤ n) (hn1 : n ≤ 9223372036854775807) (hm : 0 < m) (hm1 : m ≤ 9223372036854775807) :
    Calls Try.prog 8 #[.int .i64 n, .int .i64 m] w fun e w' => e = .returned (.int .i64 (n % m)) ∧ w = w' := by
  have hr := tmod_rest n m hm
  have b1 : n.tmod m < m := Int.tmod_lt_of_pos n hm
  have b2 : -m < n.tmod m := by
    have := Int.emod_nonneg n (b := m) (by omega)
    by_cases h : n.tmod m < 0
    · rw [if_pos h] at hr
      have h4 : n % m ≠ 0 := by
        intro h0
        rw [Int.tmod_eq_zero_of_dvd (Int.dvd_of_emod_eq_zero h0)] at h; omega
      omega
    · omega
  have HR := Lib.hid hr
  clear hr
  go_enter Try.func8, Try.ntmps8
  go_wp2
  all_goals
    go_ret
    refine ⟨ret_int ?_, rfl⟩
    have := HR.out
    first | rwa [if_pos (by assumption)] at this | rwa [if_neg (by omega)] at this

end Go.Proofs.Ytffeekfofbcobaa

namespace Go.Proofs.Ytffeekfofbcobaa
open Go.RowKit
set_option linter.unusedVariables false

theorem rest_nat (n : Int) (m : Nat) (M : Int) (hM : M = (m : Int)) (hn0 : -9223372036854775808 ≤ n) (hn1 : n ≤ 9223372036854775807) (hm : 0 < m) (hm1 : m ≤ 9223372036854775807) :
    ∃ r : Nat, r < m ∧ ∀ W : World, Calls Try.prog 8 #[.int .i64 n, .int .i64 M] W fun e w' => e = .returned (.int .i64 (r : Int)) ∧ W = w' := by
  subst hM
  refine ⟨(n % m).toNat, ?_, fun W => ?_⟩
  · have := Int.emod_lt_of_pos n (show (0 : Int) < m by omega)
    have := Int.emod_nonneg n (show (m : Int) ≠ 0 by omega)
    omega
  · have h := rest_any n m W hn0 hn1 (by omega) (by omega)
    have := Int.emod_nonneg n (show (m : Int) ≠ 0 by omega)
    rw [show (((n % (m : Int)).toNat : Nat) : Int) = n % (m : Int) from by omega]
    exact h
theorem wf_i64_of {n : Int} (h : (Lit.int .i64 n).wf = true) : -9223372036854775808 ≤ n ∧ n ≤ 9223372036854775807 := by
  simp only [Lit.wf, Bool.and_eq_true, decide_eq_true_eq] at h
  exact h

end Go.Proofs.Ytffeekfofbcobaa

namespace Go.Proofs.Ytffeekfofbcobaa
open Go.RowKit
set_option linter.unusedVariables false

structure TwoAt (w : World) (a A b B : Nat) (x y : List UInt8) (suite sa sb : Nat) (na nb : Int) (ma mb : Nat) : Prop where
  pa : PairAt w a A x y suite sa true
  pb : PairAt w b B y x suite sb false
  wa : WnAt w A na ma
  wb : WnAt w B nb mb
structure Apart4 (w : World) (a A b B : Nat) : Prop where
  la : w.heap.size ≤ a
  lA : w.heap.size ≤ A
  lb : w.heap.size ≤ b
  lB : w.heap.size ≤ B
  aA : a ≠ A
  bB : b ≠ B
  ab : a ≠ b
  aB : a ≠ B
  bA : b ≠ A
  AB : A ≠ B
def PairedIs (w : World) (suite : Nat) (x y : List UInt8) (e : Ending) (w' : World) : Prop :=
  ∃ a A b B, e = .returned (.tuple #[.pointer (some ⟨a, 0, none⟩), .pointer (some ⟨b, 0, none⟩)]) ∧ TwoAt w' a A b B x y suite 0 0 0 0 0 0 ∧ Apart4 w a A b B ∧ w.grownBy w' none

set_option maxHeartbeats 1000000 in
theorem code_paired (w : World) (s : Int) (hs : (Lit.int .i64 s).wf = true) (x y : List UInt8) (hx : x.length ≤ 9223372036854775807) (hy : y.length ≤ 9223372036854775807) :
    ∃ suite : Nat, (suite = 1 ∨ suite = 2) ∧ Calls Try.prog 6 #[.int .i64 s, S x, S y] w (PairedIs w suite (sizedL x 32) (sizedL y 32)) := by
  have hs' := wf_i64_of hs
  obtain ⟨r, hr, R⟩ := rest_nat s 2 2 rfl hs'.1 hs'.2 (by omega) (by omega)
  refine ⟨1 + r, by omega, ?_⟩
  obtain ⟨u, hu⟩ : ∃ u, u = 1 + r := ⟨_, rfl⟩
  have h12 : u = 1 ∨ u = 2 := by omega
  have eu : 1 + (r : Int) = (u : Int) := by omega
  have wu : IntKind.i64.wrap (1 + (r : Int)) = (u : Int) := by rw [eu]; exact IntWalk.i64_in _ (by omega)
  rw [← hu]
  have A1 : ∀ W : World, Calls Try.prog 12 #[S x, .int .i64 32] W (Grown (S (sizedL x 32)) W) := fun W => code_sized W x 32 hx (by omega)
  have A2 : ∀ W : World, Calls Try.prog 12 #[S y, .int .i64 32] W (Grown (S (sizedL y 32)) W) := fun W => code_sized W y 32 hy (by omega)
  have lx := sizedL_length x 32
  have ly := sizedL_length y 32
  generalize sizedL x 32 = X at *
  generalize sizedL y 32 = Y at *
  have A3 := fun W : World => code_prnew W u h12 X Y lx ly true
  have A4 := fun W : World => code_prnew W u h12 Y X ly lx false
  clear hs hs' hx hy lx ly hu h12
  unfold S at *
  go_enter Try.func6, Try.ntmps6
  go_wp2_with fail
  (with_reducible refine (R _).mono ?_)
  rintro e x0 ⟨rfl, rfl⟩
  go_wp2_with fail
  (with_reducible refine (A1 _).mono ?_)
  rintro e x1 ⟨rfl, hg1⟩
  go_wp2_with fail
  (with_reducible refine (A2 _).mono ?_)
  rintro e x2 ⟨rfl, hg2⟩
  go_wp2_with fail
  (with_reducible refine (A3 _).mono ?_)
  rintro e x3 ⟨a, A, rfl, hpa, hwa, hg3, la, lA, aA⟩
  go_wp2_with fail
  (with_reducible refine (A4 _).mono ?_)
  rintro e x4 ⟨b, B, rfl, hpb, hwb, hg4, lb, lB, bB⟩
  have z1 := Blk.lt hpa
  have z2 := lt_of_obj hwa
  have z3 := (grow_trans hg1 hg2).size
  have z4 := hg3.size
  have hpa' := hpa.kept hg4 nofun
  have hwa' := hwa.kept hg4 nofun
  have HF : Hid (PairedIs w u X Y (.returned (.tuple #[.pointer (some ⟨a, 0, none⟩), .pointer (some ⟨b, 0, none⟩)])) x4) :=
    Lib.hid ⟨a, A, b, B, rfl, ⟨hpa', hpb, hwa', hwb⟩, ⟨by omega, by omega, by omega, by omega, aA, bB, by omega, by omega, by omega, by omega⟩, grow_trans (grow_trans (grow_trans hg1 hg2) hg3) hg4⟩
  clear hpa hwa hg1 hg2 hg3 hg4 hpa' hwa' hpb hwb
  go_wp2_with fail
  go_ret2
  exact HF.out

end Go.Proofs.Ytffeekfofbcobaa

namespace Go.Proofs.Ytffeekfofbcobaa
open Go.RowKit
set_option linter.unusedVariables false

theorem min100 (n : Nat) : ∃ k : Nat, k ≤ 100 ∧ k ≤ n ∧ (if (100 : Int) < (n : Int) then (100 : Int) else (n : Int)) = (k : Int) ∧ min (n : Int) 100 = (k : Int) :=
  ⟨min n 100, by omega, by omega, by split <;> omega, by omega⟩

set_option maxRecDepth 100000 in
set_option maxHeartbeats 4000000 in
theorem walk_PairOld (x0 : Int) (s1 s2 s3 : ByteArray) (x4 : Int) (w0 : (Lit.int .i64 x0).wf = true) (w1 : s1.size ≤ maxLen) (w2 : s2.size ≤ maxLen) (w3 : s3.size ≤ maxLen) (w4 : (Lit.int .i64 x4).wf = true) (w : World) :
    Calls Try.prog 4 #[.int .i64 x0, .string s1, .string s2, .string s3, .int .i64 x4] w fun e w' => e = .returned (.bool true) ∧ Below w.heap.size w w' := by
  obtain ⟨x, rfl, hx⟩ := list_of s1
  obtain ⟨y, rfl, hy⟩ := list_of s2
  obtain ⟨t, rfl, ht⟩ := list_of s3
  unfold maxLen at w1 w2 w3
  rw [← hx] at w1
  rw [← hy] at w2
  rw [← ht] at w3
  obtain ⟨suite, h12, AP⟩ := code_paired w x0 w0 x y (by omega) (by omega)
  have w4' := wf_i64_of w4
  obtain ⟨n, hn, R⟩ := rest_nat x4 400 400 rfl w4'.1 w4'.2 (by omega) (by omega)
  have lx := sizedL_length x 32
  have ly := sizedL_length y 32
  generalize sizedL x 32 = X at *
  generalize sizedL y 32 = Y at *
  obtain ⟨k, k100, kt, km1, km2⟩ := min100 t.length
  have k3 : (k : Int) ≤ (t.length : Int) := by omega
  have lT : (t.take k).length = k := by rw [List.length_take]; omega
  have r2 := rule_ext
  have htk : List.take (k - 0) (List.drop 0 t) = t.take k := by simp
  have H12 := Lib.hid h12
  have HLX := Lib.hid lx
  have HLY := Lib.hid ly
  have HLT := Lib.hid lT
  clear w0 w1 w2 w4 w4' hx hy ht lx ly lT h12
  unfold S at AP
  go_enter Try.func4, Try.ntmps4
  go_wp2_with fail
  (with_reducible refine AP.mono ?_)
  rintro e x1 ⟨a, A, b, B, rfl, h2, h4, hg⟩
  have HA := Lib.hid h4
  have S1 := code_prstale x1 a A X Y suite 0 true h2.pa n (by omega)
  have S2 := code_prstale x1 b B Y X suite 0 false h2.pb n (by omega)
  have O1 := code_prover x1 a A X Y suite 0 true h2.pa n (by omega)
  have O2 := code_prover x1 b B Y X suite 0 false h2.pb n (by omega)
  have E1 : Calls Try.prog 7 #[.pointer (some ⟨a, 0, none⟩), .string ⟨(t.take k).toArray⟩, .int .i64 0] x1 (Sealed1 x1 a A X Y suite 0 true (t.take k)) := code_prseal x1 a A X Y suite 0 H12.out true h2.pa HLX.out 0 (by omega) (by omega) (t.take k) (by have := HLT.out; omega)
  have H2 := Lib.hid h2
  have HG := Lib.hid hg
  clear h2 h4 hg AP
  by_cases n180 : 180 ≤ n
  · have d1 : decide (180 ≤ n) = true := by simp; omega
    have d2 : decide (120 ≤ n) = true := by simp; omega
    rw [d1, d2] at S1 S2
    rw [d1] at O1 O2
    have i1 : ((120 : Int) ≤ (n : Int)) := by omega
    have i2 : ((180 : Int) ≤ (n : Int)) := by omega
    go_wp2_with fail
    (with_reducible refine (R _).mono ?_)
    rintro e x2 ⟨rfl, rfl⟩
    go_wp2_with fail
    (with_reducible refine S1.mono ?_)
    rintro e x2 ⟨rfl, rfl⟩
    go_wp2_with fail
    (with_reducible refine S2.mono ?_)
    rintro e x2 ⟨rfl, rfl⟩
    go_wp2_with fail
    (with_reducible refine O1.mono ?_)
    rintro e x2 ⟨rfl, rfl⟩
    go_wp2_with fail
    (with_reducible refine O2.mono ?_)
    rintro e x2 ⟨rfl, rfl⟩
    go_wp2_with fail
    clear S1 S2 O1 O2 R
    (with_reducible refine E1.mono ?_)
    rintro e x2 ⟨rfl, ha2, hg2⟩
    have hb2 := H2.out.pb.kept hg2 (by have := HA.out.ab; simp; omega)
    have hw2 := H2.out.wb.kept hg2 (by have := HA.out.aB; simp; omega)
    have HG2 := Lib.hid (grow_trans_new HG.out hg2 HA.out.la)
    have E2 : Calls Try.prog 9 #[.pointer (some ⟨b, 0, none⟩), .int .i64 0, S (sealN suite X 0 [] (t.take k)), .int .i64 (n : Int)] x2 (fun e w' => e = .returned (.tuple #[S [], .int .i64 11]) ∧ x2 = w') := code_propen_old x2 b B Y X suite 0 false hb2 n (by omega) 0 _
    have E3 : Calls Try.prog 7 #[.pointer (some ⟨a, 0, none⟩), S (t.take k), .int .i64 (n : Int)] x2 (fun e w' => e = .returned (.tuple #[.int .i64 0, S [], .int .i64 11]) ∧ x2 = w') := code_prseal_old x2 a A X Y suite 1 true ha2 n (by omega) (by omega) (t.take k)
    generalize sealN suite X 0 [] (t.take k) = V at *
    clear ha2 hb2 hw2 hg2 E1
    unfold S at *
    go_wp2_with fail
    (with_reducible refine E2.mono ?_)
    rintro e x3 ⟨rfl, rfl⟩
    go_wp2_with fail
    (with_reducible refine E3.mono ?_)
    rintro e x3 ⟨rfl, rfl⟩
    go_wp2_with fail
    go_ret
    exact ⟨rfl, grow_below HG2.out _ (Nat.le_refl _) (by simp)⟩
  by_cases n120 : 120 ≤ n
  · have d1 : decide (180 ≤ n) = false := by simp; omega
    have d2 : decide (120 ≤ n) = true := by simp; omega
    rw [d1, d2] at S1 S2
    rw [d1] at O1 O2
    have i1 : ((120 : Int) ≤ (n : Int)) := by omega
    have i2 : ¬ ((180 : Int) ≤ (n : Int)) := by omega
    go_wp2_with fail
    (with_reducible refine (R _).mono ?_)
    rintro e x2 ⟨rfl, rfl⟩
    go_wp2_with fail
    (with_reducible refine S1.mono ?_)
    rintro e x2 ⟨rfl, rfl⟩
    go_wp2_with fail
    (with_reducible refine S2.mono ?_)
    rintro e x2 ⟨rfl, rfl⟩
    go_wp2_with fail
    (with_reducible refine O1.mono ?_)
    rintro e x2 ⟨rfl, rfl⟩
    go_wp2_with fail
    (with_reducible refine O2.mono ?_)
    rintro e x2 ⟨rfl, rfl⟩
    go_wp2_with fail
    clear S1 S2 O1 O2 R
    (with_reducible refine E1.mono ?_)
    rintro e x2 ⟨rfl, ha2, hg2⟩
    have hb2 := H2.out.pb.kept hg2 (by have := HA.out.ab; simp; omega)
    have hw2 := H2.out.wb.kept hg2 (by have := HA.out.aB; simp; omega)
    have HG2 := Lib.hid (grow_trans_new HG.out hg2 HA.out.la)
    have E2 : Calls Try.prog 9 #[.pointer (some ⟨b, 0, none⟩), .int .i64 0, S (sealN suite X 0 [] (t.take k)), .int .i64 (n : Int)] x2 (Opened1 x2 b B Y X suite 0 false (t.take k) 0 0 0) := code_propen x2 b B Y X suite 0 H12.out false hb2 HA.out.bB HLX.out n (by omega) 0 (by omega) (t.take k) (by have := HLT.out; omega) 0 0 hw2 (by omega) (by omega) (by omega) (by decide)
    have lV := sealN_length suite X 0 [] (t.take k) HLX.out
    generalize sealN suite X 0 [] (t.take k) = V at *
    have HA2 := Lib.hid ha2
    clear ha2 hb2 hw2 hg2 E1 lV
    unfold S at *
    go_wp2_with fail
    (with_reducible refine E2.mono ?_)
    rintro e x3 ⟨rfl, hb3, hw3, hg3⟩
    have ha3 := HA2.out.kept hg3 (by have := HA.out.aB; simp; omega)
    have HG3 := Lib.hid (grow_trans_new HG2.out hg3 HA.out.lB)
    have E3 : Calls Try.prog 7 #[.pointer (some ⟨a, 0, none⟩), S (t.take k), .int .i64 (n : Int)] x3 (Sealed1 x3 a A X Y suite 1 true (t.take k)) := code_prseal x3 a A X Y suite 1 H12.out true ha3 HLX.out n (by omega) (by omega) (t.take k) (by have := HLT.out; omega)
    clear hb3 hw3 hg3 ha3 E2 HA2
    unfold S at E3 ⊢
    go_wp2_with fail
    (with_reducible refine E3.mono ?_)
    rintro e x4 ⟨rfl, ha4, hg4⟩
    have HG4 := Lib.hid (grow_trans_new HG3.out hg4 HA.out.la)
    clear ha4 hg4 E3
    unfold S
    go_wp2_with fail
    go_ret
    exact ⟨rfl, grow_below HG4.out _ (Nat.le_refl _) (by simp)⟩
  · have d1 : decide (180 ≤ n) = false := by simp; omega
    have d2 : decide (120 ≤ n) = false := by simp; omega
    rw [d1, d2] at S1 S2
    rw [d1] at O1 O2
    have i1 : ¬ ((120 : Int) ≤ (n : Int)) := by omega
    have i2 : ¬ ((180 : Int) ≤ (n : Int)) := by omega
    go_wp2_with fail
    (with_reducible refine (R _).mono ?_)
    rintro e x2 ⟨rfl, rfl⟩
    go_wp2_with fail
    (with_reducible refine S1.mono ?_)
    rintro e x2 ⟨rfl, rfl⟩
    go_wp2_with fail
    (with_reducible refine S2.mono ?_)
    rintro e x2 ⟨rfl, rfl⟩
    go_wp2_with fail
    (with_reducible refine O1.mono ?_)
    rintro e x2 ⟨rfl, rfl⟩
    go_wp2_with fail
    (with_reducible refine O2.mono ?_)
    rintro e x2 ⟨rfl, rfl⟩
    go_wp2_with fail
    clear S1 S2 O1 O2 R
    (with_reducible refine E1.mono ?_)
    rintro e x2 ⟨rfl, ha2, hg2⟩
    have hb2 := H2.out.pb.kept hg2 (by have := HA.out.ab; simp; omega)
    have hw2 := H2.out.wb.kept hg2 (by have := HA.out.aB; simp; omega)
    have HG2 := Lib.hid (grow_trans_new HG.out hg2 HA.out.la)
    have E2 : Calls Try.prog 9 #[.pointer (some ⟨b, 0, none⟩), .int .i64 0, S (sealN suite X 0 [] (t.take k)), .int .i64 (n : Int)] x2 (Opened1 x2 b B Y X suite 0 false (t.take k) 0 0 0) := code_propen x2 b B Y X suite 0 H12.out false hb2 HA.out.bB HLX.out n (by omega) 0 (by omega) (t.take k) (by have := HLT.out; omega) 0 0 hw2 (by omega) (by omega) (by omega) (by decide)
    have lV := sealN_length suite X 0 [] (t.take k) HLX.out
    generalize sealN suite X 0 [] (t.take k) = V at *
    have HA2 := Lib.hid ha2
    clear ha2 hb2 hw2 hg2 E1 lV
    unfold S at *
    go_wp2_with fail
    (with_reducible refine E2.mono ?_)
    rintro e x3 ⟨rfl, hb3, hw3, hg3⟩
    have ha3 := HA2.out.kept hg3 (by have := HA.out.aB; simp; omega)
    have HG3 := Lib.hid (grow_trans_new HG2.out hg3 HA.out.lB)
    have E3 : Calls Try.prog 7 #[.pointer (some ⟨a, 0, none⟩), S (t.take k), .int .i64 (n : Int)] x3 (Sealed1 x3 a A X Y suite 1 true (t.take k)) := code_prseal x3 a A X Y suite 1 H12.out true ha3 HLX.out n (by omega) (by omega) (t.take k) (by have := HLT.out; omega)
    clear hb3 hw3 hg3 ha3 E2 HA2
    unfold S at E3 ⊢
    go_wp2_with fail
    (with_reducible refine E3.mono ?_)
    rintro e x4 ⟨rfl, ha4, hg4⟩
    have HG4 := Lib.hid (grow_trans_new HG3.out hg4 HA.out.la)
    clear ha4 hg4 E3
    unfold S
    go_wp2_with fail
    go_ret
    exact ⟨rfl, grow_below HG4.out _ (Nat.le_refl _) (by simp)⟩

end Go.Proofs.Ytffeekfofbcobaa
