/-
  Several texts of this claim in one: Begun, Text, Block, Stream, XorPlain, StreamPlain, SubKey, SealPlain, AesPlain, AesMade, AesBlock, AesCols, AesExpand, AesEnc, AesNew, AesDec, AesEncDec.
-/
import Derived.Test.YtmomfbkpniblgaaGreatDoorDg07
import Derived.Test.YtmomfbkpniblgaaGreatDoorDgWxor
import Derived.Deep.RegionWith
import Derived.Test.YtmomfbkpniblgaaGreatDoorDg04
import Derived.Lib.LazyBuf
import Derived.Great.Walk
import Derived.StillTailTactics
import Derived.Deep.DeepCutAuto
import Derived.Deep.CutBlock
import Derived.Deep.Cut
import Derived.Laws.Cover3
namespace Go.Proofs.YtmomfbkpniblgaaGreatDoor
open Go.RowKit
set_option linter.unusedVariables false

def begK (K : List UInt8) : Nat → List Nat
  | 0 => [1634760805, 857760878, 2036477234, 1797285236, 0, 0, 0, 0, 0, 0, 0, 0, 0, 0, 0, 0]
  | i + 1 => (begK K i).set (4 + i) (leN ((K.drop (4 * i)).take 4))

def begun (K : List UInt8) : List Nat := begK K 12

theorem leN_take4 (l : List UInt8) : leN (l.take 4) < 4294967296 := by
  refine Nat.lt_of_lt_of_le (leN_lt _) ?_
  have : (l.take 4).length ≤ 4 := by rw [List.length_take]; omega
  exact (Nat.pow_le_pow_right (by omega) this : 256 ^ (l.take 4).length ≤ 256 ^ 4)

theorem begK_ok (K : List UInt8) (i : Nat) : Small (begK K i) ∧ (begK K i).length = 16 := by
  induction i with
  | zero =>
    refine ⟨fun j => ?_, rfl⟩
    unfold begK
    by_cases h : j < 16
    · have : ∀ j, j < 16 → List.getD [1634760805, 857760878, 2036477234, 1797285236, 0, 0, 0, 0, 0, 0, 0, 0, 0, 0, 0, 0] j 0 < 4294967296 := by decide
      exact this j h
    · rw [List.getD_eq_getElem?_getD, List.getElem?_eq_none (by simp; omega)]
      decide
  | succ i ih => exact ⟨getD_set_small ih.1 _ _ (leN_take4 _), by rw [begK, List.length_set]; exact ih.2⟩

set_option maxRecDepth 20000 in
set_option maxHeartbeats 2000000 in
theorem code_cbegun (w : World) (k r : List UInt8) (hK : (k ++ r).length = 48) :
    Calls Tryz.prog 254 #[S k, S r] w fun e w' => e = .returned (A16 (begun (k ++ r))) ∧ w.grownBy w' none := by
  have hkr : k.length + r.length ≤ 9223372036854775807 := by rw [List.length_append] at hK; omega
  obtain ⟨K, hKe⟩ : ∃ K, K = k ++ r := ⟨_, rfl⟩
  rw [← hKe] at hK ⊢
  have HK := Lib.hid hK
  have HKE := Lib.hid hKe
  have HF := Lib.hid (show A16 (begun K) = .agg ((begK K 12).map wcell).toArray from rfl)
  generalize hV : A16 (begun K) = V at *
  clear hK hKe hV
  have r1 := rule_app
  have r2 := rule_ext
  unfold S
  go_enter Tryz.func254, Tryz.ntmps254
  go_wp2_with fail
  rw [← HKE.out]
  generalize hx : (w.alloc (.cells #[Value.int IntKind.u32 0, Value.int IntKind.u32 0, Value.int IntKind.u32 0, Value.int IntKind.u32 0, Value.int IntKind.u32 0, Value.int IntKind.u32 0, Value.int IntKind.u32 0, Value.int IntKind.u32 0, Value.int IntKind.u32 0, Value.int IntKind.u32 0, Value.int IntKind.u32 0, Value.int IntKind.u32 0, Value.int IntKind.u32 0, Value.int IntKind.u32 0, Value.int IntKind.u32 0, Value.int IntKind.u32 0] 335)).alloc (.cells #[Value.int IntKind.u32 1634760805, Value.int IntKind.u32 857760878, Value.int IntKind.u32 2036477234, Value.int IntKind.u32 1797285236, Value.int IntKind.u32 0, Value.int IntKind.u32 0, Value.int IntKind.u32 0, Value.int IntKind.u32 0, Value.int IntKind.u32 0, Value.int IntKind.u32 0, Value.int IntKind.u32 0, Value.int IntKind.u32 0, Value.int IntKind.u32 0, Value.int IntKind.u32 0, Value.int IntKind.u32 0, Value.int IntKind.u32 0] 335) = x
  obtain ⟨B, hBe⟩ : ∃ B, B = w.heap.size := ⟨_, rfl⟩
  have hB0 : Blk x B 335 zero16 := by rw [← hx, hBe]; exact obj_alloc (obj_new w _)
  have hB1 : WB x (B + 1) (begK K 0) := by
    have := obj_new (w.alloc (.cells #[Value.int IntKind.u32 0, Value.int IntKind.u32 0, Value.int IntKind.u32 0, Value.int IntKind.u32 0, Value.int IntKind.u32 0, Value.int IntKind.u32 0, Value.int IntKind.u32 0, Value.int IntKind.u32 0, Value.int IntKind.u32 0, Value.int IntKind.u32 0, Value.int IntKind.u32 0, Value.int IntKind.u32 0, Value.int IntKind.u32 0, Value.int IntKind.u32 0, Value.int IntKind.u32 0, Value.int IntKind.u32 0] 335)) (.cells #[Value.int IntKind.u32 1634760805, Value.int IntKind.u32 857760878, Value.int IntKind.u32 2036477234, Value.int IntKind.u32 1797285236, Value.int IntKind.u32 0, Value.int IntKind.u32 0, Value.int IntKind.u32 0, Value.int IntKind.u32 0, Value.int IntKind.u32 0, Value.int IntKind.u32 0, Value.int IntKind.u32 0, Value.int IntKind.u32 0, Value.int IntKind.u32 0, Value.int IntKind.u32 0, Value.int IntKind.u32 0, Value.int IntKind.u32 0] 335)
    rw [show (w.alloc (.cells #[Value.int IntKind.u32 0, Value.int IntKind.u32 0, Value.int IntKind.u32 0, Value.int IntKind.u32 0, Value.int IntKind.u32 0, Value.int IntKind.u32 0, Value.int IntKind.u32 0, Value.int IntKind.u32 0, Value.int IntKind.u32 0, Value.int IntKind.u32 0, Value.int IntKind.u32 0, Value.int IntKind.u32 0, Value.int IntKind.u32 0, Value.int IntKind.u32 0, Value.int IntKind.u32 0, Value.int IntKind.u32 0] 335)).heap.size = B + 1 from by rw [hBe]; simp] at this
    rw [← hx]
    exact this
  have hg0 : w.grownBy x none := by rw [← hx]; exact grow_alloc (grow_alloc (grow_refl w none) _) _
  have hBs : w.heap.size ≤ B := by omega
  rw [← hBe]
  have HZ := Lib.hid hB0
  have HG := Lib.hid hg0
  clear hx hBe hB0 hg0
  go_loopw [6, 7] (fun vi vt wr => ∃ (i : Nat) (T : List UInt8), i ≤ 12 ∧ vi = .int .i64 i ∧ vt = S T ∧ Hid (T = K.drop (4 * i)) ∧ T.length + 4 * i ≤ 48 ∧ 48 ≤ T.length + 4 * i ∧ WB wr (B + 1) (begK K i) ∧ x.grownBy wr (some (B + 1))) (fun vi _ _ => 12 - (intOf vi).toNat)
  case atStart => exact ⟨0, K, by omega, rfl, rfl, by rw [Nat.mul_zero, List.drop_zero]; rfl, by have := HK.out; omega, by have := HK.out; omega, hB1, grow_refl _ _⟩
  case round =>
    clear hB1
    obtain ⟨i, T, hi, rfl, rfl, hT, t1, t2, hB, hg⟩ := hrel
    by_cases hlt : i < 12
    · have l4 : 4 ≤ T.length := by omega
      have lne : T ≠ [] := by intro e; subst e; simp at l4
      have q1 : (!T.isEmpty) = true := by simpa using lne
      have q2 : T.isEmpty = false := by simpa using lne
      have e4 : List.take (T.length - 4) (List.drop 4 T) = List.drop 4 T := List.take_of_length_le (by simp)
      have l8 : (T.take 4).take 8 = T.take 4 := by rw [List.take_take]; rfl
      have ltk : (T.take 4).length ≤ 140737488355328 := by rw [List.length_take]; omega
      have hN := leN_take4 T
      have hcl := hB.cell (4 + i) (by rw [(begK_ok K i).2]; omega)
      have hfr := hB.frozen (4 + i)
      have HN := Lib.hid (show leN (T.take 4) = leN ((K.drop (4 * i)).take 4) from by rw [hT.out])
      have ec : ∀ n : Nat, n < 4294967296 → (n : Int) % 4294967296 = (n : Int) := fun n h => by omega
      unfold S
      go_wp2_with fail
      refine (wire_little _ (T.take 4) ltk).mono ?_
      rintro e w1 ⟨rfl, rfl⟩
      rw [l8]
      have hcv : ((leN (T.take 4) : Nat) : Int) % 4294967296 = ((leN (T.take 4) : Nat) : Int) := by omega
      clear ec l8
      generalize leN (T.take 4) = N at *
      have hst : WB (wr.setCell ⟨B + 1, 4 + i, none⟩ (.int .u32 (N : Int))) (B + 1) (begK K (i + 1)) := by
        rw [begK, ← HN.out]
        exact hB.set (4 + i) N
      have hgs := grow_setCell hg (4 + i) (.int .u32 (N : Int))
      go_wp2_with fail
      go_region
      go_wp2_with fail
      go_roundw
      case rel => exact ⟨i + 1, T.drop 4, by omega, by go_num, rfl, by rw [hT.out, List.drop_drop]; rfl, by rw [List.length_drop]; omega, by rw [List.length_drop]; omega, hst, grow_drew hgs⟩
      case measure => simp [intOf]; omega
    · obtain rfl : i = 12 := by omega
      obtain rfl : T = [] := List.eq_nil_of_length_eq_zero (by omega)
      have hle := (begK_ok K 12).2
      obtain ⟨L, hL⟩ : ∃ L, L = begK K 12 := ⟨_, rfl⟩
      rw [← hL] at hle hB
      have HLL := Lib.hid (show V = .agg (L.map wcell).toArray from by rw [HF.out, hL])
      clear hL HF
      have hB' : Blk wr (B + 1) 335 (L.map wcell) := hB
      have hZ := (HZ.out).kept hg (by simp)
      have hi2 : (Tryz.prog.info? 335).map (·.size) = some (L.map wcell).length := by rw [List.length_map, hle]; exact info16
      have hi3 : (Tryz.prog.info? 335).map (·.size) = some (L.map wcell).toArray.size := by rw [List.size_toArray]; exact hi2
      have hth : wr.there B 0 (L.map wcell).toArray.size := hZ.there _ (by simp [zero16, hle])
      have HI := Lib.hid hi2
      have HI3 := Lib.hid hi3
      have HT := Lib.hid hth
      have HRg := Lib.hid hB'.range
      clear hi2 hi3 hth hZ
      unfold S
      go_upto_region 6 with (fail)
      refine wp_region_lit ?_
      refine wpList_load_mid rfl 335 _ rfl (B + 1) 0 rfl (L.map wcell) _ HRg.out Tryz.underlying335 rfl HI.out ?_
      refine wpList_store_mid rfl 335 _ _ rfl B 0 (L.map wcell).toArray rfl rfl HT.out HI3.out (wcells_one _) ?_
      refine wpList_nil ?_
      have hW := ((HZ.out).kept hg (by simp)).store (L.map wcell) (by simpa [zero16] using hle)
      have hgW : w.grownBy (wr.setCells B 0 (L.map wcell).toArray.toList) none := grow_setCells_new (grow_trans_new HG.out hg (by omega)) B (by omega) _ _
      go_wp2_with fail
      refine bodyPost_ret (v := .agg (L.map wcell).toArray) (results_row Tryz.results254 _ _ B rfl (L.map wcell) _ hW Tryz.underlying335 rfl HI.out) rfl ?_
      exact ⟨by rw [HLL.out], hgW⟩

end Go.Proofs.YtmomfbkpniblgaaGreatDoor

namespace Go.Proofs.YtmomfbkpniblgaaGreatDoor
open Go.RowKit
set_option linter.unusedVariables false

/-- Words as bytes, four each. -/
def textW (l : List Nat) : List UInt8 := l.flatMap fun n => leB n 4

theorem textW_length (l : List Nat) : (textW l).length = 4 * l.length := by
  induction l with
  | nil => rfl
  | cons n l ih => simp only [textW, List.flatMap_cons, List.length_append, leB_length, List.length_cons] at ih ⊢; omega

theorem textW_snoc (l : List Nat) (n : Nat) : textW (l ++ [n]) = textW l ++ leB n 4 := by simp [textW]

/-- So many words lie there, from an offset on. -/
def WAt (w : World) (B o : Nat) (l : List Nat) : Prop := ∀ i, (h : i < l.length) → w.cell? ⟨B, o + i, none⟩ = some (.int .u32 (l[i] : Nat))

theorem WAt.kept {w w' : World} {B o : Nat} {l : List Nat} {r : Option Nat} (h : WAt w B o l) (g : w.grownBy w' r) (hr : some B ≠ r) : WAt w' B o l := fun i hi => g.cell (a := ⟨B, o + i, none⟩) (h i hi) hr

theorem WAt.below {w w' : World} {B o n : Nat} {l : List Nat} (h : WAt w B o l) (g : Below n w w') (hn : B < n) : WAt w' B o l := fun i hi => (g.cell (p := ⟨B, o + i, none⟩) hn).trans (h i hi)

def Texted (l : List UInt8) (w : World) (e : Ending) (w' : World) : Prop := e = .returned (S l) ∧ Below w.heap.size w w'

set_option maxRecDepth 20000 in
set_option maxHeartbeats 1000000 in
theorem code_text (w : World) (B o cap : Nat) (l : List Nat) (h : WAt w B o l) (hl : l.length ≤ 16) (hs : ∀ n ∈ l, n < 4294967296) (hlt : B < w.heap.size) :
    Calls Tryz.prog 256 #[.slice (some ⟨B, o, none⟩) l.length cap] w (Texted (textW l) w) := by
  have HL := fun j => (textW_length (l.take j))
  have hfin : textW (l.take l.length) = textW l := by rw [List.take_length]
  have HF := Lib.hid hfin
  have HLh := Lib.hid HL
  have HS := Lib.hid hs
  clear hs HL hfin
  go_enter Tryz.func256, Tryz.ntmps256
  go_wp2_with fail
  go_loopw [3, 8] (fun vb vi wr => ∃ j : Nat, j ≤ l.length ∧ vi = .int .i64 j ∧ brow wr w.heap.size vb (textW (l.take j)) ∧ Below w.heap.size w wr) (fun _ vi _ => l.length - (intOf vi).toNat)
  case atStart => exact ⟨0, by omega, rfl, brow_nil _ _, Below.refl _ _⟩
  case round =>
    obtain ⟨j, hj, rfl, hown, HB⟩ := hrel
    by_cases hlj : j < l.length
    · have hc := (h.below HB hlt) j hlj
      have hn := HS.out l[j] (List.getElem_mem hlj)
      have hsn := Lib.hid (show textW (l.take (j + 1)) = textW (l.take j) ++ leB l[j] 4 from by rw [List.take_succ_eq_append_getElem hlj, textW_snoc])
      have hlen : (textW (l.take j)).length + 8 ≤ 140737488355328 := by rw [HLh.out, List.length_take]; omega
      have hbz := HB.size
      have e1 : IntKind.u64.wrap ((l[j] : Nat) : Int) = ((l[j] : Nat) : Int) := IntWalk.u64_in _ (by omega)
      go_wp2_with fail
      refine (wire_appendLittle wr w.heap.size u3 _ l[j] 4 hown (by omega) (by omega) hlen hbz).mono ?_
      rintro e w1 ⟨v', rfl, hown', hB'⟩
      rw [← hsn.out] at hown'
      replace HB := HB.trans hB'
      clear hown hc hB' hbz hlen e1
      go_wp2_with fail
      go_roundw
      case rel => exact ⟨j + 1, by omega, by go_num, hown', HB⟩
      case measure => simp [intOf]; omega
    · obtain rfl : j = l.length := by omega
      have hcv := conv_brow hown
      rw [HF.out] at hcv
      unfold S at hcv
      go_wp2_with fail
      go_ret
      exact ⟨rfl, HB⟩

def checkN (key nonce : List UInt8) (size : Nat) : Int := if key.length = 32 ∧ nonce.length = size then 0 else 1

theorem code_check (w : World) (key nonce : List UInt8) (size : Nat) (hk : key.length ≤ 9223372036854775807) (hn : nonce.length ≤ 9223372036854775807) (hs : size ≤ 100) :
    Calls Tryz.prog 204 #[S key, S nonce, .int .i64 size] w fun e w' => e = .returned (.int .i64 (checkN key nonce size)) ∧ w = w' := by
  obtain ⟨V, hV⟩ : ∃ V, V = checkN key nonce size := ⟨_, rfl⟩
  rw [← hV]
  have HV := Lib.hid hV
  clear hV
  unfold S
  by_cases h1 : key.length = 32
  · by_cases h2 : nonce.length = size
    · have q1 : ((key.length : Int) != 32) = false := by simp; omega
      have q2 : ((nonce.length : Int) != (size : Int)) = false := by simp; omega
      have HR := Lib.hid (show V = 0 from by rw [HV.out]; unfold checkN; rw [if_pos ⟨h1, h2⟩])
      clear h1 h2 HV
      go_enter Tryz.func204, Tryz.ntmps204
      go_wp2_with fail
      go_ret
      exact ⟨by rw [HR.out]; rfl, rfl⟩
    · have q1 : ((key.length : Int) != 32) = false := by simp; omega
      have q2 : ((nonce.length : Int) != (size : Int)) = true := by simp; omega
      have HR := Lib.hid (show V = 1 from by rw [HV.out]; unfold checkN; rw [if_neg (by omega)])
      clear h1 h2 HV
      go_enter Tryz.func204, Tryz.ntmps204
      go_wp2_with fail
      go_ret
      exact ⟨by rw [HR.out]; rfl, rfl⟩
  · have q1 : ((key.length : Int) != 32) = true := by simp; omega
    have HR := Lib.hid (show V = 1 from by rw [HV.out]; unfold checkN; rw [if_neg (by omega)])
    clear h1 HV
    go_enter Tryz.func204, Tryz.ntmps204
    go_wp2_with fail
    go_ret
    exact ⟨by rw [HR.out]; rfl, rfl⟩

end Go.Proofs.YtmomfbkpniblgaaGreatDoor

namespace Go.Proofs.YtmomfbkpniblgaaGreatDoor
open Go.RowKit
set_option linter.unusedVariables false

/-- Two states, number by number. -/
def addW (a b : List Nat) : List Nat := List.zipWith add32 a b
def stateL (key rest : List UInt8) : List Nat := begun (key ++ rest)
def blockW (s : List Nat) : List Nat := addW (stirred s) s
def blockL (key nonce : List UInt8) (n : Nat) : List UInt8 := textW (blockW (stateL key (leB n 4 ++ nonce)))

theorem blockW_length {s : List Nat} (hs : Small s) (hl : s.length = 16) : (blockW s).length = 16 := by
  have := (roundsK_ok hs hl 10).2
  unfold blockW addW stirred
  rw [List.length_zipWith, this, hl]
  rfl

theorem blockL_length (key nonce : List UInt8) (n : Nat) : (blockL key nonce n).length = 64 := by
  unfold blockL
  rw [textW_length, blockW_length (s := stateL key (leB n 4 ++ nonce)) (begK_ok _ 12).1 (begK_ok _ 12).2]

def noText : Value := .tuple #[S [], .int .i64 1]
def Blocked (l : List UInt8) (w : World) (e : Ending) (w' : World) : Prop := e = .returned (.tuple #[S l, .int .i64 0]) ∧ w.grownBy w' none

theorem code_block_err (w : World) (key nonce : List UInt8) (n : Int) (hk : key.length ≤ 9223372036854775807) (hn : nonce.length ≤ 9223372036854775807) (h : ¬ (key.length = 32 ∧ nonce.length = 12)) :
    Calls Tryz.prog 205 #[S key, S nonce, .int .u32 n] w fun e w' => e = .returned noText ∧ w = w' := by
  have hc : checkN key nonce 12 = 1 := by unfold checkN; rw [if_neg h]
  have HC := Lib.hid hc
  clear hc h
  unfold S
  go_enter Tryz.func205, Tryz.ntmps205
  go_wp2_with fail
  refine (code_check w key nonce 12 hk hn (by omega)).mono ?_
  rintro e w1 ⟨rfl, rfl⟩
  rw [HC.out]
  go_wp2_with fail
  go_ret2
  exact ⟨rfl, rfl⟩

/-- The first k sums. -/
def csumK (v s : List Nat) : Nat → List Nat
  | 0 => v
  | k + 1 => (csumK v s k).set k (add32 (v.getD k 0) (s.getD k 0))

theorem csumK_length (v s : List Nat) (k : Nat) : (csumK v s k).length = v.length := by
  induction k with
  | zero => rfl
  | succ k ih => rw [csumK, List.length_set, ih]

theorem sumK_get (v s : List Nat) (k : Nat) : ∀ j, (csumK v s k)[j]? = if j < k then (v[j]?).map (fun x => add32 x (s.getD j 0)) else v[j]? := by
  induction k with
  | zero => intro j; simp [csumK]
  | succ k ih =>
    intro j
    rw [csumK, List.getElem?_set]
    by_cases e : k = j
    · subst e
      rw [if_pos rfl, csumK_length, if_pos (show k < k + 1 by omega)]
      by_cases q : k < v.length
      · simp [q, List.getD]
      · simp [q]
    · rw [if_neg e, ih]
      by_cases q : j < k
      · rw [if_pos q, if_pos (by omega)]
      · rw [if_neg q, if_neg (by omega)]

theorem csumK_all (v s : List Nat) (h : v.length = s.length) : csumK v s v.length = addW v s := by
  apply List.ext_getElem?
  intro j
  rw [sumK_get, addW, List.getElem?_zipWith]
  by_cases q : j < v.length
  · rw [if_pos q]
    have q2 : j < s.length := by omega
    simp [List.getElem?_eq_getElem q, List.getElem?_eq_getElem q2, List.getD]
  · rw [if_neg q, List.getElem?_eq_none (by omega)]

theorem sumK_next (v s : List Nat) (k : Nat) (hk : k < v.length) : (csumK v s k).getD k 0 = v.getD k 0 := by
  rw [List.getD_eq_getElem?_getD, sumK_get, if_neg (by omega), List.getD_eq_getElem?_getD]

set_option maxRecDepth 20000 in
set_option maxHeartbeats 4000000 in
theorem code_cblock (w : World) (key nonce : List UInt8) (n : Nat) (hk : key.length = 32) (hn : nonce.length = 12) (h32 : n < 4294967296) :
    Calls Tryz.prog 205 #[S key, S nonce, .int .u32 n] w (Blocked (blockL key nonce n) w) := by
  have hc : checkN key nonce 12 = 0 := by unfold checkN; rw [if_pos ⟨hk, hn⟩]
  have HC := Lib.hid hc
  obtain ⟨st, hst⟩ : ∃ s, s = stateL key (leB n 4 ++ nonce) := ⟨_, rfl⟩
  have hbl : blockL key nonce n = textW (addW (stirred st) st) := by rw [hst]; rfl
  have hs1 : Small st := by rw [hst]; exact (begK_ok _ 12).1
  have hs2 : st.length = 16 := by rw [hst]; exact (begK_ok _ 12).2
  obtain ⟨v, hv⟩ : ∃ v, v = stirred st := ⟨_, rfl⟩
  have hv1 : Small v := by rw [hv]; exact (roundsK_ok hs1 hs2 10).1
  have hv2 : v.length = 16 := by rw [hv]; exact (roundsK_ok hs1 hs2 10).2
  rw [hbl, ← hv]
  have HST := Lib.hid (show A16 (begun (key ++ (leB n 4 ++ nonce))) = A16 st from by rw [hst]; rfl)
  have HV := Lib.hid (show A16 (stirred st) = A16 v from by rw [hv])
  have hl48 : (key ++ (leB n 4 ++ nonce)).length = 48 := by simp [leB_length, hk, hn]
  have HL := Lib.hid hl48
  have HB4 := Lib.hid (leB_length n 4)
  have lk : key.length ≤ 32 := by omega
  have ln : nonce.length ≤ 12 := by omega
  clear hc hst hbl hv hl48 hk hn
  have r1 := rule_app
  have e1 : IntKind.u64.wrap (n : Int) = (n : Int) := IntWalk.u64_in _ (by omega)
  unfold S
  go_enter Tryz.func205, Tryz.ntmps205
  go_wp2_with fail
  refine (code_check w key nonce 12 (by omega) (by omega) (by omega)).mono ?_
  rintro e w1 ⟨rfl, rfl⟩
  rw [HC.out]
  go_wp2_with fail
  refine (wire_appendLittle w w.heap.size (.slice none 0 0) [] n 4 (brow_nil _ _) (by omega) (by omega) (by simp) (by omega)).mono ?_
  rintro e w1 ⟨b1, rfl, hown, hB1⟩
  have hcv := conv_brow hown
  rw [List.nil_append] at hcv
  have hlen : (leB n 4).length + nonce.length ≤ 9223372036854775807 := by rw [HB4.out]; omega
  unfold S at hcv
  have hg1 : w.grownBy w1 none := grow_of_below hB1
  clear hown hB1
  go_wp2_with fail
  clear hcv hlen
  refine (code_cbegun w1 key (leB n 4 ++ nonce) HL.out).mono ?_
  rintro e w2 ⟨rfl, hg2⟩
  rw [HST.out]
  have hg := grow_trans hg1 hg2
  clear hg1 hg2
  unfold A16
  have hsn := fun W : World => run_store_new (P := Tryz.prog) W #[Value.int IntKind.u32 0, Value.int IntKind.u32 0, Value.int IntKind.u32 0, Value.int IntKind.u32 0, Value.int IntKind.u32 0, Value.int IntKind.u32 0, Value.int IntKind.u32 0, Value.int IntKind.u32 0, Value.int IntKind.u32 0, Value.int IntKind.u32 0, Value.int IntKind.u32 0, Value.int IntKind.u32 0, Value.int IntKind.u32 0, Value.int IntKind.u32 0, Value.int IntKind.u32 0, Value.int IntKind.u32 0] 335 (st.map wcell) (by simp [hs2]) (wcells_mem st)
  go_upto_region 5 with (fail)
  clear hsn e1
  have hB9 : Blk (w2.alloc (.cells (st.map wcell).toArray 335)) w2.heap.size 335 (st.map wcell) := Blk.new w2 _ _
  have hg9 : w.grownBy (w2.alloc (.cells (st.map wcell).toArray 335)) none := grow_alloc hg _
  have hz9 : w.heap.size ≤ w2.heap.size := hg.size
  generalize w2.alloc (.cells (st.map wcell).toArray 335) = x at *
  generalize w2.heap.size = B at *
  clear hg
  have hi2 : (Tryz.prog.info? 335).map (·.size) = some (st.map wcell).length := by rw [List.length_map, hs2]; exact info16
  have HRg := Lib.hid hB9.range
  have HI := Lib.hid hi2
  clear hi2
  refine wp_region_lit ?_
  refine wpList_load_mid rfl 335 _ rfl B 0 rfl (st.map wcell) _ HRg.out Tryz.underlying335 rfl HI.out ?_
  go_wp2_with fail
  refine (code_stirred x st hs2 hs1).mono ?_
  rintro e x3 ⟨rfl, hg3⟩
  rw [HV.out]
  unfold A16
  have hsv := fun W : World => run_store_new (P := Tryz.prog) W #[Value.int IntKind.u32 0, Value.int IntKind.u32 0, Value.int IntKind.u32 0, Value.int IntKind.u32 0, Value.int IntKind.u32 0, Value.int IntKind.u32 0, Value.int IntKind.u32 0, Value.int IntKind.u32 0, Value.int IntKind.u32 0, Value.int IntKind.u32 0, Value.int IntKind.u32 0, Value.int IntKind.u32 0, Value.int IntKind.u32 0, Value.int IntKind.u32 0, Value.int IntKind.u32 0, Value.int IntKind.u32 0] 335 (v.map wcell) (by simp [hv2]) (wcells_mem v)
  go_upto_region 6 with (fail)
  clear hsv
  have hBs := (hB9.kept hg3 (by simp)).kept (World.grownBy_alloc x3 (.cells (v.map wcell).toArray 335) none) (by simp)
  have hBv : Blk (x3.alloc (.cells (v.map wcell).toArray 335)) x3.heap.size 335 (v.map wcell) := Blk.new x3 _ _
  have hgx : w.grownBy (x3.alloc (.cells (v.map wcell).toArray 335)) none := grow_alloc (grow_trans hg9 hg3) _
  have hzx : w.heap.size ≤ x3.heap.size := (grow_trans hg9 hg3).size
  have hlt9 : B < x3.heap.size := (hB9.kept hg3 (by simp)).lt
  generalize x3.alloc (.cells (v.map wcell).toArray 335) = y at *
  generalize x3.heap.size = C at *
  clear hg3 hg9 hB9 HRg
  have HBs := Lib.hid hBs
  have HBv := Lib.hid hBv
  have HGX := Lib.hid hgx
  clear hBs hBv hgx
  go_wp2_with fail
  go_loopw [28] (fun vi wr => ∃ k : Nat, k ≤ 16 ∧ vi = .int .i64 k ∧ WB wr C (csumK v st k) ∧ y.grownBy wr (some C)) (fun vi _ => 16 - (intOf vi).toNat)
  case atStart => exact ⟨0, by omega, rfl, HBv.out, grow_refl _ _⟩
  case round =>
    obtain ⟨k, hk, rfl, hW, hg⟩ := hrel
    by_cases hlt : k < 16
    · have hS : WB wr B st := (HBs.out).kept hg (by simp; omega)
      have c1 := hW.cell k (by rw [csumK_length]; omega)
      have c2 := hS.cell k (by omega)
      have f1 := hW.frozen k
      rw [sumK_next v st k (by omega)] at c1
      have hnew : WB (wr.setCell ⟨C, k, none⟩ (.int .u32 (add32 (v.getD k 0) (st.getD k 0) : Nat))) C (csumK v st (k + 1)) := hW.set k _
      have hgn : y.grownBy (wr.setCell ⟨C, k, none⟩ (.int .u32 (add32 (v.getD k 0) (st.getD k 0) : Nat))) (some C) := grow_setCell hg k _
      have ha := add32_val (v.getD k 0) (st.getD k 0)
      generalize v.getD k 0 = a at *
      generalize st.getD k 0 = b at *
      generalize add32 a b = c at *
      have HH := Lib.hid (And.intro hnew hgn)
      clear hnew hgn hS hW
      go_wp2_with fail
      go_region
      go_wp2_with fail
      go_roundw
      case rel => exact ⟨k + 1, by omega, by go_num, by first | exact HH.out.1 | (rw [← ha] at HH; exact HH.out.1), by first | exact grow_drew HH.out.2 | (rw [← ha] at HH; exact grow_drew HH.out.2)⟩
      case measure => simp [intOf]; omega
    · obtain rfl : k = 16 := by omega
      have hsum : csumK v st 16 = addW v st := by rw [← hv2]; exact csumK_all v st (by omega)
      rw [hsum] at hW
      have hal : (addW v st).length = 16 := by unfold addW; rw [List.length_zipWith]; omega
      have hsm : ∀ n ∈ addW v st, n < 4294967296 := by
        intro n hn
        unfold addW at hn
        obtain ⟨i, hi, rfl⟩ := List.getElem_of_mem hn
        rw [List.getElem_zipWith]
        exact Nat.mod_lt _ (by omega)
      have hWA : WAt wr C 0 (addW v st) := fun i hi => by
        have := hW.cell i hi
        rw [Nat.zero_add, this, List.getD_eq_getElem?_getD, List.getElem?_eq_getElem hi]
        rfl
      have hgf := grow_trans_new HGX.out hg hzx
      have hClt : C < wr.heap.size := lt_of_obj hW
      have HA := Lib.hid hal
      have HSM := Lib.hid hsm
      clear hsum hal hsm hW hg
      generalize addW v st = L at *
      go_wp2_with fail
      have hT := code_text wr C 0 16 L hWA (by rw [HA.out]; omega) HSM.out hClt
      rw [HA.out] at hT
      refine hT.mono ?_
      rintro e w5 ⟨rfl, hB5⟩
      unfold S
      go_wp2_with fail
      go_ret2
      exact ⟨rfl, grow_trans hgf (grow_of_below hB5)⟩

end Go.Proofs.YtmomfbkpniblgaaGreatDoor

namespace Go.Proofs.YtmomfbkpniblgaaGreatDoor
open Go.RowKit
set_option linter.unusedVariables false

def next32 (n : Nat) : Nat := (n + 1) % 4294967296

/-- A text xored with the blocks from number n on (so many at most). -/
def chx (key nonce : List UInt8) : Nat → Nat → List UInt8 → List UInt8
  | 0, _, _ => []
  | f + 1, n, s => if s = [] then [] else xorL s (blockL key nonce n) ++ chx key nonce f (next32 n) (s.drop 64)

def chxL (key nonce : List UInt8) (n : Nat) (s : List UInt8) : List UInt8 := chx key nonce (s.length + 1) n s

theorem chx_nil (key nonce : List UInt8) (f n : Nat) : chx key nonce f n [] = [] := by
  cases f <;> simp [chx]

theorem chx_length (key nonce : List UInt8) : ∀ (f n : Nat) (s : List UInt8), s.length ≤ 64 * f → (chx key nonce f n s).length = s.length
  | 0, _, s, h => by
    obtain rfl : s = [] := List.eq_nil_of_length_eq_zero (by omega)
    rfl
  | f + 1, n, s, h => by
    unfold chx
    by_cases e : s = []
    · simp [e]
    · rw [if_neg e, List.length_append, chx_length key nonce f _ (s.drop 64) (by rw [List.length_drop]; omega), xorL_length, blockL_length, List.length_drop]
      omega

theorem chxL_length (key nonce : List UInt8) (n : Nat) (s : List UInt8) : (chxL key nonce n s).length = s.length := chx_length _ _ _ _ _ (by omega)

theorem drop_part (s b : List UInt8) (hb : b.length = 64) : s.drop (xorL s b).length = s.drop 64 := by
  rw [xorL_length, hb]
  rcases Nat.lt_or_ge s.length 64 with h | h
  · rw [Nat.min_eq_left (by omega), List.drop_length, List.drop_of_length_le (by omega)]
  · rw [Nat.min_eq_right h]

set_option maxRecDepth 20000 in
set_option maxHeartbeats 2000000 in
theorem code_cxor (w : World) (key nonce s : List UInt8) (n : Nat) (hk : key.length = 32) (hn : nonce.length = 12) (h32 : n < 4294967296) (hs : s.length ≤ 2000) :
    Calls Tryz.prog 155 #[S key, S nonce, .int .u32 n, S s] w (Blocked (chxL key nonce n s) w) := by
  have hc : checkN key nonce 12 = 0 := by unfold checkN; rw [if_pos ⟨hk, hn⟩]
  have HC := Lib.hid hc
  have HK := Lib.hid hk
  have HN := Lib.hid hn
  have hrec : chxL key nonce n s = [] ++ chx key nonce (s.length + 1) n s := rfl
  generalize chxL key nonce n s = V at *
  have HR := Lib.hid hrec
  have lk : key.length ≤ 32 := by omega
  have ln : nonce.length ≤ 12 := by omega
  clear hc hk hn hrec
  have r1 := rule_app
  have r2 := rule_ext
  have hd : decide (2000 < (s.length : Int)) = false := by simp; omega
  unfold S
  go_enter Tryz.func155, Tryz.ntmps155
  go_wp2_with fail
  refine (code_check w key nonce 12 (by omega) (by omega) (by omega)).mono ?_
  rintro e w1 ⟨rfl, rfl⟩
  rw [HC.out]
  go_wp2_with fail
  go_loopw [2, 3, 11] (fun vn vs vo wr => ∃ (f m : Nat) (T out : List UInt8), vn = .int .u32 m ∧ m < 4294967296 ∧ vs = S T ∧ vo = S out ∧ Hid (V = out ++ chx key nonce f m T) ∧ Hid (T.length ≤ 64 * f) ∧ out.length + T.length ≤ 2000 ∧ w.grownBy wr none) (fun _ vs _ _ => match vs with | .string b => b.size | _ => 0)
  case atStart => exact ⟨s.length + 1, n, s, [], rfl, h32, rfl, rfl, HR.out, by show s.length ≤ 64 * (s.length + 1); omega, by simpa using hs, grow_refl _ _⟩
  case round =>
    clear HR
    obtain ⟨f, m, T, out, rfl, m32, rfl, rfl, hV, hf, hle, hg⟩ := hrel
    by_cases hT : T = []
    · subst hT
      rw [chx_nil, List.append_nil] at hV
      unfold S
      go_wp2_with fail
      go_ret2
      exact ⟨by rw [hV.out]; rfl, hg⟩
    · have q1 : (!T.isEmpty) = true := by simpa using hT
      have q2 : T.isEmpty = false := by simpa using hT
      have hpos : 0 < T.length := List.length_pos_iff.2 hT
      have hb64 := blockL_length key nonce m
      have hxl := xorL_length T (blockL key nonce m)
      have hdp := Lib.hid (drop_part T (blockL key nonce m) hb64)
      obtain ⟨g, rfl⟩ : ∃ g, f = g + 1 := by
        have := hf.out
        exact ⟨f - 1, by omega⟩
      have hstep := Lib.hid (show V = (out ++ xorL T (blockL key nonce m)) ++ chx key nonce g (next32 m) (T.drop 64) from by
        rw [hV.out, chx, if_neg hT, List.append_assoc])
      have hlen2 : (xorL T (blockL key nonce m)).length ≤ T.length := by rw [hxl]; omega
      have hlen1 : 0 < (xorL T (blockL key nonce m)).length := by rw [hxl, hb64]; omega
      have hcat : out.length + (xorL T (blockL key nonce m)).length ≤ 9223372036854775807 := by omega
      have hnx := Lib.hid (show ((m : Int) + 1) % 4294967296 = ((next32 m : Nat) : Int) from by unfold next32; omega)
      have htk : List.take (T.length - (xorL T (blockL key nonce m)).length) (List.drop (xorL T (blockL key nonce m)).length T) = List.drop (xorL T (blockL key nonce m)).length T := List.take_of_length_le (by simp)
      have hbl : (blockL key nonce m).length ≤ 140737488355328 := by omega
      have hsum : (out ++ xorL T (blockL key nonce m)).length + (T.drop (xorL T (blockL key nonce m)).length).length ≤ 2000 := by rw [List.length_append, List.length_drop]; omega
      clear hxl hb64 hV hT
      unfold S
      go_wp2_with fail
      refine (code_cblock _ key nonce m HK.out HN.out m32).mono ?_
      rintro e w2 ⟨rfl, hg2⟩
      unfold S
      go_wp2_with fail
      refine (wire_xor w2 T (blockL key nonce m) (by omega) hbl).mono ?_
      rintro e w3 ⟨rfl, hg3⟩
      have hg' := grow_trans (grow_trans hg hg2) hg3
      clear hg hg2 hg3 hbl
      generalize xorL T (blockL key nonce m) = X at *
      unfold S
      go_wp2_with fail
      rw [hnx.out]
      go_roundw
      case rel => exact ⟨g, next32 m, T.drop X.length, out ++ X, rfl, Nat.mod_lt _ (by omega), rfl, rfl, by rw [hdp.out]; exact hstep, by rw [hdp.out, List.length_drop]; have := hf.out; show T.length - 64 ≤ 64 * g; omega, hsum, hg'⟩
      case measure => simp [ByteArray.size]; omega

end Go.Proofs.YtmomfbkpniblgaaGreatDoor

namespace Go.Proofs.YtmomfbkpniblgaaGreatDoor
set_option linter.unusedVariables false

theorem xorL_nil_right (s : List UInt8) : xorL s [] = [] := by cases s <;> rfl
theorem xorL_nil_left (s : List UInt8) : xorL [] s = [] := by cases s <;> rfl

theorem xorL_append : ∀ (b s r : List UInt8), xorL s (b ++ r) = xorL s b ++ xorL (s.drop b.length) r
  | [], s, r => by simp [xorL_nil_right]
  | c :: b, [], r => by simp [xorL_nil_left]
  | c :: b, d :: s, r => by
    have := xorL_append b s r
    simp only [xorL, List.cons_append, List.zipWith_cons_cons, List.length_cons, List.drop_succ_cons] at this ⊢
    rw [this]

theorem xorL_append_left : ∀ (s t b r : List UInt8), s.length = b.length → xorL (s ++ t) (b ++ r) = xorL s b ++ xorL t r
  | [], t, [], r, _ => rfl
  | c :: s, t, d :: b, r, h => by
    have := xorL_append_left s t b r (by simpa using h)
    simp only [xorL, List.cons_append, List.zipWith_cons_cons] at this ⊢
    rw [this]

theorem xorL_twice : ∀ (s K : List UInt8), s.length ≤ K.length → xorL (xorL s K) K = s
  | [], K, _ => by simp [xorL_nil_left]
  | c :: s, [], h => by simp at h
  | c :: s, k :: K, h => by
    have := xorL_twice s K (by simpa using h)
    simp only [xorL, List.zipWith_cons_cons] at this ⊢
    rw [this, UInt8.xor_assoc, UInt8.xor_self, UInt8.xor_zero]

theorem xorL_pair : ∀ (s t K : List UInt8), s.length ≤ K.length → t.length ≤ K.length → xorL (xorL s K) (xorL t K) = xorL s t
  | [], t, K, _, _ => by simp [xorL_nil_left]
  | c :: s, [], K, _, _ => by simp [xorL_nil_left, xorL_nil_right]
  | c :: s, d :: t, [], h, _ => by simp at h
  | c :: s, d :: t, k :: K, h1, h2 => by
    have := xorL_pair s t K (by simpa using h1) (by simpa using h2)
    simp only [xorL, List.zipWith_cons_cons] at this ⊢
    rw [this]
    congr 1
    rw [UInt8.xor_assoc, ← UInt8.xor_assoc k, UInt8.xor_comm k d, UInt8.xor_assoc d, UInt8.xor_self, UInt8.xor_zero]

theorem xorL_take (s K r : List UInt8) (h : s.length ≤ K.length) : xorL s (K ++ r) = xorL s K := by
  rw [xorL_append, List.drop_of_length_le h, xorL_nil_left, List.append_nil]

end Go.Proofs.YtmomfbkpniblgaaGreatDoor

namespace Go.Proofs.YtmomfbkpniblgaaGreatDoor
set_option linter.unusedVariables false

/-- So many blocks of the stream. -/
def streamF (key nonce : List UInt8) : Nat → Nat → List UInt8
  | 0, _ => []
  | f + 1, n => blockL key nonce n ++ streamF key nonce f (next32 n)

theorem streamF_length (key nonce : List UInt8) : ∀ (f n : Nat), (streamF key nonce f n).length = 64 * f
  | 0, _ => rfl
  | f + 1, n => by rw [streamF, List.length_append, blockL_length, streamF_length key nonce f]; omega

theorem chx_stream (key nonce : List UInt8) : ∀ (f n : Nat) (s : List UInt8), s.length ≤ 64 * f → chx key nonce f n s = xorL s (streamF key nonce f n)
  | 0, n, s, h => by
    obtain rfl : s = [] := List.eq_nil_of_length_eq_zero (by omega)
    rfl
  | f + 1, n, s, h => by
    unfold chx
    by_cases e : s = []
    · subst e
      simp [xorL_nil_left]
    · rw [if_neg e, streamF, xorL_append, blockL_length, chx_stream key nonce f _ _ (by rw [List.length_drop]; omega)]

def addn32 (n j : Nat) : Nat := (n + j) % 4294967296

theorem streamF_add (key nonce : List UInt8) : ∀ (j f n : Nat), n < 4294967296 → streamF key nonce (j + f) n = streamF key nonce j n ++ streamF key nonce f (addn32 n j)
  | 0, f, n, h => by
    rw [Nat.zero_add, show addn32 n 0 = n from by unfold addn32; omega]
    rfl
  | j + 1, f, n, h => by
    rw [show j + 1 + f = (j + f) + 1 from by omega, streamF, streamF, streamF_add key nonce j f (next32 n) (Nat.mod_lt _ (by omega)), List.append_assoc]
    rw [show addn32 (next32 n) j = addn32 n (j + 1) from by unfold addn32 next32; omega]

/-- However many blocks beyond the text. -/
theorem chxL_stream (key nonce : List UInt8) (f n : Nat) (s : List UInt8) (h : s.length ≤ 64 * f) (h32 : n < 4294967296) : chxL key nonce n s = xorL s (streamF key nonce f n) := by
  unfold chxL
  rw [chx_stream _ _ _ _ _ (by omega)]
  have h1 := streamF_length key nonce f n
  have h2 := streamF_length key nonce (s.length + 1) n
  rcases Nat.le_total f (s.length + 1) with q | q
  · obtain ⟨d, hd⟩ : ∃ d, s.length + 1 = f + d := ⟨s.length + 1 - f, by omega⟩
    rw [hd, streamF_add _ _ _ _ _ h32, xorL_take _ _ _ (by omega)]
  · obtain ⟨d, hd⟩ : ∃ d, f = (s.length + 1) + d := ⟨f - (s.length + 1), by omega⟩
    rw [hd, streamF_add _ _ (s.length + 1) d _ h32, xorL_take _ _ _ (by omega)]

theorem chxL_twice (key nonce : List UInt8) (n : Nat) (s : List UInt8) (h32 : n < 4294967296) : chxL key nonce n (chxL key nonce n s) = s := by
  have hl := chxL_length key nonce n s
  rw [chxL_stream key nonce (s.length + 1) n (chxL key nonce n s) (by omega) h32, chxL_stream key nonce (s.length + 1) n s (by omega) h32]
  exact xorL_twice _ _ (by rw [streamF_length]; omega)

theorem chxL_pair (key nonce : List UInt8) (n : Nat) (s t : List UInt8) (h32 : n < 4294967296) (h : t.length = s.length) : xorL (chxL key nonce n s) (chxL key nonce n t) = xorL s t := by
  rw [chxL_stream key nonce (s.length + 1) n s (by omega) h32, chxL_stream key nonce (s.length + 1) n t (by omega) h32]
  exact xorL_pair _ _ _ (by rw [streamF_length]; omega) (by rw [streamF_length]; omega)

theorem chxL_split (key nonce : List UInt8) (n j : Nat) (a b : List UInt8) (h32 : n < 4294967296) (ha : a.length = 64 * j) : chxL key nonce n (a ++ b) = chxL key nonce n a ++ chxL key nonce (addn32 n j) b := by
  rw [chxL_stream key nonce (j + (b.length + 1)) n (a ++ b) (by rw [List.length_append]; omega) h32, chxL_stream key nonce j n a (by omega) h32,
    chxL_stream key nonce (b.length + 1) (addn32 n j) b (by omega) (Nat.mod_lt _ (by omega)), streamF_add _ _ _ _ _ h32]
  exact xorL_append_left _ _ _ _ (by rw [streamF_length, ha])

theorem xorL_zeros : ∀ (K : List UInt8), xorL (List.replicate K.length 0) K = K
  | [] => rfl
  | k :: K => by
    have := xorL_zeros K
    simp only [xorL, List.length_cons, List.replicate_succ, List.zipWith_cons_cons] at this ⊢
    rw [this, UInt8.zero_xor]

theorem chxL_zeros (key nonce : List UInt8) (n : Nat) (h32 : n < 4294967296) : chxL key nonce n (zerosL 64) = blockL key nonce n := by
  rw [chxL_stream key nonce 1 n _ (by rw [zerosL_length]; omega) h32, streamF, streamF, List.append_nil]
  have := xorL_zeros (blockL key nonce n)
  rw [blockL_length] at this
  exact this

end Go.Proofs.YtmomfbkpniblgaaGreatDoor

namespace Go.Proofs.YtmomfbkpniblgaaGreatDoor
open Go.RowKit
set_option linter.unusedVariables false

def subL (key nonce : List UInt8) : List UInt8 := textW ((stirred (stateL key nonce)).take 4) ++ textW ((stirred (stateL key nonce)).drop 12)

theorem stirred_length (key nonce : List UInt8) : (stirred (stateL key nonce)).length = 16 := (roundsK_ok (begK_ok _ 12).1 (begK_ok _ 12).2 10).2

theorem subL_length (key nonce : List UInt8) : (subL key nonce).length = 32 := by
  unfold subL
  rw [List.length_append, textW_length, textW_length, List.length_take, List.length_drop, stirred_length]
  rfl

theorem small_mem {l : List Nat} (h : Small l) (n : Nat) (hn : n ∈ l) : n < 4294967296 := by
  obtain ⟨i, hi, rfl⟩ := List.getElem_of_mem hn
  have := h i
  rwa [List.getD_eq_getElem?_getD, List.getElem?_eq_getElem hi] at this

end Go.Proofs.YtmomfbkpniblgaaGreatDoor

namespace Go.Proofs.YtmomfbkpniblgaaGreatDoor
set_option linter.unusedVariables false

def filledL (s : List UInt8) : List UInt8 := s ++ zerosL ((16 - s.length % 16) % 16)
def sealTagL (key nonce more s : List UInt8) : List UInt8 := tagL ((blockL key nonce 0).take 32) (filledL more ++ filledL s ++ (leB more.length 8 ++ leB s.length 8))
def sealL (key nonce more text : List UInt8) : List UInt8 := chxL key nonce 1 text ++ sealTagL key nonce more (chxL key nonce 1 text)

theorem filledL_length (s : List UInt8) : (filledL s).length ≤ s.length + 15 := by
  unfold filledL
  rw [List.length_append, zerosL_length]
  omega

theorem tagL_length (k t : List UInt8) : (tagL k t).length = 16 := by unfold tagL; rw [List.length_append, leB_length, leB_length]

theorem sealTagL_length (key nonce more s : List UInt8) : (sealTagL key nonce more s).length = 16 := tagL_length _ _

theorem sealL_length (key nonce more text : List UInt8) : (sealL key nonce more text).length = text.length + 16 := by
  unfold sealL
  rw [List.length_append, sealTagL_length, chxL_length]

theorem sealL_take (key nonce more text : List UInt8) : (sealL key nonce more text).take text.length = chxL key nonce 1 text := by
  unfold sealL
  rw [List.take_append_of_le_length (by rw [chxL_length]; omega), List.take_of_length_le (by rw [chxL_length]; omega)]

end Go.Proofs.YtmomfbkpniblgaaGreatDoor

namespace Go.Proofs.YtmomfbkpniblgaaGreatDoor
set_option linter.unusedVariables false

def gsubB (c : UInt8) : UInt8 := UInt8.ofNat (gsub c.toNat)
def gbackB (c : UInt8) : UInt8 := UInt8.ofNat (gback c.toNat)
def gmulB (a c : UInt8) : UInt8 := UInt8.ofNat (gmul a.toNat c.toNat)

theorem toNat_gsubB (c : UInt8) : (gsubB c).toNat = gsub c.toNat := by
  unfold gsubB; rw [UInt8.toNat_ofNat', Nat.mod_eq_of_lt (gsub_lt (u8_lt c))]
theorem toNat_gbackB (c : UInt8) : (gbackB c).toNat = gback c.toNat := by
  unfold gbackB; rw [UInt8.toNat_ofNat', Nat.mod_eq_of_lt (gback_lt (u8_lt c))]
theorem toNat_gmulB (a c : UInt8) : (gmulB a c).toNat = gmul a.toNat c.toNat := by
  unfold gmulB; rw [UInt8.toNat_ofNat', Nat.mod_eq_of_lt (gmul_lt (u8_lt a) _)]

theorem gback_gsub (c : UInt8) : gbackB (gsubB c) = c := by
  apply UInt8.toNat_inj.1; rw [toNat_gbackB, toNat_gsubB, (gback_sub (u8_lt c)).1]
theorem gsub_gback (c : UInt8) : gsubB (gbackB c) = c := by
  apply UInt8.toNat_inj.1; rw [toNat_gsubB, toNat_gbackB, (gback_sub (u8_lt c)).2.1]

/-- The last word, turned as it is at step i. -/
def lastW (n i : Nat) (p : UInt8) (t : List UInt8) : List UInt8 :=
  if i % n = 0 then [gsubB (t.getD 1 0) ^^^ p, gsubB (t.getD 2 0), gsubB (t.getD 3 0), gsubB (t.getD 0 0)]
  else if n = 8 ∧ i % n = 4 then t.map gsubB else t
def expS (n i : Nat) (p : UInt8) (l : List UInt8) : List UInt8 := l ++ xorL ((l.drop (4 * (i - n))).take 4) (lastW n i p (l.drop (l.length - 4)))
def powS (n i : Nat) (p : UInt8) : UInt8 := if i % n = 0 then gmulB p 2 else p
def expF (n : Nat) : Nat → Nat → UInt8 → List UInt8 → List UInt8
  | 0, _, _, l => l
  | f + 1, i, p, l => expF n f (i + 1) (powS n i p) (expS n i p l)
def expL (key : List UInt8) : List UInt8 := expF (key.length / 4) (3 * (key.length / 4) + 28) (key.length / 4) 1 key

theorem lastW_length (n i : Nat) (p : UInt8) (t : List UInt8) (h : t.length = 4) : (lastW n i p t).length = 4 := by
  unfold lastW; split
  · rfl
  · split
    · simpa using h
    · exact h

theorem expS_length (n i : Nat) (p : UInt8) (l : List UInt8) (hn : 1 ≤ n) (hi : n ≤ i) (hl : l.length = 4 * i) : (expS n i p l).length = 4 * (i + 1) := by
  unfold expS
  rw [List.length_append, xorL_length, lastW_length _ _ _ _ (by rw [List.length_drop]; omega), List.length_take, List.length_drop]
  omega

theorem expF_pre (n : Nat) (hn : 1 ≤ n) : ∀ (f i : Nat) (p : UInt8) (l : List UInt8), n ≤ i → l.length = 4 * i → (expF n f i p l).length = 4 * (i + f) ∧ ∃ r, expF n f i p l = l ++ r
  | 0, i, p, l, _, hl => ⟨hl, [], by rw [List.append_nil]; rfl⟩
  | f + 1, i, p, l, hi, hl => by
    obtain ⟨h1, r, h2⟩ := expF_pre n hn f (i + 1) (powS n i p) (expS n i p l) (by omega) (expS_length n i p l hn hi hl)
    refine ⟨by rw [expF, h1]; omega, xorL ((l.drop (4 * (i - n))).take 4) (lastW n i p (l.drop (l.length - 4))) ++ r, ?_⟩
    rw [expF, h2, expS, List.append_assoc]

theorem expL_pre (key : List UInt8) (hk : key.length = 16 ∨ key.length = 32) : (expL key).length = 16 * (key.length / 4 + 7) ∧ ∃ r, expL key = key ++ r := by
  obtain ⟨h1, h2⟩ := expF_pre (key.length / 4) (by omega) (3 * (key.length / 4) + 28) (key.length / 4) 1 key (Nat.le_refl _) (by omega)
  exact ⟨by unfold expL; rw [h1]; omega, h2⟩

def rowsL (t : Nat) (b : List UInt8) : List UInt8 := (List.range 16).map fun i => b.getD (i % 4 + 4 * ((i / 4 + t * (i % 4)) % 4)) 0
def colF (y : List UInt8) (b : List UInt8) (i : Nat) : Nat → UInt8
  | 0 => 0
  | k + 1 => colF y b i k ^^^ gmulB (y.getD ((k + 4 - i % 4) % 4) 0) (b.getD (4 * (i / 4) + k) 0)
def colsL (y : List UInt8) (b : List UInt8) : List UInt8 := (List.range 16).map fun i => colF y b i 4

theorem rowsL_length (t : Nat) (b : List UInt8) : (rowsL t b).length = 16 := by simp [rowsL]
theorem colsL_length (y b : List UInt8) : (colsL y b).length = 16 := by simp [colsL]

theorem sixteen {b : List UInt8} (h : b.length = 16) : ∃ a0 a1 a2 a3 a4 a5 a6 a7 a8 a9 a10 a11 a12 a13 a14 a15, b = [a0, a1, a2, a3, a4, a5, a6, a7, a8, a9, a10, a11, a12, a13, a14, a15] := by
  match b, h with
  | [a0, a1, a2, a3, a4, a5, a6, a7, a8, a9, a10, a11, a12, a13, a14, a15], _ => exact ⟨a0, a1, a2, a3, a4, a5, a6, a7, a8, a9, a10, a11, a12, a13, a14, a15, rfl⟩

theorem rows_31 (b : List UInt8) (h : b.length = 16) : rowsL 3 (rowsL 1 b) = b := by
  obtain ⟨a0, a1, a2, a3, a4, a5, a6, a7, a8, a9, a10, a11, a12, a13, a14, a15, rfl⟩ := sixteen h
  rfl
theorem rows_13 (b : List UInt8) (h : b.length = 16) : rowsL 1 (rowsL 3 b) = b := by
  obtain ⟨a0, a1, a2, a3, a4, a5, a6, a7, a8, a9, a10, a11, a12, a13, a14, a15, rfl⟩ := sixteen h
  rfl

/-- One byte of a column. -/
def col1 (y0 y1 y2 y3 a b c d : UInt8) : UInt8 := 0 ^^^ gmulB y0 a ^^^ gmulB y1 b ^^^ gmulB y2 c ^^^ gmulB y3 d

theorem colsL_eq (y0 y1 y2 y3 a0 a1 a2 a3 a4 a5 a6 a7 a8 a9 a10 a11 a12 a13 a14 a15 : UInt8) :
    colsL [y0, y1, y2, y3] [a0, a1, a2, a3, a4, a5, a6, a7, a8, a9, a10, a11, a12, a13, a14, a15] =
      [col1 y0 y1 y2 y3 a0 a1 a2 a3, col1 y3 y0 y1 y2 a0 a1 a2 a3, col1 y2 y3 y0 y1 a0 a1 a2 a3, col1 y1 y2 y3 y0 a0 a1 a2 a3,
       col1 y0 y1 y2 y3 a4 a5 a6 a7, col1 y3 y0 y1 y2 a4 a5 a6 a7, col1 y2 y3 y0 y1 a4 a5 a6 a7, col1 y1 y2 y3 y0 a4 a5 a6 a7,
       col1 y0 y1 y2 y3 a8 a9 a10 a11, col1 y3 y0 y1 y2 a8 a9 a10 a11, col1 y2 y3 y0 y1 a8 a9 a10 a11, col1 y1 y2 y3 y0 a8 a9 a10 a11,
       col1 y0 y1 y2 y3 a12 a13 a14 a15, col1 y3 y0 y1 y2 a12 a13 a14 a15, col1 y2 y3 y0 y1 a12 a13 a14 a15, col1 y1 y2 y3 y0 a12 a13 a14 a15] := by
  rfl

theorem gmulB_xor (a x y : UInt8) : gmulB a (x ^^^ y) = gmulB a x ^^^ gmulB a y := by
  apply UInt8.toNat_inj.1
  rw [UInt8.toNat_xor, toNat_gmulB, toNat_gmulB, toNat_gmulB, UInt8.toNat_xor, gmul_xor_r]
theorem gmulB_zero (a : UInt8) : gmulB a 0 = 0 := by
  apply UInt8.toNat_inj.1
  rw [toNat_gmulB]
  exact gmul_zero _

theorem all_bytes {p : UInt8 → Bool} (h : (List.range 256).all (fun n => p (UInt8.ofNat n)) = true) (x : UInt8) : p x = true := by
  have := all1_spec (p := fun n => p (UInt8.ofNat n)) h (u8_lt x)
  simpa using this

theorem zero_xor8 (x : UInt8) : 0 ^^^ x = x := by
  apply UInt8.toNat_inj.1; rw [UInt8.toNat_xor]; simp
theorem xor_zero8 (x : UInt8) : x ^^^ 0 = x := by
  apply UInt8.toNat_inj.1; rw [UInt8.toNat_xor]; simp

instance : Std.Commutative (α := UInt8) (· ^^^ ·) := ⟨fun x y => by apply UInt8.toNat_inj.1; rw [UInt8.toNat_xor, UInt8.toNat_xor, Nat.xor_comm]⟩
instance : Std.Associative (α := UInt8) (· ^^^ ·) := ⟨fun x y z => by apply UInt8.toNat_inj.1; simp only [UInt8.toNat_xor]; rw [Nat.xor_assoc]⟩

/-- One row of one matrix times another: what each byte gives. -/
theorem col_inv (z0 z1 z2 z3 y0 y1 y2 y3 : UInt8)
    (h0 : ∀ x, gmulB z0 (gmulB y0 x) ^^^ gmulB z1 (gmulB y3 x) ^^^ gmulB z2 (gmulB y2 x) ^^^ gmulB z3 (gmulB y1 x) = x)
    (h1 : ∀ x, gmulB z0 (gmulB y1 x) ^^^ gmulB z1 (gmulB y0 x) ^^^ gmulB z2 (gmulB y3 x) ^^^ gmulB z3 (gmulB y2 x) = 0)
    (h2 : ∀ x, gmulB z0 (gmulB y2 x) ^^^ gmulB z1 (gmulB y1 x) ^^^ gmulB z2 (gmulB y0 x) ^^^ gmulB z3 (gmulB y3 x) = 0)
    (h3 : ∀ x, gmulB z0 (gmulB y3 x) ^^^ gmulB z1 (gmulB y2 x) ^^^ gmulB z2 (gmulB y1 x) ^^^ gmulB z3 (gmulB y0 x) = 0) (a b c d : UInt8) :
    col1 z0 z1 z2 z3 (col1 y0 y1 y2 y3 a b c d) (col1 y3 y0 y1 y2 a b c d) (col1 y2 y3 y0 y1 a b c d) (col1 y1 y2 y3 y0 a b c d) = a := by
  have e : col1 z0 z1 z2 z3 (col1 y0 y1 y2 y3 a b c d) (col1 y3 y0 y1 y2 a b c d) (col1 y2 y3 y0 y1 a b c d) (col1 y1 y2 y3 y0 a b c d) =
      (gmulB z0 (gmulB y0 a) ^^^ gmulB z1 (gmulB y3 a) ^^^ gmulB z2 (gmulB y2 a) ^^^ gmulB z3 (gmulB y1 a)) ^^^
      (gmulB z0 (gmulB y1 b) ^^^ gmulB z1 (gmulB y0 b) ^^^ gmulB z2 (gmulB y3 b) ^^^ gmulB z3 (gmulB y2 b)) ^^^
      (gmulB z0 (gmulB y2 c) ^^^ gmulB z1 (gmulB y1 c) ^^^ gmulB z2 (gmulB y0 c) ^^^ gmulB z3 (gmulB y3 c)) ^^^
      (gmulB z0 (gmulB y3 d) ^^^ gmulB z1 (gmulB y2 d) ^^^ gmulB z2 (gmulB y1 d) ^^^ gmulB z3 (gmulB y0 d)) := by
    simp only [col1, gmulB_xor, zero_xor8]
    ac_rfl
  rw [e, h0, h1, h2, h3, xor_zero8, xor_zero8, xor_zero8]

theorem cols_inv (z0 z1 z2 z3 y0 y1 y2 y3 : UInt8)
    (h0 : ∀ x, gmulB z0 (gmulB y0 x) ^^^ gmulB z1 (gmulB y3 x) ^^^ gmulB z2 (gmulB y2 x) ^^^ gmulB z3 (gmulB y1 x) = x)
    (h1 : ∀ x, gmulB z0 (gmulB y1 x) ^^^ gmulB z1 (gmulB y0 x) ^^^ gmulB z2 (gmulB y3 x) ^^^ gmulB z3 (gmulB y2 x) = 0)
    (h2 : ∀ x, gmulB z0 (gmulB y2 x) ^^^ gmulB z1 (gmulB y1 x) ^^^ gmulB z2 (gmulB y0 x) ^^^ gmulB z3 (gmulB y3 x) = 0)
    (h3 : ∀ x, gmulB z0 (gmulB y3 x) ^^^ gmulB z1 (gmulB y2 x) ^^^ gmulB z2 (gmulB y1 x) ^^^ gmulB z3 (gmulB y0 x) = 0) (b : List UInt8) (hb : b.length = 16) :
    colsL [z0, z1, z2, z3] (colsL [y0, y1, y2, y3] b) = b := by
  obtain ⟨a0, a1, a2, a3, a4, a5, a6, a7, a8, a9, a10, a11, a12, a13, a14, a15, rfl⟩ := sixteen hb
  have r0 := col_inv z0 z1 z2 z3 y0 y1 y2 y3 h0 h1 h2 h3
  have r1 : ∀ a b c d : UInt8, col1 z3 z0 z1 z2 (col1 y0 y1 y2 y3 a b c d) (col1 y3 y0 y1 y2 a b c d) (col1 y2 y3 y0 y1 a b c d) (col1 y1 y2 y3 y0 a b c d) = b := fun a b c d => by
    refine Eq.trans ?_ (r0 b c d a)
    simp only [col1, gmulB_xor, zero_xor8]
    ac_rfl
  have r2 : ∀ a b c d : UInt8, col1 z2 z3 z0 z1 (col1 y0 y1 y2 y3 a b c d) (col1 y3 y0 y1 y2 a b c d) (col1 y2 y3 y0 y1 a b c d) (col1 y1 y2 y3 y0 a b c d) = c := fun a b c d => by
    refine Eq.trans ?_ (r0 c d a b)
    simp only [col1, gmulB_xor, zero_xor8]
    ac_rfl
  have r3 : ∀ a b c d : UInt8, col1 z1 z2 z3 z0 (col1 y0 y1 y2 y3 a b c d) (col1 y3 y0 y1 y2 a b c d) (col1 y2 y3 y0 y1 a b c d) (col1 y1 y2 y3 y0 a b c d) = d := fun a b c d => by
    refine Eq.trans ?_ (r0 d a b c)
    simp only [col1, gmulB_xor, zero_xor8]
    ac_rfl
  rw [colsL_eq, colsL_eq]
  simp only [r0, r1, r2, r3]

theorem beq_of {f g : UInt8 → UInt8} (h : (List.range 256).all (fun n => f (UInt8.ofNat n) == g (UInt8.ofNat n)) = true) (x : UInt8) : f x = g x := by
  have := all_bytes (p := fun x => f x == g x) h x
  simpa using this

theorem cols_back (b : List UInt8) (hb : b.length = 16) : colsL [14, 11, 13, 9] (colsL [2, 3, 1, 1] b) = b :=
  cols_inv 14 11 13 9 2 3 1 1 (beq_of (by decide +kernel)) (beq_of (g := fun _ => 0) (by decide +kernel)) (beq_of (g := fun _ => 0) (by decide +kernel)) (beq_of (g := fun _ => 0) (by decide +kernel)) b hb
theorem cols_forth (b : List UInt8) (hb : b.length = 16) : colsL [2, 3, 1, 1] (colsL [14, 11, 13, 9] b) = b :=
  cols_inv 2 3 1 1 14 11 13 9 (beq_of (by decide +kernel)) (beq_of (g := fun _ => 0) (by decide +kernel)) (beq_of (g := fun _ => 0) (by decide +kernel)) (beq_of (g := fun _ => 0) (by decide +kernel)) b hb

def encR (W : List UInt8) (r : Nat) (s : List UInt8) : List UInt8 :=
  xorL (if 16 < W.length - 16 * (r + 1) then colsL [2, 3, 1, 1] (rowsL 1 (s.map gsubB)) else rowsL 1 (s.map gsubB)) (W.drop (16 * (r + 1)))
def decR (W : List UInt8) (r : Nat) (s : List UInt8) : List UInt8 :=
  (rowsL 3 (if 16 < W.length - 16 * (r + 1) then colsL [14, 11, 13, 9] (xorL s (W.drop (16 * (r + 1)))) else xorL s (W.drop (16 * (r + 1))))).map gbackB
def encS (W : List UInt8) : Nat → List UInt8 → List UInt8
  | 0, b => xorL b W
  | r + 1, b => encR W r (encS W r b)
def decS (W : List UInt8) : Nat → List UInt8 → List UInt8
  | 0, s => xorL s W
  | r + 1, s => decS W r (decR W r s)

theorem xorL_twice' : ∀ (s K : List UInt8), s.length ≤ K.length → xorL (xorL s K) K = s
  | [], K, _ => by cases K <;> rfl
  | a :: s, [], h => by simp at h
  | a :: s, c :: K, h => by
    have ih := xorL_twice' s K (by simpa using h)
    unfold xorL at ih ⊢
    simp only [List.zipWith_cons_cons]
    rw [ih]
    congr 1
    apply UInt8.toNat_inj.1
    rw [UInt8.toNat_xor, UInt8.toNat_xor, Nat.xor_assoc, Nat.xor_self, Nat.xor_zero]

theorem map_back (s : List UInt8) : (s.map gsubB).map gbackB = s := by
  rw [List.map_map, show gbackB ∘ gsubB = id from funext gback_gsub, List.map_id]
theorem map_forth (s : List UInt8) : (s.map gbackB).map gsubB = s := by
  rw [List.map_map, show gsubB ∘ gbackB = id from funext gsub_gback, List.map_id]

theorem encR_length (W : List UInt8) (r : Nat) (s : List UInt8) (hW : 16 * (r + 2) ≤ W.length) : (encR W r s).length = 16 := by
  unfold encR
  rw [xorL_length, List.length_drop]
  split <;> first | (rw [colsL_length]; omega) | (rw [rowsL_length]; omega)
theorem decR_length (W : List UInt8) (r : Nat) (s : List UInt8) : (decR W r s).length = 16 := by
  unfold decR
  rw [List.length_map, rowsL_length]

theorem dec_enc (W : List UInt8) (r : Nat) (s : List UInt8) (hs : s.length = 16) (hW : 16 * (r + 2) ≤ W.length) : decR W r (encR W r s) = s := by
  unfold decR encR
  have ls : (s.map gsubB).length = 16 := by simpa using hs
  by_cases h : 16 < W.length - 16 * (r + 1)
  · rw [if_pos h, if_pos h, xorL_twice' _ _ (by rw [colsL_length, List.length_drop]; omega), cols_back _ (rowsL_length _ _), rows_31 _ ls, map_back]
  · rw [if_neg h, if_neg h, xorL_twice' _ _ (by rw [rowsL_length, List.length_drop]; omega), rows_31 _ ls, map_back]
theorem enc_dec (W : List UInt8) (r : Nat) (s : List UInt8) (hs : s.length = 16) (hW : 16 * (r + 2) ≤ W.length) : encR W r (decR W r s) = s := by
  have lx : (xorL s (W.drop (16 * (r + 1)))).length = 16 := by rw [xorL_length, List.length_drop]; omega
  unfold decR encR
  rw [map_forth]
  by_cases h : 16 < W.length - 16 * (r + 1)
  · rw [if_pos h, if_pos h, rows_13 _ (colsL_length _ _), cols_forth _ lx, xorL_twice' _ _ (by rw [List.length_drop]; omega)]
  · rw [if_neg h, if_neg h, rows_13 _ lx, xorL_twice' _ _ (by rw [List.length_drop]; omega)]

theorem encS_length (W : List UInt8) (b : List UInt8) (hb : b.length = 16) : ∀ r, 16 * (r + 1) ≤ W.length → (encS W r b).length = 16
  | 0, h => by rw [encS, xorL_length]; omega
  | r + 1, h => by rw [encS]; exact encR_length _ _ _ h
theorem decS_length (W : List UInt8) (s : List UInt8) (hs : s.length = 16) : ∀ r s, s.length = 16 → 16 ≤ W.length → (decS W r s).length = 16
  | 0, s, hs, h => by rw [decS, xorL_length]; omega
  | r + 1, s, _, h => by rw [decS]; exact decS_length W _ (decR_length W r s) r _ (decR_length _ _ _) h

theorem decS_encS (W : List UInt8) (b : List UInt8) (hb : b.length = 16) : ∀ r, 16 * (r + 1) ≤ W.length → decS W r (encS W r b) = b
  | 0, h => by rw [decS, encS, xorL_twice' _ _ (by omega)]
  | r + 1, h => by rw [decS, encS, dec_enc W r _ (encS_length W b hb r (by omega)) h, decS_encS W b hb r (by omega)]
theorem encS_decS (W : List UInt8) : ∀ r s, s.length = 16 → 16 * (r + 1) ≤ W.length → encS W r (decS W r s) = s
  | 0, s, hs, h => by rw [decS, encS, xorL_twice' _ _ (by omega)]
  | r + 1, s, hs, h => by rw [decS, encS, encS_decS W r _ (decR_length _ _ _) (by omega), enc_dec W r s hs h]

def encL (key text : List UInt8) : List UInt8 := encS (expL key) (key.length / 4 + 6) text
def decL (key text : List UInt8) : List UInt8 := decS (expL key) (key.length / 4 + 6) text

theorem decL_encL (key text : List UInt8) (hk : key.length = 16 ∨ key.length = 32) (ht : text.length = 16) : decL key (encL key text) = text := decS_encS _ _ ht _ (by rw [(expL_pre key hk).1]; omega)
theorem encL_decL (key text : List UInt8) (hk : key.length = 16 ∨ key.length = 32) (ht : text.length = 16) : encL key (decL key text) = text := encS_decS _ _ _ ht (by rw [(expL_pre key hk).1]; omega)
theorem encL_length (key text : List UInt8) (hk : key.length = 16 ∨ key.length = 32) (ht : text.length = 16) : (encL key text).length = 16 := encS_length _ _ ht _ (by rw [(expL_pre key hk).1]; omega)
theorem decL_length (key text : List UInt8) (hk : key.length = 16 ∨ key.length = 32) (ht : text.length = 16) : (decL key text).length = 16 := decS_length _ text ht _ _ ht (by rw [(expL_pre key hk).1]; omega)

def hexB (n k : Nat) : List UInt8 := (List.range k).map fun i => UInt8.ofNat (n / 256 ^ (k - 1 - i))
theorem aes_vec1 : encL (hexB 0x000102030405060708090a0b0c0d0e0f 16) (hexB 0x00112233445566778899aabbccddeeff 16) = hexB 0x69c4e0d86a7b0430d8cdb78070b4c55a 16 := by decide +kernel
theorem aes_vec2 : encL (hexB 0x000102030405060708090a0b0c0d0e0f101112131415161718191a1b1c1d1e1f 32) (hexB 0x00112233445566778899aabbccddeeff 16) = hexB 0x8ea2b7ca516745bfeafc49904b496089 16 := by decide +kernel

end Go.Proofs.YtmomfbkpniblgaaGreatDoor

namespace Go.Proofs.YtmomfbkpniblgaaGreatDoor
open Go.RowKit
set_option linter.unusedVariables false

/-- The tables of the first i bytes. -/
def TabK (w : World) (T i : Nat) : Prop := ∃ c : Array Value, w.heap[T]? = some (.cells c 230 (0, 0)) ∧ c.size = 512 ∧ ∀ j, j < i → c[j]? = some (.int .u8 (gsub j : Nat)) ∧ c[256 + gsub j]? = some (.int .u8 (j : Nat))

theorem TabK.lt {w : World} {T i : Nat} (h : TabK w T i) : T < w.heap.size := by
  obtain ⟨c, h1, _⟩ := h
  exact lt_of_obj h1

theorem TabK.there {w : World} {T i : Nat} (h : TabK w T i) (o : Nat) (ho : o < 512) : ∃ v, w.cell? ⟨T, o, none⟩ = some v ∧ w.frozen? ⟨T, o, none⟩ = false := by
  obtain ⟨c, h1, h2, _⟩ := h
  refine ⟨c[o], ?_, obj_frozen h1 o⟩
  rw [obj_cell h1]
  simp [h2, ho]

theorem TabK.step {w : World} {T i : Nat} (h : TabK w T i) (hi : i < 256) : TabK ((w.setCell ⟨T, i, none⟩ (.int .u8 (gsub i : Nat))).setCell ⟨T, 256 + gsub i, none⟩ (.int .u8 (i : Nat))) T (i + 1) := by
  obtain ⟨c, h1, h2, h3⟩ := h
  have hs := gsub_lt hi
  refine ⟨_, obj_setCell (obj_setCell h1 _ _) _ _, by simp [h2], fun j hj => ?_⟩
  have hsj : j < 256 := by omega
  have hgj := gsub_lt hsj
  by_cases e : j = i
  · subst e
    constructor
    · rw [Array.getElem?_setIfInBounds_ne (by omega), Array.getElem?_setIfInBounds_self]
      simp; omega
    · rw [Array.getElem?_setIfInBounds_self]
      simp; omega
  · have h4 := h3 j (by omega)
    have hne : gsub i ≠ gsub j := fun q => e ((gsub_inj hi hsj).1 q).symm
    constructor
    · rw [Array.getElem?_setIfInBounds_ne (by omega), Array.getElem?_setIfInBounds_ne (by omega)]
      exact h4.1
    · rw [Array.getElem?_setIfInBounds_ne (by omega), Array.getElem?_setIfInBounds_ne (by omega)]
      exact h4.2

/-- Both tables. -/
def Tab (w : World) (T : Nat) : Prop := TabK w T 256

theorem Tab.kept {w w' : World} {T : Nat} {r : Option Nat} (h : Tab w T) (g : w.grownBy w' r) (hr : some T ≠ r) : Tab w' T := by
  obtain ⟨c, h1, h2⟩ := h
  exact ⟨c, grow_obj g h1 hr, h2⟩

theorem Tab.sub {w : World} {T : Nat} (h : Tab w T) (c : UInt8) : w.cell? ⟨T, c.toNat, none⟩ = some (.int .u8 ((gsubB c).toNat : Int)) := by
  obtain ⟨d, h1, h2, h3⟩ := h
  rw [obj_cell h1, (h3 _ (u8_lt c)).1, toNat_gsubB]

theorem Tab.back {w : World} {T : Nat} (h : Tab w T) (c : UInt8) : w.cell? ⟨T, 256 + c.toNat, none⟩ = some (.int .u8 ((gbackB c).toNat : Int)) := by
  obtain ⟨d, h1, h2, h3⟩ := h
  have hb := gback_lt (u8_lt c)
  have := (h3 _ hb).2
  rw [(gback_sub (u8_lt c)).2.1] at this
  rw [obj_cell h1, this, toNat_gbackB]

def Made (w : World) (e : Ending) (w' : World) : Prop := ∃ T, e = .returned (.pointer (some ⟨T, 0, none⟩)) ∧ w.heap.size ≤ T ∧ Tab w' T ∧ w.grownBy w' none

set_option maxRecDepth 20000 in
set_option maxHeartbeats 1000000 in
theorem code_made (w : World) : Calls Tryz.prog 200 #[] w (Made w) := by
  go_enter Tryz.func200, Tryz.ntmps200
  go_upto_region 2 with (fail)
  have hx0 : TabK (w.alloc (Obj.cells Tryz.zeroCells230 230)) w.heap.size 0 := ⟨Tryz.zeroCells230, obj_new w _, by kernel_rfl, fun j hj => absurd hj (by omega)⟩
  have hg0 : w.grownBy (w.alloc (Obj.cells Tryz.zeroCells230 230)) none := grow_alloc (grow_refl w _) _
  have HX0 := Lib.hid hx0
  have HG0 := Lib.hid hg0
  clear hx0 hg0
  obtain ⟨T, hT⟩ : ∃ T, T = w.heap.size := ⟨_, rfl⟩
  have hT0 : w.heap.size ≤ T := by omega
  rw [← hT] at HX0 ⊢
  clear hT
  generalize w.alloc (Obj.cells Tryz.zeroCells230 230) = x at *
  go_wp2_with fail
  go_loopw [6] (fun vi wr => ∃ i : Nat, i ≤ 256 ∧ vi = .int .i64 i ∧ TabK wr T i ∧ x.grownBy wr (some T)) (fun vi _ => 256 - (intOf vi).toNat)
  case atStart => exact ⟨0, by omega, rfl, HX0.out, grow_refl _ _⟩
  case round =>
    obtain ⟨i, hi, rfl, hK, hg⟩ := hrel
    by_cases hlt : i < 256
    · have hsl := gsub_lt hlt
      obtain ⟨v1, c1, f1⟩ := hK.there i (by omega)
      obtain ⟨v2, c2, f2⟩ := TabK.there (i := 0) (w := wr.setCell ⟨T, i, none⟩ (.int .u8 (gsub i : Nat))) (T := T) (by obtain ⟨c, h1, h2, _⟩ := hK; exact ⟨_, obj_setCell h1 _ _, by simpa using h2, fun j hj => absurd hj (by omega)⟩) (256 + gsub i) (by omega)
      have hst := Lib.hid (And.intro (hK.step hlt) (grow_setCell (grow_setCell hg i (.int .u8 (gsub i : Nat))) (256 + gsub i) (.int .u8 (i : Nat))))
      have hcv : (i : Int) % 256 = (i : Int) := by omega
      have A1 : ∀ W : World, Calls Tryz.prog 253 #[.int .u8 i] W fun e w' => e = .returned (.int .u8 (gsub i)) ∧ W = w' := fun W => galois_sub i W hlt
      clear hK hg
      generalize gsub i = s at *
      have b0 : (0 : Int) ≤ (s : Int) := by omega
      have b1 : (s : Int) < 256 := by omega
      go_wp2_with fail
      refine (A1 _).mono ?_
      rintro e w' ⟨rfl, rfl⟩
      go_wp2_with fail
      go_region
      go_wp2_with fail
      go_roundw
      case rel => exact ⟨i + 1, by omega, by go_num, hst.out.1, grow_drew hst.out.2⟩
      case measure => simp [intOf]; omega
    · obtain rfl : i = 256 := by omega
      go_wp2_with fail
      go_ret
      exact ⟨T, rfl, hT0, hK, grow_trans_new HG0.out hg hT0⟩

end Go.Proofs.YtmomfbkpniblgaaGreatDoor

namespace Go.Proofs.YtmomfbkpniblgaaGreatDoor
open Go.RowKit
set_option linter.unusedVariables false

def BB (w : World) (B : Nat) (l : List UInt8) : Prop := Blk w B 225 (l.map bcell)

theorem BB.cell {w : World} {B : Nat} {l : List UInt8} (h : BB w B l) (i : Nat) (hi : i < l.length) : w.cell? ⟨B, i, none⟩ = some (.int .u8 (l[i].toNat : Int)) := by
  rw [Blk.cell h]
  simp [bcell, hi]
theorem BB.bys {w : World} {B : Nat} {l : List UInt8} (h : BB w B l) : Bys w B l := fun i hi => ⟨h.cell i hi, Blk.frozen h i⟩

theorem u8_info : (Tryz.prog.info? 5).map (·.size) = some 1 := by kernel_rfl
theorem u8_size (w : World) : (Go.sizeOf 5).run Tryz.prog w = .ok 1 w := by
  have h := u8_info
  cases hq : Tryz.prog.info? 5 with
  | none => rw [hq] at h; simp at h
  | some i =>
    rw [hq] at h
    have hi : i.size = 1 := by simpa using h
    simp [sizeOf, typeInfo, hq, hi]

set_option maxHeartbeats 1000000 in
theorem code_aadd (w : World) (B : Nat) (l s : List UInt8) (hB : BB w B l) (hl : l.length = 16) (hs : 16 ≤ s.length) (hs2 : s.length ≤ 140737488355328) :
    Calls Tryz.prog 150 #[.pointer (some ⟨B, 0, none⟩), S s] w fun e w' => e = .returned (.tuple #[]) ∧ BB w' B (xorL l s) ∧ w.grownBy w' (some B) := by
  have A1 : ∀ W : World, Calls Tryz.prog 202 #[S l, S s] W (GrowsTo (S (xorL l s)) W) := fun W => wire_xor W l s (by omega) hs2
  have hcv : (convert 83 9 (.slice (some ⟨B, 0, none⟩) 16 16)).run Tryz.prog w = .ok (S l) w := by have := conv_bys hB.bys 16; rw [hl] at this; exact this
  have hcd : (convert 83 9 (.slice (some ⟨B, 0, none⟩) 16 16)).run Tryz.prog w.drew = .ok (S l) w.drew := by have := conv_bys (w := w.drew) (b := B) (l := l) hB.bys 16; rw [hl] at this; exact this
  have lx : (xorL l s).length = 16 := by rw [xorL_length]; omega
  have HB := Lib.hid hB
  have hfin : ∀ W : World, w.grownBy W none → BB (W.setCells B 0 ((xorL l s).map bcell)) B (xorL l s) := fun W hg => Blk.store (Blk.kept HB.out hg (by simp)) _ (by simp [lx, hl])
  generalize xorL l s = X at *
  clear hB
  have CP : ∀ W : World, w.grownBy W none → (Builtin.copy_ #[83, 9] 3 #[.slice (some ⟨B, 0, none⟩) 16 16, .string ⟨X.toArray⟩]).run Tryz.prog W = .ok (.int .i64 16) (W.setCells B 0 (X.map bcell)) := fun W hg => by
    have hBW : BB W B l := Blk.kept HB.out hg (by simp)
    have lX : (ByteArray.mk X.toArray).size = 16 := by simpa [ByteArray.size] using lx
    have := run_copy_string (P := Tryz.prog) W 83 9 3 5 B 0 16 16 ⟨X.toArray⟩ Tryz.underlying83 u8_size (by omega) (fun j hj => by rw [Nat.zero_add, hBW.cell j (by omega)]; rfl) (fun j hj => by rw [Nat.zero_add]; exact Blk.frozen hBW j)
    rw [lX] at this
    exact this
  unfold S GrowsTo at *
  go_enter Tryz.func150, Tryz.ntmps150
  go_region_with (first
    | (go_at_call 202; (with_reducible refine (A1 _).mono ?_); rintro e x ⟨rfl, hg⟩; have hcp := CP x (by first | exact grow_trans (grow_drew (grow_refl w none)) hg | exact hg)))
  all_goals
    have hgx := grow_trans (grow_drew (grow_refl w none)) hg
    have hf2 := hfin x hgx
    clear hcp CP hcv hcd hg
    go_end0
    exact ⟨rfl, hf2, grow_setCells _ _ _ _ _ (grow_none hgx)⟩

/-- The first i are turned. -/
def mapK (f : UInt8 → UInt8) (l : List UInt8) (i : Nat) : List UInt8 := (l.map f).take i ++ l.drop i
theorem mapK_zero (f : UInt8 → UInt8) (l : List UInt8) : mapK f l 0 = l := rfl
theorem mapK_all (f : UInt8 → UInt8) (l : List UInt8) (n : Nat) (h : l.length = n) : mapK f l n = l.map f := by
  subst h
  unfold mapK
  rw [List.drop_length, List.append_nil, List.take_of_length_le (by simp)]
theorem mapK_length (f : UInt8 → UInt8) (l : List UInt8) (i : Nat) : (mapK f l i).length = l.length := by
  unfold mapK
  rw [List.length_append, List.length_take, List.length_drop, List.length_map]
  omega
theorem mapK_at (f : UInt8 → UInt8) (l : List UInt8) (i : Nat) (h : i < l.length) : (mapK f l i)[i]'(by rw [mapK_length]; exact h) = l[i] := by
  unfold mapK
  rw [List.getElem_append_right (by rw [List.length_take]; omega)]
  simp [Nat.min_eq_left (Nat.le_of_lt h)]
theorem mapK_set (f : UInt8 → UInt8) (l : List UInt8) (i : Nat) (h : i < l.length) : (mapK f l i).set i (f l[i]) = mapK f l (i + 1) := by
  unfold mapK
  rw [List.set_append_right _ _ (by rw [List.length_take]; omega), List.length_take, List.length_map, Nat.min_eq_left (Nat.le_of_lt h), Nat.sub_self]
  have e : l.drop i = l[i] :: l.drop (i + 1) := List.drop_eq_getElem_cons h
  rw [List.take_succ_eq_append_getElem (by simpa using h)]
  simp
  rw [e]
  rfl

theorem BB.set {w : World} {B : Nat} {l : List UInt8} (h : BB w B l) (i : Nat) (c : UInt8) : BB (w.setCell ⟨B, i, none⟩ (.int .u8 (c.toNat : Int))) B (l.set i c) := by
  have := Blk.set h i (bcell c)
  unfold BB
  rw [List.map_set]
  exact this

set_option maxRecDepth 20000 in
set_option maxHeartbeats 1000000 in
theorem code_through (w : World) (B T off : Nat) (f : UInt8 → UInt8) (l : List UInt8) (hB : BB w B l) (hl : l.length = 16) (hT : ∀ W : World, w.grownBy W (some B) → ∀ c : UInt8, W.cell? ⟨T, off + c.toNat, none⟩ = some (.int .u8 ((f c).toNat : Int))) :
    Calls Tryz.prog 151 #[.pointer (some ⟨B, 0, none⟩), .pointer (some ⟨T, off, none⟩)] w fun e w' => e = .returned (.tuple #[]) ∧ BB w' B (l.map f) ∧ w.grownBy w' (some B) := by
  have HL := Lib.hid hl
  clear hl
  go_enter Tryz.func151, Tryz.ntmps151
  go_wp2_with fail
  go_loopw [7] (fun vi wr => ∃ i : Nat, i ≤ 16 ∧ vi = .int .i64 i ∧ BB wr B (mapK f l i) ∧ w.grownBy wr (some B)) (fun vi _ => 16 - (intOf vi).toNat)
  case atStart => exact ⟨0, by omega, rfl, hB, grow_refl _ _⟩
  case round =>
    clear hB
    obtain ⟨i, hi, rfl, hK, hg⟩ := hrel
    by_cases hlt : i < 16
    · have hil : i < l.length := by have := HL.out; omega
      have c1 := hK.cell i (by rw [mapK_length]; exact hil)
      rw [mapK_at f l i hil] at c1
      have f1 := Blk.frozen hK i
      have hst := Lib.hid (And.intro (hK.set i (f l[i])) (grow_setCell hg i (.int .u8 ((f l[i]).toNat : Int))))
      rw [mapK_set f l i hil] at hst
      have ct := hT wr hg l[i]
      have cl := u8_lt l[i]
      generalize f l[i] = d at *
      generalize l[i] = c at *
      clear hK hT
      have b0 : (0 : Int) ≤ (c.toNat : Int) := by omega
      have b1 : (c.toNat : Int) < 256 := by omega
      go_wp2_with fail
      go_region
      go_wp2_with fail
      go_region
      go_wp2_with fail
      go_roundw
      case rel => exact ⟨i + 1, by omega, by go_num, hst.out.1, grow_drew (grow_drew hst.out.2)⟩
      case measure => simp [intOf]; omega
    · obtain rfl : i = 16 := by omega
      rw [mapK_all f l 16 HL.out] at hK
      go_wp2_with fail
      go_end0
      exact ⟨rfl, hK, hg⟩

def rowK (t : Nat) (b : List UInt8) (i : Nat) : List UInt8 := (rowsL t b).take i ++ b.drop i
theorem rowK_length (t : Nat) (b : List UInt8) (hb : b.length = 16) (i : Nat) : (rowK t b i).length = 16 := by
  unfold rowK
  rw [List.length_append, List.length_take, List.length_drop, rowsL_length, hb]
  omega

set_option maxRecDepth 20000 in
set_option maxHeartbeats 1000000 in
theorem code_arows (w : World) (B t : Nat) (l : List UInt8) (hB : BB w B l) (hl : l.length = 16) (ht : t ≤ 3) :
    Calls Tryz.prog 152 #[.pointer (some ⟨B, 0, none⟩), .int .i64 t] w fun e w' => e = .returned (.tuple #[]) ∧ BB w' B (rowsL t l) ∧ w.grownBy w' (some B) := by
  have HL := Lib.hid hl
  have info16 : (Tryz.prog.info? 225).map (·.size) = some (l.map bcell).length := by rw [List.length_map, hl]; kernel_rfl
  have HI := Lib.hid info16
  have hsv := fun W : World => run_store_new (P := Tryz.prog) W #[.int .u8 0, .int .u8 0, .int .u8 0, .int .u8 0, .int .u8 0, .int .u8 0, .int .u8 0, .int .u8 0, .int .u8 0, .int .u8 0, .int .u8 0, .int .u8 0, .int .u8 0, .int .u8 0, .int .u8 0, .int .u8 0] 225 (l.map bcell) (by simp [hl]) (by intro v hv; obtain ⟨c, _, rfl⟩ := List.mem_map.1 hv; rfl)
  clear hl info16
  go_enter Tryz.func152, Tryz.ntmps152
  go_upto_region 0 with (fail)
  refine wp_region_lit ?_
  refine Go.Great.wpList_readTo rfl _ rfl (.pointer (some ⟨B, 0, none⟩)) rfl ?_
  refine Go.Great.wpList_readTo rfl _ rfl (.pointer (some ⟨B, 0, none⟩)) rfl ?_
  refine wpList_load_mid rfl 225 _ rfl B 0 rfl (l.map bcell) _ (Blk.range hB) Tryz.underlying225 rfl HI.out ?_
  go_upto_region 1 with (fail)
  clear hsv
  obtain ⟨C, hC⟩ : ∃ C, C = w.heap.size := ⟨_, rfl⟩
  have hC0 : BB (w.alloc (.cells (l.map bcell).toArray 225)) C l := by rw [hC]; exact Blk.new w _ _
  have hB0 : BB (w.alloc (.cells (l.map bcell).toArray 225)) B (rowK t l 0) := Blk.kept hB (World.grownBy_alloc _ _ none) (by simp)
  have hg0 : w.grownBy (w.alloc (.cells (l.map bcell).toArray 225)) (some B) := grow_alloc (grow_refl w _) _
  have hBC : B ≠ C := by have := Blk.lt hB; omega
  rw [← hC]
  clear hB hC
  generalize w.alloc (.cells (l.map bcell).toArray 225) = x at *
  have HC := Lib.hid hC0
  clear hC0
  go_wp2_with fail
  go_loopw [11] (fun vi wr => ∃ i : Nat, i ≤ 16 ∧ vi = .int .i64 i ∧ BB wr B (rowK t l i) ∧ x.grownBy wr (some B)) (fun vi _ => 16 - (intOf vi).toNat)
  case atStart => exact ⟨0, by omega, rfl, hB0, grow_refl _ _⟩
  case round =>
    clear hB0
    obtain ⟨i, hi, rfl, hK, hg⟩ := hrel
    have kl := rowK_length t l HL.out i
    by_cases hlt : i < 16
    · obtain ⟨k, hk, hk16⟩ : ∃ k : Nat, k = i % 4 + 4 * ((i / 4 + t * (i % 4)) % 4) ∧ k < 16 := ⟨_, rfl, by omega⟩
      have hkl : k < l.length := by have := HL.out; omega
      have hCr : BB wr C l := Blk.kept HC.out hg (by simp; omega)
      have ck := hCr.cell k hkl
      have hset : (rowK t l i).set i l[k] = rowK t l (i + 1) := by
        have e1 : (rowsL t l)[i]'(by rw [rowsL_length]; exact hlt) = l[k] := by
          unfold rowsL
          rw [List.getElem_map, List.getElem_range, ← hk, List.getD_eq_getElem?_getD, List.getElem?_eq_getElem hkl]
          rfl
        have e2 : l.drop i = l[i]'(by have := HL.out; omega) :: l.drop (i + 1) := List.drop_eq_getElem_cons _
        unfold rowK
        rw [List.set_append_right _ _ (by rw [List.length_take]; omega), List.length_take, rowsL_length, Nat.min_eq_left (Nat.le_of_lt hlt), Nat.sub_self, e2, List.set_cons_zero]
        rw [List.take_succ_eq_append_getElem (by rw [rowsL_length]; exact hlt), e1, List.append_assoc]
        rfl
      have hst := Lib.hid (And.intro (hK.set i l[k]) (grow_setCell hg i (.int .u8 (l[k].toNat : Int))))
      rw [hset] at hst
      clear hset
      have ci := hK.cell i (by omega)
      have fi := Blk.frozen hK i
      generalize (rowK t l i)[i]'_ = d at *
      generalize l[k] = c at *
      have q1 : (t : Int) * ((i : Int) % 4) = ((t * (i % 4) : Nat) : Int) := by rw [Int.natCast_mul]; rfl
      obtain ⟨u, hu⟩ : ∃ u : Nat, u = t * (i % 4) := ⟨_, rfl⟩
      have hu9 : u ≤ 9 := by rw [hu]; exact Nat.mul_le_mul ht (by omega : i % 4 ≤ 3)
      rw [← hu] at q1 hk
      clear hu
      have q3 : (i : Int) % 4 + 4 * (((i : Int) / 4 + (u : Int)) % 4) = (k : Int) := by omega
      have k0 : (0 : Int) ≤ (k : Int) := by omega
      have k1 : (k : Int) < 16 := by omega
      clear hK hCr hk kl hkl hi hg
      go_wp2_with fail
      go_region
      go_wp2_with fail
      go_roundw
      case rel => exact ⟨i + 1, by omega, by go_num, hst.out.1, grow_drew hst.out.2⟩
      case measure => simp [intOf]; omega
    · obtain rfl : i = 16 := by omega
      have e : rowK t l 16 = rowsL t l := by
        unfold rowK
        rw [List.drop_of_length_le (by have := HL.out; omega), List.append_nil, List.take_of_length_le (by rw [rowsL_length]; omega)]
      rw [e] at hK
      go_wp2_with fail
      go_end0
      exact ⟨rfl, hK, grow_trans hg0 hg⟩

end Go.Proofs.YtmomfbkpniblgaaGreatDoor

namespace Go.Proofs.YtmomfbkpniblgaaGreatDoor
open Go.RowKit
set_option linter.unusedVariables false

def colK (y b : List UInt8) (i : Nat) : List UInt8 := (colsL y b).take i ++ b.drop i
theorem colK_length (y b : List UInt8) (hb : b.length = 16) (i : Nat) : (colK y b i).length = 16 := by
  unfold colK
  rw [List.length_append, List.length_take, List.length_drop, colsL_length, hb]
  omega
theorem colK_set (y b : List UInt8) (hb : b.length = 16) (i : Nat) (hi : i < 16) : (colK y b i).set i (colF y b i 4) = colK y b (i + 1) := by
  have e1 : (colsL y b)[i]'(by rw [colsL_length]; exact hi) = colF y b i 4 := by
    unfold colsL
    rw [List.getElem_map, List.getElem_range]
  have e2 : b.drop i = b[i]'(by omega) :: b.drop (i + 1) := List.drop_eq_getElem_cons _
  unfold colK
  rw [List.set_append_right _ _ (by rw [List.length_take]; omega), List.length_take, colsL_length, Nat.min_eq_left (Nat.le_of_lt hi), Nat.sub_self, e2, List.set_cons_zero]
  rw [List.take_succ_eq_append_getElem (by rw [colsL_length]; exact hi), e1, List.append_assoc]
  rfl

def YB (w : World) (B : Nat) (l : List UInt8) : Prop := Blk w B 232 (l.map bcell)
theorem YB.cell {w : World} {B : Nat} {l : List UInt8} (h : YB w B l) (i : Nat) (hi : i < l.length) : w.cell? ⟨B, i, none⟩ = some (.int .u8 (l[i].toNat : Int)) := by
  rw [Blk.cell h]
  simp [bcell, hi]

set_option maxRecDepth 20000 in
set_option maxHeartbeats 1000000 in
theorem code_acols (w : World) (B : Nat) (y l : List UInt8) (hB : BB w B l) (hl : l.length = 16) (hy : y.length = 4) :
    Calls Tryz.prog 153 #[.pointer (some ⟨B, 0, none⟩), .agg (y.map bcell).toArray] w fun e w' => e = .returned (.tuple #[]) ∧ BB w' B (colsL y l) ∧ w.grownBy w' (some B) := by
  have HL := Lib.hid hl
  have HY := Lib.hid hy
  have info16 : (Tryz.prog.info? 225).map (·.size) = some (l.map bcell).length := by rw [List.length_map, hl]; kernel_rfl
  have HI := Lib.hid info16
  have hsv := fun W : World => run_store_new (P := Tryz.prog) W #[.int .u8 0, .int .u8 0, .int .u8 0, .int .u8 0, .int .u8 0, .int .u8 0, .int .u8 0, .int .u8 0, .int .u8 0, .int .u8 0, .int .u8 0, .int .u8 0, .int .u8 0, .int .u8 0, .int .u8 0, .int .u8 0] 225 (l.map bcell) (by simp [hl]) (by intro v hv; obtain ⟨c, _, rfl⟩ := List.mem_map.1 hv; rfl)
  clear hl hy info16
  go_enter Tryz.func153, Tryz.ntmps153
  go_upto_region 1 with (fail)
  have hBx : BB (w.alloc (.cells (y.map bcell).toArray 232)) B l := Blk.kept hB (World.grownBy_alloc _ _ none) (by simp)
  have hYx : YB (w.alloc (.cells (y.map bcell).toArray 232)) w.heap.size y := Blk.new w _ _
  have hgx : w.grownBy (w.alloc (.cells (y.map bcell).toArray 232)) (some B) := grow_alloc (grow_refl w _) _
  have hBY : B < w.heap.size := Blk.lt hB
  generalize w.alloc (.cells (y.map bcell).toArray 232) = v at *
  obtain ⟨Y, hY⟩ : ∃ Y, Y = w.heap.size := ⟨_, rfl⟩
  rw [← hY] at hYx hBY ⊢
  clear hY hB
  refine wp_region_lit ?_
  refine Go.Great.wpList_readTo rfl _ rfl (.pointer (some ⟨B, 0, none⟩)) rfl ?_
  refine Go.Great.wpList_readTo rfl _ rfl (.pointer (some ⟨B, 0, none⟩)) rfl ?_
  refine wpList_load_mid rfl 225 _ rfl B 0 rfl (l.map bcell) _ (Blk.range hBx) Tryz.underlying225 rfl HI.out ?_
  go_upto_region 2 with (fail)
  clear hsv
  have hYlt : Y < v.heap.size := Blk.lt hYx
  have hC0 : BB (v.alloc (.cells (l.map bcell).toArray 225)) v.heap.size l := Blk.new v _ _
  have hY0 : YB (v.alloc (.cells (l.map bcell).toArray 225)) Y y := Blk.kept hYx (World.grownBy_alloc _ _ none) (by simp)
  have hB0 : BB (v.alloc (.cells (l.map bcell).toArray 225)) B (colK y l 0) := Blk.kept hBx (World.grownBy_alloc _ _ none) (by simp)
  have hg0 : w.grownBy (v.alloc (.cells (l.map bcell).toArray 225)) (some B) := grow_alloc hgx _
  obtain ⟨C, hC⟩ : ∃ C, C = v.heap.size := ⟨_, rfl⟩
  rw [← hC] at hC0 hYlt ⊢
  clear hC hYx hBx hgx
  generalize v.alloc (.cells (l.map bcell).toArray 225) = x at *
  have HC := Lib.hid hC0
  have HYY := Lib.hid hY0
  clear hC0 hY0
  go_wp2_with fail
  go_loopw [12] (fun vi wr => ∃ i : Nat, i ≤ 16 ∧ vi = .int .i64 i ∧ BB wr B (colK y l i) ∧ x.grownBy wr (some B)) (fun vi _ => 16 - (intOf vi).toNat)
  case atStart => exact ⟨0, by omega, rfl, hB0, grow_refl _ _⟩
  case round =>
    clear hB0
    obtain ⟨i, hi, rfl, hK, hg⟩ := hrel
    have kl := colK_length y l HL.out i
    by_cases hlt : i < 16
    · have hs := Lib.hid (colK_set y l HL.out i hlt)
      have hd : decide ((i : Int) < 16) = true := by simp; omega
      have ci := hK.cell i (by omega)
      have fi := Blk.frozen hK i
      have hst : BB (wr.setCell ⟨B, i, none⟩ (.int .u8 0)) B ((colK y l i).set i (colF y l i 0)) := hK.set i 0
      have hgs := grow_setCell hg i (.int .u8 0)
      generalize (colK y l i)[i]'_ = d at *
      generalize colK y l i = L at *
      have HS := Lib.hid (And.intro hst hgs)
      clear hst hgs hK hg
      go_wp2_with fail
      go_loopw [23] (fun vk wk => ∃ k : Nat, k ≤ 4 ∧ vk = .int .i64 k ∧ BB wk B (L.set i (colF y l i k)) ∧ x.grownBy wk (some B)) (fun vk _ => 4 - (intOf vk).toNat)
      case atStart => exact ⟨0, by omega, rfl, HS.out.1, HS.out.2⟩
      case round =>
        clear HS fi ci
        obtain ⟨k, hk, rfl, hK, hg⟩ := hrel
        by_cases hlk : k < 4
        · obtain ⟨m, hm⟩ : ∃ m : Nat, m = (k + 4 - i % 4) % 4 := ⟨_, rfl⟩
          obtain ⟨n, hn⟩ : ∃ n : Nat, n = 4 * (i / 4) + k := ⟨_, rfl⟩
          have hml : m < y.length := by have := HY.out; omega
          have hnl : n < l.length := by have := HL.out; omega
          have q1 : ((k : Int) - (i : Int) % 4 + 4) % 4 = (m : Int) := by omega
          have q1t : Int.tmod ((k : Int) - (i : Int) % 4 + 4) 4 = (m : Int) := by rw [Int.tmod_eq_emod_of_nonneg (by omega)]; exact q1
          have q1a : IntKind.i64.wrap ((k : Int) - (i : Int) % 4) = (k : Int) - (i : Int) % 4 := IntWalk.i64_in _ (by omega)
          have q1b : IntKind.i64.wrap ((k : Int) - (i : Int) % 4 + 4) = (k : Int) - (i : Int) % 4 + 4 := IntWalk.i64_in _ (by omega)
          have q2a : IntKind.i64.wrap (4 * ((i : Int) / 4)) = 4 * ((i : Int) / 4) := IntWalk.i64_in _ (by omega)
          have q2b : IntKind.i64.wrap (4 * ((i : Int) / 4) + (k : Int)) = 4 * ((i : Int) / 4) + (k : Int) := IntWalk.i64_in _ (by omega)
          have q1n : (0 : Int) ≤ (k : Int) - (i : Int) % 4 + 4 := by omega
          have q2 : 4 * ((i : Int) / 4) + (k : Int) = (n : Int) := by omega
          have q2c : IntKind.i64.wrap (n : Int) = (n : Int) := IntWalk.i64_in _ (by omega)
          have q1c : IntKind.i64.wrap (m : Int) = (m : Int) := IntWalk.i64_in _ (by omega)
          have i0 : (0 : Int) ≤ (i : Int) := by omega
          have i1 : (i : Int) < 16 := by omega
          have m0 : (0 : Int) ≤ (m : Int) := by omega
          have m1 : (m : Int) < 4 := by omega
          have n0 : (0 : Int) ≤ (n : Int) := by omega
          have n1 : (n : Int) < 16 := by omega
          have hCr : BB wr C l := Blk.kept HC.out hg (by simp; omega)
          have hYr : YB wr Y y := Blk.kept HYY.out hg (by simp; omega)
          have cm := hYr.cell m hml
          have cn := hCr.cell n hnl
          have ci := hK.cell i (by rw [List.length_set]; omega)
          rw [List.getElem_set_self] at ci
          have fi := Blk.frozen hK i
          have hnext : colF y l i (k + 1) = colF y l i k ^^^ gmulB y[m] l[n] := by
            rw [colF, ← hm, ← hn, List.getD_eq_getElem?_getD, List.getElem?_eq_getElem hml, List.getD_eq_getElem?_getD, List.getElem?_eq_getElem hnl]
            rfl
          have hst := hK.set i (colF y l i (k + 1))
          rw [List.set_set] at hst
          have hgs := grow_setCell hg i (.int .u8 ((colF y l i (k + 1)).toNat : Int))
          have HS := Lib.hid (And.intro hst hgs)
          have A1 : ∀ W : World, Calls Tryz.prog 203 #[.int .u8 (y[m].toNat : Nat), .int .u8 (l[n].toNat : Nat)] W fun e w' => e = .returned (.int .u8 ((gmulB y[m] l[n]).toNat : Nat)) ∧ W = w' := fun W => by
            rw [toNat_gmulB]
            exact galois_mul _ _ W (u8_lt _) (u8_lt _)
          have xb := xor_byte (colF y l i k) (gmulB y[m] l[n])
          rw [← hnext] at xb
          clear hm hn hst hgs hK hg hCr hYr hnext
          generalize gmulB y[m] l[n] = g at *
          generalize y[m] = cy at *
          generalize l[n] = cl at *
          obtain ⟨cb, hcb⟩ : ∃ c, c = colF y l i (k + 1) := ⟨_, rfl⟩
          rw [← hcb] at xb HS
          have HCB := Lib.hid hcb
          clear hcb
          generalize colF y l i k = ca at *
          clear hml hnl
          go_wp2_with fail
          go_still_tail 22, (by kernel_rfl)
          still_call ((A1 _).mono (fun e w' h => ⟨h.1, h.2.symm⟩))
          repeat still_step
          refine wpStill_nil ?_
          change wpList _ _ _ _ _ wr.drew
          go_wp2_with fail
          go_roundw
          case rel => exact ⟨k + 1, by omega, by go_num, by rw [← HCB.out]; exact HS.out.1, grow_drew HS.out.2⟩
          case measure => simp [intOf]; omega
        · obtain rfl : k = 4 := by omega
          rw [hs.out] at hK
          go_wp2_with fail
          go_roundw
          case rel => exact ⟨i + 1, by omega, by go_num, hK, hg⟩
          case measure => simp [intOf]; omega
    · obtain rfl : i = 16 := by omega
      have e : colK y l 16 = colsL y l := by
        unfold colK
        rw [List.drop_of_length_le (by have := HL.out; omega), List.append_nil, List.take_of_length_le (by rw [colsL_length]; omega)]
      rw [e] at hK
      go_wp2_with fail
      go_end0
      exact ⟨rfl, hK, grow_trans hg0 hg⟩

end Go.Proofs.YtmomfbkpniblgaaGreatDoor

namespace Go.Proofs.YtmomfbkpniblgaaGreatDoor
open Go.RowKit
set_option linter.unusedVariables false

/-- A word of four bytes. -/
def WB4 (w : World) (B : Nat) (l : List UInt8) : Prop := Blk w B 232 (l.map bcell)
theorem WB4.cell {w : World} {B : Nat} {l : List UInt8} (h : WB4 w B l) (i : Nat) (hi : i < l.length) : w.cell? ⟨B, i, none⟩ = some (.int .u8 (l[i].toNat : Int)) := by
  rw [Blk.cell h]
  simp [bcell, hi]
theorem WB4.set {w : World} {B : Nat} {l : List UInt8} (h : WB4 w B l) (i : Nat) (c : UInt8) : WB4 (w.setCell ⟨B, i, none⟩ (.int .u8 (c.toNat : Int))) B (l.set i c) := by
  have := Blk.set h i (bcell c)
  unfold WB4
  rw [List.map_set]
  exact this

theorem Tab.below {w w' : World} {T n : Nat} (h : Tab w T) (hT : T < n) (g : Below n w w') : Tab w' T := by
  obtain ⟨c, h1, h2⟩ := h
  refine ⟨c, ?_, h2⟩
  rw [g.block T hT]
  exact h1

theorem bro.cellAt {w : World} {base g n cap : Nat} {l : List UInt8} (h : bro w base (.slice (some ⟨g, 0, none⟩) n cap) l) (i : Nat) (hi : i < l.length) : w.cell? ⟨g, i, none⟩ = some (.int .u8 (l[i].toNat : Int)) := by
  obtain ⟨b, c, hv, _, _, _, _, h5, _⟩ := h
  cases hv
  exact h5.cell i hi

/-- The first k are turned by one, through the table. -/
def rotK (l : List UInt8) (k : Nat) : List UInt8 := ((l.drop 1).map gsubB).take k ++ l.drop k
theorem rotK_length (l : List UInt8) (k : Nat) (h : k + 1 ≤ l.length) : (rotK l k).length = l.length := by
  unfold rotK
  rw [List.length_append, List.length_take, List.length_map, List.length_drop, List.length_drop]
  omega
theorem rotK_at (l : List UInt8) (k j : Nat) (h : k + 1 ≤ l.length) (hj : j < l.length) (hkj : k ≤ j) : (rotK l k)[j]'(by rw [rotK_length l k h]; exact hj) = l[j] := by
  have lt : (((l.drop 1).map gsubB).take k).length = k := by rw [List.length_take, List.length_map, List.length_drop]; omega
  unfold rotK
  rw [List.getElem_append_right (by omega), List.getElem_drop]
  congr 1
  omega
theorem rotK_set (l : List UInt8) (k : Nat) (h : k + 1 < l.length) : (rotK l k).set k (gsubB l[k + 1]) = rotK l (k + 1) := by
  have lt : (((l.drop 1).map gsubB).take k).length = k := by rw [List.length_take, List.length_map, List.length_drop]; omega
  have e : l.drop k = l[k] :: l.drop (k + 1) := List.drop_eq_getElem_cons (by omega)
  unfold rotK
  rw [List.set_append_right _ _ (by omega), lt, Nat.sub_self, e, List.set_cons_zero, List.take_succ_eq_append_getElem (by rw [List.length_map, List.length_drop]; omega), List.append_assoc]
  have e2 : ((l.drop 1).map gsubB)[k]'(by rw [List.length_map, List.length_drop]; omega) = gsubB l[k + 1] := by
    rw [List.getElem_map, List.getElem_drop]
    congr 2
    omega
  rw [e2]
  rfl

theorem idx4_0 (w : World) (a0 a1 a2 a3 : Int) : (Instr.index 232 (.agg #[.int .u8 a0, .int .u8 a1, .int .u8 a2, .int .u8 a3]) (.int .i64 0)).run Tryz.prog w = .ok (.int .u8 a0) w := by kernel_rfl
theorem idx4_1 (w : World) (a0 a1 a2 a3 : Int) : (Instr.index 232 (.agg #[.int .u8 a0, .int .u8 a1, .int .u8 a2, .int .u8 a3]) (.int .i64 1)).run Tryz.prog w = .ok (.int .u8 a1) w := by kernel_rfl
theorem idx4_2 (w : World) (a0 a1 a2 a3 : Int) : (Instr.index 232 (.agg #[.int .u8 a0, .int .u8 a1, .int .u8 a2, .int .u8 a3]) (.int .i64 2)).run Tryz.prog w = .ok (.int .u8 a2) w := by kernel_rfl
theorem idx4_3 (w : World) (a0 a1 a2 a3 : Int) : (Instr.index 232 (.agg #[.int .u8 a0, .int .u8 a1, .int .u8 a2, .int .u8 a3]) (.int .i64 3)).run Tryz.prog w = .ok (.int .u8 a3) w := by kernel_rfl
theorem idx4 (w : World) (a0 a1 a2 a3 : UInt8) (k : Nat) (hk : k < [a0, a1, a2, a3].length) :
    (Instr.index 232 (.agg #[.int .u8 (a0.toNat : Int), .int .u8 (a1.toNat : Int), .int .u8 (a2.toNat : Int), .int .u8 (a3.toNat : Int)]) (.int .i64 (k : Int))).run Tryz.prog w = .ok (.int .u8 ([a0, a1, a2, a3][k].toNat : Int)) w := by
  match k, hk with
  | 0, _ => exact idx4_0 w _ _ _ _
  | 1, _ => exact idx4_1 w _ _ _ _
  | 2, _ => exact idx4_2 w _ _ _ _
  | 3, _ => exact idx4_3 w _ _ _ _

theorem four {b : List UInt8} (h : b.length = 4) : ∃ a0 a1 a2 a3, b = [a0, a1, a2, a3] := by
  match b, h with
  | [a0, a1, a2, a3], _ => exact ⟨a0, a1, a2, a3, rfl⟩

theorem lastW_0 (n i : Nat) (p a0 a1 a2 a3 : UInt8) (h : i % n = 0) : lastW n i p [a0, a1, a2, a3] = ((rotK [a0, a1, a2, a3] 3).set 3 (gsubB a0)).set 0 (gsubB a1 ^^^ p) := by
  unfold lastW; rw [if_pos h]; rfl
theorem lastW_4 (n i : Nat) (p a0 a1 a2 a3 : UInt8) (h : ¬ i % n = 0) (h2 : n = 8 ∧ i % n = 4) : lastW n i p [a0, a1, a2, a3] = mapK gsubB [a0, a1, a2, a3] 4 := by
  unfold lastW; rw [if_neg h, if_pos h2]; rfl
theorem lastW_n (n i : Nat) (p a0 a1 a2 a3 : UInt8) (h : ¬ i % n = 0) (h2 : ¬ (n = 8 ∧ i % n = 4)) : lastW n i p [a0, a1, a2, a3] = [a0, a1, a2, a3] := by
  unfold lastW; rw [if_neg h, if_neg h2]

set_option maxRecDepth 20000 in
set_option maxHeartbeats 2000000 in
theorem code_expandT (w : World) (T n : Nat) (key : List UInt8) (hT : Tab w T) (hk : key.length = 4 * n) (hn : n = 4 ∨ n = 8) :
    Calls Tryz.prog 201 #[.pointer (some ⟨T, 0, none⟩), S key] w fun e w' => e = .returned (S (expL key)) ∧ w.grownBy w' none := by
  have hTl := TabK.lt hT
  have hTw : ∀ W : World, Below w.heap.size w W → Hid (Tab W T) := fun W g => Lib.hid (hT.below hTl g)
  obtain ⟨v, x, hcv, hbr, hgx⟩ := to_bro w key (by unfold maxLen; omega)
  have hfin : expL key = expF n (3 * n + 28) n 1 key := by
    unfold expL
    rw [hk, Nat.mul_div_cancel_left n (by omega : 0 < 4)]
  have HF := Lib.hid hfin
  have hbx : Below w.heap.size w x := grow_below hgx _ (Nat.le_refl _) (by simp)
  clear hfin hT hgx
  have q0 : (key.length : Int) / 4 = (n : Int) := by omega
  have HK := Lib.hid hk
  clear hk
  unfold S
  go_enter Tryz.func201, Tryz.ntmps201
  go_wp2_with fail
  clear hcv
  go_loopw [6, 7, 8] (fun vw vp vi wr => ∃ (i k : Nat) (p : UInt8) (L : List UInt8), n ≤ i ∧ i ≤ 4 * (n + 7) ∧ vi = .int .i64 i ∧ vp = .int .u8 (p.toNat : Int) ∧ Hid (bro wr w.heap.size vw L) ∧ L.length = 4 * k + 4 ∧ i = k + 1 ∧ Hid (expF n (4 * (n + 7) - i) i p L = expL key) ∧ Below w.heap.size w wr) (fun _ _ vi _ => 4 * (n + 7) - (intOf vi).toNat)
  case atStart => exact ⟨n, n - 1, 1, key, by omega, by omega, rfl, rfl, hbr, by have := HK.out; omega, by omega, by rw [HF.out, show 4 * (n + 7) - n = 3 * n + 28 from by omega]; rfl, hbx⟩
  case round =>
    clear hbr hbx
    obtain ⟨i, k, p, L, hi1, hi2, rfl, rfl, hbr, hL, hik, hE, HB⟩ := hrel
    have hn1 : (0 : Int) < (n : Int) := by omega
    have m1 : (4 : Int) * ((n : Int) + 7) = 4 * (n : Int) + 28 := by omega
    by_cases hlt : i < 4 * (n + 7)
    · have hd : decide ((i : Int) < 4 * (n : Int) + 28) = true := by simp; omega
      obtain ⟨g, cap, hv, hg1, hg2, hg3, hg4, h5, h6⟩ := id hbr.out
      subst hv
      have c0 := h5.cell (4 * k) (by omega)
      have c1 := h5.cell (4 * k + 1) (by omega)
      have c2 := h5.cell (4 * k + 2) (by omega)
      have c3 := h5.cell (4 * k + 3) (by omega)
      have hlast : L.drop (L.length - 4) = [L[4 * k]'(by omega), L[4 * k + 1]'(by omega), L[4 * k + 2]'(by omega), L[4 * k + 3]'(by omega)] := by
        rw [show L.length - 4 = 4 * k from by omega, List.drop_eq_getElem_cons (by omega), List.drop_eq_getElem_cons (by omega), List.drop_eq_getElem_cons (by omega), List.drop_eq_getElem_cons (by omega), List.drop_of_length_le (by omega)]
      have HLast := Lib.hid hlast
      generalize L[4 * k]'_ = a0 at *
      generalize L[4 * k + 1]'_ = a1 at *
      generalize L[4 * k + 2]'_ = a2 at *
      generalize L[4 * k + 3]'_ = a3 at *
      have HLen := Lib.hid hL
      have HIK := Lib.hid hik
      obtain ⟨z, hz⟩ : ∃ z : Nat, z = 4 * k := ⟨_, rfl⟩
      rw [← hz] at c0 c1 c2 c3 hL
      have s1 : (4 : Int) ≤ (L.length : Int) := by omega
      have s2 : (L.length : Int) - 4 = (z : Int) := by omega
      have s3 : (z : Int) ≤ (L.length : Int) := by omega
      have s4 : (0 : Int) ≤ (z : Int) := by omega
      have s5 : L.length - z = 4 := by omega
      have s6 : IntKind.i64.wrap (z : Int) = (z : Int) := IntWalk.i64_in _ (by omega)
      have HZ := Lib.hid hz
      clear hlast hz h5 h6 hik hL hg4
      have hat := fun W : World => run_arrayAt (P := Tryz.prog) (w := W) 232 5 4 (some ⟨g, z, none⟩) 4 (cap - z) Tryz.underlying232 (Nat.le_refl _)
      go_upto_block 2 with (fail)
      clear hat
      obtain ⟨B, hBe⟩ : ∃ B, B = wr.heap.size := ⟨_, rfl⟩
      have hWy : WB4 (wr.alloc (.cells #[.int .u8 (a0.toNat : Int), .int .u8 (a1.toNat : Int), .int .u8 (a2.toNat : Int), .int .u8 (a3.toNat : Int)] 232)) B [a0, a1, a2, a3] := by rw [hBe]; exact obj_new wr _
      have hgy : wr.grownBy (wr.alloc (.cells #[.int .u8 (a0.toNat : Int), .int .u8 (a1.toNat : Int), .int .u8 (a2.toNat : Int), .int .u8 (a3.toNat : Int)] 232)) none := grow_alloc (grow_refl _ _) _
      rw [← hBe]
      generalize wr.alloc (.cells #[.int .u8 (a0.toNat : Int), .int .u8 (a1.toNat : Int), .int .u8 (a2.toNat : Int), .int .u8 (a3.toNat : Int)] 232) = y at *
      have hBw : w.heap.size ≤ B := by rw [hBe]; exact HB.size
      have hBT : T < B := by omega
      have hgB : g < B := by omega
      have HBR := Lib.hid (hbr.out.kept hgy nofun)
      have HBy : Below w.heap.size w y := below_step HB hgy nofun
      have HTy := hTw y HBy
      have HGY := Lib.hid hgy
      clear hBe c0 c1 c2 c3 hgy hbr
      have HWY := Lib.hid hWy
      clear hWy
      obtain ⟨l4, hl4⟩ : ∃ l4, l4 = [a0, a1, a2, a3] := ⟨_, rfl⟩
      have hl44 : l4.length = 4 := by rw [hl4]; rfl
      rw [← hl4] at HWY HLast
      have HL4 := Lib.hid hl4
      clear hl4
      have HL44 := Lib.hid hl44
      clear hl44
      have HTT : ∀ W : World, y.grownBy W (some B) → ∀ c : UInt8, W.cell? ⟨T, c.toNat, none⟩ = some (.int .u8 ((gsubB c).toNat : Int)) := fun W g c => Tab.sub (Tab.kept HTy.out g (by simp; omega)) c
      have HTH := Lib.hid HTT
      clear HTT
      go_cut [7] (fun vp wx => ∃ q : UInt8, vp = .int .u8 (q.toNat : Int) ∧ Hid (q = powS n i p) ∧ Hid (WB4 wx B (lastW n i p l4)) ∧ y.grownBy wx (some B))
      case first =>
        clear hTw s1 s2 s3 s4 s5 s6 m1
        by_cases hz0 : i % n = 0
        · have q1 : ((i : Int) % (n : Int) == 0) = true := by
            have : (i : Int) % (n : Int) = 0 := by omega
            simpa using this
          have hl : Hid (lastW n i p l4 = ((rotK l4 3).set 3 (gsubB a0)).set 0 (gsubB a1 ^^^ p)) := Lib.hid (by rw [HL4.out]; exact lastW_0 n i p a0 a1 a2 a3 hz0)
          have hpw : Hid (gmulB p 2 = powS n i p) := Lib.hid (by unfold powS; rw [if_pos hz0])
          have d0 : y.cell? ⟨B, 0, none⟩ = some (.int .u8 (a0.toNat : Int)) := by
            have := HWY.out.cell 0 (by rw [HL44.out]; omega)
            rw [this]
            simp only [HL4.out]
            rfl
          clear hz0
          go_wp2_with fail
          go_loopw [43, 11] (fun vm vk wr => ∃ m : Nat, m ≤ 3 ∧ vm = .int .i64 m ∧ WB4 wr B (rotK l4 m) ∧ y.grownBy wr (some B)) (fun vm _ _ => 3 - (intOf vm).toNat)
          case atStart => exact ⟨0, by omega, rfl, HWY.out, grow_refl _ _⟩
          case round =>
            obtain ⟨m, hm, rfl, hK, hg⟩ := hrel
            clear d0
            by_cases hlm : m < 3
            · have e1 := hK.cell (m + 1) (by rw [rotK_length _ _ (by rw [HL44.out]; omega), HL44.out]; omega)
              rw [rotK_at _ _ _ (by rw [HL44.out]; omega) (by rw [HL44.out]; omega) (by omega)] at e1
              have e2 := hK.cell m (by rw [rotK_length _ _ (by rw [HL44.out]; omega), HL44.out]; omega)
              have f2 := Blk.frozen hK m
              have ct := HTH.out wr hg (l4[m + 1]'(by rw [HL44.out]; omega))
              have hst := hK.set m (gsubB (l4[m + 1]'(by rw [HL44.out]; omega)))
              rw [rotK_set _ _ (by rw [HL44.out]; omega)] at hst
              have hgs := grow_setCell hg m (.int .u8 ((gsubB (l4[m + 1]'(by rw [HL44.out]; omega))).toNat : Int))
              have HS := Lib.hid (And.intro hst hgs)
              clear hst hgs hK hg
              generalize gsubB (l4[m + 1]'_) = dd at *
              have ub := u8_lt (l4[m + 1]'(by rw [HL44.out]; omega))
              generalize l4[m + 1]'_ = cc at *
              have i0 : (0 : Int) ≤ (m : Int) := by omega
              have i1 : (m : Int) < 4 := by omega
              have i2 : (0 : Int) ≤ (m : Int) + 1 := by omega
              have i3 : (m : Int) + 1 < 4 := by omega
              have i4 : IntKind.i64.wrap ((m : Int) + 1) = (m : Int) + 1 := IntWalk.i64_in _ (by omega)
              have i5 : ((m : Int) + 1).toNat = m + 1 := by omega
              have j0 : (0 : Int) ≤ (cc.toNat : Int) := by omega
              have j1 : (cc.toNat : Int) < 256 := by omega
              go_wp2_with fail
              go_still_tail 11, (by kernel_rfl)
              change wpList _ _ _ _ _ wr.drew
              go_wp2_with fail
              go_roundw
              case rel => exact ⟨m + 1, by omega, by go_num, HS.out.1, grow_drew HS.out.2⟩
              case measure => simp [intOf]; omega
            · obtain rfl : m = 3 := by omega
              have rl := rotK_length l4 3 (by rw [HL44.out]; omega)
              rw [HL44.out] at rl
              have ct := HTH.out wr hg a0
              have e3 := hK.cell 3 (by omega)
              have f3 := Blk.frozen hK 3
              have f0 := Blk.frozen hK 0
              have e0 : wr.cell? ⟨B, 0, none⟩ = some (.int .u8 ((gsubB a1).toNat : Int)) := by
                have := hK.cell 0 (by omega)
                rw [this]
                simp only [HL4.out]
                rfl
              have hst := (hK.set 3 (gsubB a0)).set 0 (gsubB a1 ^^^ p)
              rw [← hl.out] at hst
              have hgs := grow_setCell (grow_setCell hg 3 (.int .u8 ((gsubB a0).toNat : Int))) 0 (.int .u8 ((gsubB a1 ^^^ p).toNat : Int))
              have HS := Lib.hid (And.intro hst hgs)
              have xb := xor_byte (gsubB a1) p
              have hA : ∀ W : World, Calls Tryz.prog 203 #[.int .u8 (p.toNat : Nat), .int .u8 2] W fun e w' => e = .returned (.int .u8 ((gmulB p 2).toNat : Nat)) ∧ W = w' := fun W => by
                rw [toNat_gmulB]
                exact galois_mul p.toNat 2 W (u8_lt p) (by omega)
              generalize (rotK l4 3)[3]'_ = r3 at *
              clear hst hgs hK hg rl
              generalize gsubB a1 ^^^ p = x0 at *
              generalize gsubB a0 = s0 at *
              generalize gsubB a1 = s1 at *
              have j0 : (0 : Int) ≤ (a0.toNat : Int) := by omega
              have j1 : (a0.toNat : Int) < 256 := by have := u8_lt a0; omega
              go_wp2_with fail
              refine (hA _).mono ?_
              rintro e w9 ⟨rfl, rfl⟩
              go_wp2_with fail
              go_meet
              exact ⟨_, rfl, hpw, Lib.hid HS.out.1, HS.out.2⟩
        · have q1 : ((i : Int) % (n : Int) == 0) = false := by
            have : ¬ (i : Int) % (n : Int) = 0 := by omega
            simpa using this
          have hpw : Hid (p = powS n i p) := Lib.hid (by unfold powS; rw [if_neg hz0])
          by_cases hz4 : n = 8 ∧ i % n = 4
          · have hl : Hid (lastW n i p l4 = mapK gsubB l4 4) := Lib.hid (by rw [HL4.out]; exact lastW_4 n i p a0 a1 a2 a3 hz0 hz4)
            have q2 : ((n : Int) == 8) = true := by
              have : (n : Int) = 8 := by omega
              simpa using this
            have q3 : ((i : Int) % (n : Int) == 4) = true := by
              have : (i : Int) % (n : Int) = 4 := by omega
              simpa using this
            have d0 : y.cell? ⟨B, 0, none⟩ = some (.int .u8 (a0.toNat : Int)) := by
              have := HWY.out.cell 0 (by rw [HL44.out]; omega)
              rw [this]; simp only [HL4.out]; rfl
            have d1 : y.cell? ⟨B, 1, none⟩ = some (.int .u8 (a1.toNat : Int)) := by
              have := HWY.out.cell 1 (by rw [HL44.out]; omega)
              rw [this]; simp only [HL4.out]; rfl
            have d2 : y.cell? ⟨B, 2, none⟩ = some (.int .u8 (a2.toNat : Int)) := by
              have := HWY.out.cell 2 (by rw [HL44.out]; omega)
              rw [this]; simp only [HL4.out]; rfl
            have d3 : y.cell? ⟨B, 3, none⟩ = some (.int .u8 (a3.toNat : Int)) := by
              have := HWY.out.cell 3 (by rw [HL44.out]; omega)
              rw [this]; simp only [HL4.out]; rfl
            clear hz0 hz4
            go_wp2_with fail
            go_loopw [82, 12, 13] (fun vm vk vc wr => ∃ m : Nat, m ≤ 4 ∧ vm = .int .i64 m ∧ WB4 wr B (mapK gsubB l4 m) ∧ y.grownBy wr (some B)) (fun vm _ _ _ => 4 - (intOf vm).toNat)
            case atStart => exact ⟨0, by omega, rfl, HWY.out, grow_refl _ _⟩
            case round =>
              clear d0 d1 d2 d3
              obtain ⟨m, hm, rfl, hK, hg⟩ := hrel
              by_cases hlm : m < 4
              · have hml : m < l4.length := by rw [HL44.out]; exact hlm
                have e2 := hK.cell m (by rw [mapK_length]; exact hml)
                have f2 := Blk.frozen hK m
                have ix : ∀ W : World, (Instr.index 232 (.agg #[.int .u8 (a0.toNat : Int), .int .u8 (a1.toNat : Int), .int .u8 (a2.toNat : Int), .int .u8 (a3.toNat : Int)]) (.int .i64 (m : Int))).run Tryz.prog W = .ok (.int .u8 (l4[m].toNat : Int)) W := fun W => by
                  have := idx4 W a0 a1 a2 a3 m (by simpa using hlm)
                  rw [this]; simp only [HL4.out]
                have ct := HTH.out wr hg l4[m]
                have hst := hK.set m (gsubB l4[m])
                rw [mapK_set _ _ _ hml] at hst
                have hgs := grow_setCell hg m (.int .u8 ((gsubB l4[m]).toNat : Int))
                have HS := Lib.hid (And.intro hst hgs)
                clear hst hgs hK hg
                have ub := u8_lt l4[m]
                generalize gsubB l4[m] = dd at *
                generalize l4[m] = cc at *
                generalize (mapK gsubB l4 m)[m]'_ = oo at *
                have j0 : (0 : Int) ≤ (cc.toNat : Int) := by omega
                have j1 : (cc.toNat : Int) < 256 := by omega
                clear hml
                go_wp2_with fail
                go_roundw
                case rel => exact ⟨m + 1, by omega, by go_num, HS.out.1, HS.out.2⟩
                case measure => simp [intOf]; omega
              · obtain rfl : m = 4 := by omega
                rw [← hl.out] at hK
                have HS := Lib.hid (And.intro hK hg)
                clear hK hg
                go_wp2_with fail
                go_meet
                exact ⟨_, rfl, hpw, Lib.hid HS.out.1, HS.out.2⟩
          · have hl : Hid (lastW n i p l4 = l4) := Lib.hid (by
              conv => lhs; rw [HL4.out]
              rw [lastW_n n i p a0 a1 a2 a3 hz0 hz4, HL4.out])
            have HW2 : Hid (WB4 y B (lastW n i p l4)) := Lib.hid (by rw [hl.out]; exact HWY.out)
            by_cases h8 : n = 8
            · have q2 : ((n : Int) == 8) = true := by
                have : (n : Int) = 8 := by omega
                simpa using this
              have q3 : ((i : Int) % (n : Int) == 4) = false := by
                have : ¬ (i : Int) % (n : Int) = 4 := by omega
                simpa using this
              clear hz0 hz4 h8
              go_wp2_with fail
              go_meet
              exact ⟨_, rfl, hpw, HW2, grow_refl _ _⟩
            · have q2 : ((n : Int) == 8) = false := by
                have : ¬ (n : Int) = 8 := by omega
                simpa using this
              clear hz0 hz4 h8
              go_wp2_with fail
              go_meet
              exact ⟨_, rfl, hpw, HW2, grow_refl _ _⟩
      case rest =>
        obtain ⟨q, rfl, hq, hWl, hgc⟩ := hcut
        have hll := lastW_length n i p l4 HL44.out
        obtain ⟨tt, htt⟩ : ∃ tt, tt = lastW n i p l4 := ⟨_, rfl⟩
        rw [← htt] at hWl hll
        obtain ⟨b0, b1, b2, b3, hb⟩ := four hll
        obtain ⟨Z, hZ⟩ : ∃ Z, Z = xorL ((L.drop (4 * (i - n))).take 4) tt := ⟨_, rfl⟩
        have lZ : Z.length = 4 := by rw [hZ, xorL_length, List.length_take, List.length_drop, hll, HLen.out]; have := HIK.out; omega
        have hexp : expS n i p L = L ++ Z := by rw [hZ, htt, expS, HLast.out]
        have HEX := Lib.hid hexp
        have HBc : Below w.heap.size w wc := below_step HBy hgc (by intro k hk; cases hk; exact hBw)
        have HBRc := Lib.hid (HBR.out.kept hgc (by simp [Value.ownBlock]; omega))
        have d0 : wc.cell? ⟨B, 0, none⟩ = some (.int .u8 (b0.toNat : Int)) := by
          have := hWl.out.cell 0 (by omega)
          rw [this]; simp only [hb]; rfl
        have d1 : wc.cell? ⟨B, 1, none⟩ = some (.int .u8 (b1.toNat : Int)) := by
          have := hWl.out.cell 1 (by omega)
          rw [this]; simp only [hb]; rfl
        have d2 : wc.cell? ⟨B, 2, none⟩ = some (.int .u8 (b2.toNat : Int)) := by
          have := hWl.out.cell 2 (by omega)
          rw [this]; simp only [hb]; rfl
        have d3 : wc.cell? ⟨B, 3, none⟩ = some (.int .u8 (b3.toNat : Int)) := by
          have := hWl.out.cell 3 (by omega)
          rw [this]; simp only [hb]; rfl
        have HBB := Lib.hid hb
        have HZZ := Lib.hid hZ
        have HLZ := Lib.hid lZ
        clear hexp hb hZ lZ hll htt hWl hgc HBR HBy HGY HTH HTy HWY s1 s2 s3 s4 s5 s6
        go_wp2_with fail
        go_loopw [6, 14, 15, 96] (fun vw vk vc vm wr => ∃ m : Nat, m ≤ 4 ∧ vm = .int .i64 m ∧ Hid (bro wr w.heap.size vw (L ++ Z.take m)) ∧ Below w.heap.size w wr) (fun _ _ _ vm _ => 4 - (intOf vm).toNat)
        case atStart => exact ⟨0, by omega, rfl, Lib.hid (by rw [List.take_zero, List.append_nil]; exact HBRc.out), HBc⟩
        case round =>
          clear d0 d1 d2 d3 HBRc HBc
          obtain ⟨m, hm, rfl, hK, hg⟩ := hrel
          by_cases hlm : m < 4
          · obtain ⟨g2, cap2, hv, k1, k2, k3, k4, h5, h6⟩ := id hK.out
            subst hv
            obtain ⟨xi, hxi⟩ : ∃ xi : Nat, xi = 4 * (i - n) + m := ⟨_, rfl⟩
            have hik := HIK.out
            have hLn := HLen.out
            have xl : xi < L.length := by omega
            have lt : (Z.take m).length = m := by rw [List.length_take, HLZ.out]; omega
            have ce := h5.cell xi (by rw [List.length_append]; omega)
            rw [List.getElem_append_left xl] at ce
            have q1 : 4 * ((i : Int) - (n : Int)) + (m : Int) = (xi : Int) := by omega
            have q2 : (0 : Int) ≤ (xi : Int) := by omega
            have q3 : (xi : Int) < ((L ++ Z.take m).length : Int) := by rw [List.length_append]; omega
            have ix : ∀ W : World, (Instr.index 232 (.agg #[.int .u8 (b0.toNat : Int), .int .u8 (b1.toNat : Int), .int .u8 (b2.toNat : Int), .int .u8 (b3.toNat : Int)]) (.int .i64 (m : Int))).run Tryz.prog W = .ok (.int .u8 ((tt.getD m 0).toNat : Int)) W := fun W => by
              have := idx4 W b0 b1 b2 b3 m (by simpa using hlm)
              rw [this, HBB.out, List.getD_eq_getElem?_getD, List.getElem?_eq_getElem (by simpa using hlm)]
              rfl
            have xb := xor_byte L[xi] (tt.getD m 0)
            have hnx : L ++ Z.take (m + 1) = (L ++ Z.take m) ++ [L[xi] ^^^ tt.getD m 0] := by
              rw [List.append_assoc, List.take_succ_eq_append_getElem (by rw [HLZ.out]; exact hlm)]
              congr 3
              have : Z[m]'(by rw [HLZ.out]; exact hlm) = (xorL ((L.drop (4 * (i - n))).take 4) tt)[m]'(by rw [← HZZ.out, HLZ.out]; exact hlm) := by simp only [HZZ.out]
              rw [this]
              simp only [xorL, List.getElem_zipWith, List.getElem_take, List.getElem_drop]
              congr 1
              · congr 1; omega
              · rw [List.getD_eq_getElem?_getD, List.getElem?_eq_getElem]; rfl
            obtain ⟨v', w', hr, hb2, hg2'⟩ := bro_app1 (L[xi] ^^^ tt.getD m 0) hK.out (by rw [List.length_append]; omega) hg.size
            rw [← hnx] at hb2
            have HNX := Lib.hid (And.intro hb2 (below_step hg hg2' (by intro k hk; cases hk; exact k1)))
            clear hnx hb2 hg2' h5 h6 hK hg k1 k2 k3 k4 hxi lt hik hLn
            generalize L[xi] ^^^ tt.getD m 0 = z0 at *
            generalize tt.getD m 0 = z1 at *
            generalize L[xi] = z2 at *
            generalize (L ++ Z.take m).length = ln at *
            go_wp2_with (at_builtin; go_must (refine append_run rfl _ _ _ _ v' w' hr rfl rfl rfl rfl ?_))
            clear hr
            go_wp2_with fail
            go_roundw
            case rel => exact ⟨m + 1, by omega, by go_num, Lib.hid HNX.out.1, HNX.out.2⟩
            case measure => simp [intOf]; omega
          · obtain rfl : m = 4 := by omega
            have hK2 : Hid (bro wr w.heap.size u6 (expS n i p L)) := Lib.hid (by rw [HEX.out]; have := hK.out; rwa [List.take_of_length_le (by rw [HLZ.out]; omega)] at this)
            clear hK
            go_wp2_with fail
            go_roundw
            case rel =>
              have hik := HIK.out
              have hLn := HLen.out
              have hx := expS_length n i p L (by omega) hi1 (by omega)
              refine ⟨i + 1, k + 1, q, expS n i p L, by omega, by omega, by go_num, rfl, hK2, by omega, by omega, Lib.hid ?_, hg⟩
              rw [← hE.out, hq.out, show 4 * (n + 7) - i = (4 * (n + 7) - (i + 1)) + 1 from by omega]
              rfl
            case measure => simp [intOf]; omega
    · obtain rfl : i = 4 * (n + 7) := by omega
      have hcb := conv_bro hbr.out
      have hEE : L = expL key := by rw [← hE.out, Nat.sub_self]; rfl
      have HEE := Lib.hid hEE
      clear hEE
      go_wp2_with fail
      go_ret
      exact ⟨by rw [← HEE.out]; rfl, grow_of_below HB⟩

end Go.Proofs.YtmomfbkpniblgaaGreatDoor

namespace Go.Proofs.YtmomfbkpniblgaaGreatDoor
open Go.RowKit
set_option linter.unusedVariables false

/-- A cipher: where its tables are, what its words are. -/
def Cph (w : World) (C T : Nat) (W : List UInt8) : Prop := Blk w C 223 [.pointer (some ⟨T, 0, none⟩), S W]

theorem Cph.c0 {w : World} {C T : Nat} {W : List UInt8} (h : Cph w C T W) : w.cell? ⟨C, 0, none⟩ = some (.pointer (some ⟨T, 0, none⟩)) := by rw [Blk.cell h]; rfl
theorem Cph.c1 {w : World} {C T : Nat} {W : List UInt8} (h : Cph w C T W) : w.cell? ⟨C, 1, none⟩ = some (S W) := by rw [Blk.cell h]; rfl

theorem info16b : (Tryz.prog.info? 225).map (·.size) = some 16 := by kernel_rfl

theorem bcells_mem (l : List UInt8) : ∀ v ∈ l.map bcell, v.oneCell' = true := by
  intro v hv
  obtain ⟨c, _, rfl⟩ := List.mem_map.1 hv
  rfl

/-- What stands behind '[16]byte([]byte(text))' in a new variable. -/
def Boxed16 (w : World) (l : List UInt8) (y : World) (B : Nat) : Prop := BB y B l ∧ w.grownBy y none ∧ w.heap.size ≤ B

set_option maxRecDepth 20000 in
set_option maxHeartbeats 1000000 in
theorem code_encT (w : World) (C T n : Nat) (W text : List UInt8) (hC : Cph w C T W) (hT : Tab w T) (ht : text.length = 16) (hW : W.length = 16 * (n + 1)) (hn : 1 ≤ n) (hn2 : n ≤ 100) :
    Calls Tryz.prog 98 #[.pointer (some ⟨C, 0, none⟩), S text] w fun e w' => e = .returned (S (encS W n text)) ∧ w.grownBy w' none := by
  obtain ⟨cap, x, hcv, hcap, hgx, hltx, hby⟩ := to_bytes w text (by omega)
  have hCl := Blk.lt hC
  have hTl := TabK.lt hT
  have hcc := hC.c1
  have HC := Lib.hid (Blk.kept hC hgx nofun)
  have HT := Lib.hid (hT.kept hgx nofun)
  have hsv := fun V : World => run_store_new (P := Tryz.prog) V #[.int .u8 0, .int .u8 0, .int .u8 0, .int .u8 0, .int .u8 0, .int .u8 0, .int .u8 0, .int .u8 0, .int .u8 0, .int .u8 0, .int .u8 0, .int .u8 0, .int .u8 0, .int .u8 0, .int .u8 0, .int .u8 0] 225 (text.map bcell) (by simp [ht]) (bcells_mem text)
  have hr : x.rangeAt w.heap.size 0 (text.map bcell) := by
    intro j v hv
    rw [Nat.zero_add]
    by_cases hj : j < text.length
    · rw [hby.cell j hj]
      simp [hj, bcell] at hv
      rw [hv]
    · rw [List.getElem?_eq_none (by simpa using hj)] at hv
      cases hv
  have hat := fun V : World => run_arrayAt (P := Tryz.prog) (w := V) 225 5 16 (some ⟨w.heap.size, 0, none⟩) 16 cap Tryz.underlying225 (Nat.le_refl _)
  have HTX := Lib.hid ht
  have HW := Lib.hid hW
  have q1 : ¬ text.length < 16 := by omega
  have HX := Lib.hid (And.intro hgx hltx)
  have lW : 16 ≤ W.length := by omega
  have HBY := Lib.hid hby
  rw [ht] at hcv
  clear ht hW hby hgx hltx hC hT hcap
  unfold S at *
  go_enter Tryz.func98, Tryz.ntmps98
  go_upto_region 2 with (fail)
  refine wp_region_lit ?_
  refine Go.Great.wpList_readTo rfl _ rfl (.string ⟨text.toArray⟩) rfl ?_
  refine Go.Great.wpList_runTo rfl _ rfl (.slice (some ⟨w.heap.size, 0, none⟩) 16 cap) x (by simp [execOp, Act.eval, Act.put, hcv]) ?_
  refine Go.Great.wpList_readTo rfl _ rfl (.pointer (some ⟨w.heap.size, 0, none⟩)) (by simp [execOp, Act.eval, Act.put, hat]) ?_
  refine wpList_load_mid rfl 225 _ rfl w.heap.size 0 rfl (text.map bcell) _ hr Tryz.underlying225 rfl (by rw [List.length_map, HTX.out]; exact info16b) ?_
  go_upto_region 3 with (fail)
  clear hsv hat hr hcv
  obtain ⟨B, hBe⟩ : ∃ B, B = x.heap.size := ⟨_, rfl⟩
  have hB0 : BB (x.alloc (.cells (text.map bcell).toArray 225)) B text := by rw [hBe]; exact Blk.new x _ _
  have hC0 : Cph (x.alloc (.cells (text.map bcell).toArray 225)) C T W := Blk.kept HC.out (World.grownBy_alloc _ _ none) nofun
  have hT0 : Tab (x.alloc (.cells (text.map bcell).toArray 225)) T := HT.out.kept (World.grownBy_alloc _ _ none) nofun
  have hg0 : w.grownBy (x.alloc (.cells (text.map bcell).toArray 225)) none := grow_alloc HX.out.1 _
  have hwB : w.heap.size ≤ B := by rw [hBe]; exact HX.out.1.size
  rw [← hBe]
  clear hBe HC HT HX HBY
  generalize x.alloc (.cells (text.map bcell).toArray 225) = y at *
  have HB0 := Lib.hid hB0
  have HC0 := Lib.hid hC0
  have HT0 := Lib.hid hT0
  have HG0 := Lib.hid hg0
  have hTg : ∀ W' : World, y.grownBy W' (some B) → Hid (∀ c : UInt8, W'.cell? ⟨T, 0 + c.toNat, none⟩ = some (.int .u8 ((gsubB c).toNat : Int))) := fun W' g => Lib.hid (fun c => by rw [Nat.zero_add]; exact Tab.sub (HT0.out.kept g (by simp; omega)) c)
  have hCg : ∀ W' : World, y.grownBy W' (some B) → Hid (W'.cell? ⟨C, 0, none⟩ = some (.pointer (some ⟨T, 0, none⟩))) := fun W' g => Lib.hid (Cph.c0 (W := W) (Blk.kept HC0.out g (by simp; omega)))
  clear hB0 hC0 hT0 hg0 hcc
  go_wp2_with fail
  refine (code_aadd y B text W HB0.out HTX.out lW (by have := HW.out; omega)).mono ?_
  rintro e w1 ⟨rfl, hB1, hg1⟩
  have e16 : List.take (W.length - 16) (List.drop 16 W) = List.drop 16 W := List.take_of_length_le (by simp)
  have HB1 := Lib.hid hB1
  have HG1 := Lib.hid hg1
  have r2 := rule_ext
  clear hB1 hg1 HB0
  go_wp2_with fail
  clear e16
  go_loopw [5] (fun vw wr => ∃ (r : Nat) (U : List UInt8), r ≤ n ∧ vw = .string ⟨U.toArray⟩ ∧ Hid (U = W.drop (16 * (r + 1))) ∧ U.length + 16 * r = 16 * n ∧ Hid (BB wr B (encS W r text)) ∧ Hid (y.grownBy wr (some B))) (fun vw _ => match vw with | .string b => b.size | _ => 0)
  case atStart => exact ⟨0, W.drop 16, by omega, rfl, Lib.hid rfl, by rw [List.length_drop, HW.out]; omega, Lib.hid HB1.out, Lib.hid HG1.out⟩
  case round =>
    clear HB1 HG1
    obtain ⟨r, U, hrn, rfl, hU, hUl, hB, hg⟩ := hrel
    by_cases hlt : r < n
    · have lne : U ≠ [] := by intro e; subst e; simp at hUl; omega
      have q1 : (!U.isEmpty) = true := by simpa using lne
      have q2 : U.isEmpty = false := by simpa using lne
      have es := encS_length W text HTX.out r (by rw [HW.out]; omega)
      have HES := Lib.hid es
      have hc0 := (hCg wr hg.out).out
      clear es lne
      go_wp2_with fail
      refine (code_through wr B T 0 gsubB (encS W r text) hB.out HES.out (fun W' g => (hTg W' (grow_trans hg.out g)).out)).mono ?_
      rintro e w2 ⟨rfl, hB2, hg2⟩
      have HB2 := Lib.hid hB2
      have HG2 := Lib.hid (grow_trans hg.out hg2)
      clear hB2 hg2 hc0
      go_wp2_with fail
      refine (code_arows w2 B 1 _ HB2.out (by rw [List.length_map]; exact HES.out) (by omega)).mono ?_
      rintro e w3 ⟨rfl, hB3, hg3⟩
      have HB3 := Lib.hid hB3
      have HG3 := Lib.hid (grow_trans HG2.out hg3)
      clear hB3 hg3
      have e16 : List.take (U.length - 16) (List.drop 16 U) = List.drop 16 U := List.take_of_length_le (by simp)
      have l16 : 16 ≤ U.length := by omega
      have hnx : Hid (U.drop 16 = W.drop (16 * (r + 1 + 1))) := Lib.hid (by rw [hU.out, List.drop_drop]; congr 1)
      by_cases h16 : 16 < U.length
      · have hen : Hid (encS W (r + 1) text = xorL (colsL [2, 3, 1, 1] (rowsL 1 ((encS W r text).map gsubB))) U) := Lib.hid (by
          rw [encS, encR, if_pos (by rw [← List.length_drop, ← hU.out]; exact h16), hU.out])
        have q3 : (16 : Int) < (U.length : Int) := by omega
        go_wp2_with fail
        refine (code_acols w3 B [2, 3, 1, 1] _ HB3.out (rowsL_length _ _) rfl).mono ?_
        rintro e w4 ⟨rfl, hB4, hg4⟩
        have HB4 := Lib.hid hB4
        have HG4 := Lib.hid (grow_trans HG3.out hg4)
        clear hB4 hg4
        go_wp2_with fail
        refine (code_aadd w4 B _ U HB4.out (colsL_length _ _) l16 (by have := HW.out; omega)).mono ?_
        rintro e w5 ⟨rfl, hB5, hg5⟩
        have HB5 := Lib.hid hB5
        have HG5 := Lib.hid (grow_trans HG4.out hg5)
        clear hB5 hg5
        go_wp2_with fail
        go_roundw
        case rel => exact ⟨r + 1, U.drop 16, by omega, rfl, hnx, by rw [List.length_drop]; omega, Lib.hid (by rw [hen.out]; exact HB5.out), HG5⟩
        case measure => simp [ByteArray.size]; omega
      · have hen : Hid (encS W (r + 1) text = xorL (rowsL 1 ((encS W r text).map gsubB)) U) := Lib.hid (by
          rw [encS, encR, if_neg (by rw [← List.length_drop, ← hU.out]; exact h16), hU.out])
        have q3 : ¬ (16 : Int) < (U.length : Int) := by omega
        go_wp2_with fail
        refine (code_aadd w3 B _ U HB3.out (rowsL_length _ _) l16 (by have := HW.out; omega)).mono ?_
        rintro e w5 ⟨rfl, hB5, hg5⟩
        have HB5 := Lib.hid hB5
        have HG5 := Lib.hid (grow_trans HG3.out hg5)
        clear hB5 hg5
        go_wp2_with fail
        go_roundw
        case rel => exact ⟨r + 1, U.drop 16, by omega, rfl, hnx, by rw [List.length_drop]; omega, Lib.hid (by rw [hen.out]; exact HB5.out), HG5⟩
        case measure => simp [ByteArray.size]; omega
    · obtain rfl : r = n := by omega
      obtain rfl : U = [] := List.eq_nil_of_length_eq_zero (by omega)
      have hcs := conv_bys (BB.bys hB.out) 16
      rw [encS_length W text HTX.out r (by have := HW.out; omega)] at hcs
      have HG := Lib.hid (grow_trans_new HG0.out hg.out hwB)
      go_wp2_with fail
      go_ret
      exact ⟨rfl, HG.out⟩

end Go.Proofs.YtmomfbkpniblgaaGreatDoor

namespace Go.Proofs.YtmomfbkpniblgaaGreatDoor
open Go.RowKit
set_option linter.unusedVariables false

def isKeyB (key : List UInt8) : Bool := decide (key.length = 16 ∨ key.length = 32)
theorem code_isKey (w : World) (key : List UInt8) : Calls Tryz.prog 199 #[S key] w fun e w' => e = .returned (.bool (isKeyB key)) ∧ w = w' := by
  unfold isKeyB S
  by_cases h1 : key.length = 16
  · have q : ((key.length : Int) == 16) = true := by simp; omega
    rw [decide_eq_true (Or.inl h1)]
    clear h1
    go_enter Tryz.func199, Tryz.ntmps199
    go_wp2_with fail
    go_ret
    exact ⟨rfl, rfl⟩
  · have q : ((key.length : Int) == 16) = false := by simp; omega
    by_cases h2 : key.length = 32
    · have q2 : ((key.length : Int) == 32) = true := by simp; omega
      rw [decide_eq_true (Or.inr h2)]
      clear h1 h2
      go_enter Tryz.func199, Tryz.ntmps199
      go_wp2_with fail
      go_ret
      exact ⟨rfl, rfl⟩
    · have q2 : ((key.length : Int) == 32) = false := by simp; omega
      rw [decide_eq_false (by omega)]
      clear h1 h2
      go_enter Tryz.func199, Tryz.ntmps199
      go_wp2_with fail
      go_ret
      exact ⟨rfl, rfl⟩

/-- A new cipher of a key. -/
def NewC (w : World) (key : List UInt8) (e : Ending) (w' : World) : Prop := ∃ C T, e = .returned (.pointer (some ⟨C, 0, none⟩)) ∧ Cph w' C T (expL key) ∧ Tab w' T ∧ w.heap.size ≤ C ∧ w.heap.size ≤ T ∧ w.grownBy w' none

theorem code_new_err (w : World) (key : List UInt8) (hk : ¬ (key.length = 16 ∨ key.length = 32)) :
    Calls Tryz.prog 149 #[S key] w fun e w' => e = .returned (.pointer none) ∧ w = w' := by
  have H := Lib.hid (show isKeyB key = false from decide_eq_false hk)
  clear hk
  unfold S
  go_enter Tryz.func149, Tryz.ntmps149
  go_wp2_with fail
  refine (code_isKey w key).mono ?_
  rintro e w1 ⟨rfl, rfl⟩
  rw [H.out]
  go_wp2_with fail
  go_ret
  exact ⟨rfl, rfl⟩

theorem code_anew (w : World) (key : List UInt8) (hk : key.length = 16 ∨ key.length = 32) :
    Calls Tryz.prog 149 #[S key] w (NewC w key) := by
  have H := Lib.hid (show isKeyB key = true from decide_eq_true hk)
  have HK := Lib.hid hk
  clear hk
  unfold S
  go_enter Tryz.func149, Tryz.ntmps149
  go_wp2_with fail
  refine (code_isKey w key).mono ?_
  rintro e w1 ⟨rfl, rfl⟩
  rw [H.out]
  go_wp2_with fail
  refine (code_made _).mono ?_
  rintro e w1 ⟨T, rfl, hT1, hT2, hg1⟩
  have HT := Lib.hid hT2
  clear hT2
  go_wp2_with fail
  refine (code_expandT w1 T (key.length / 4) key HT.out (by have := HK.out; omega) (by have := HK.out; omega)).mono ?_
  rintro e w2 ⟨rfl, hg2⟩
  unfold S
  go_wp2_with fail
  go_ret
  exact ⟨_, T, rfl, obj_new w2 _, (HT.out.kept hg2 nofun).kept (World.grownBy_alloc _ _ none) nofun, (grow_trans hg1 hg2).size, hT1, grow_alloc (grow_trans hg1 hg2) _⟩

def noneE : Value := .tuple #[S [], .int .i64 1]

end Go.Proofs.YtmomfbkpniblgaaGreatDoor

namespace Go.Proofs.YtmomfbkpniblgaaGreatDoor
open Go.RowKit
set_option linter.unusedVariables false

set_option maxRecDepth 20000 in
set_option maxHeartbeats 1000000 in
theorem code_decT (w : World) (C T n : Nat) (W text : List UInt8) (hC : Cph w C T W) (hT : Tab w T) (ht : text.length = 16) (hW : W.length = 16 * (n + 1)) (hn : 1 ≤ n) (hn2 : n ≤ 100) :
    Calls Tryz.prog 99 #[.pointer (some ⟨C, 0, none⟩), S text] w fun e w' => e = .returned (S (decS W n text)) ∧ w.grownBy w' none := by
  obtain ⟨cap, x, hcv, hcap, hgx, hltx, hby⟩ := to_bytes w text (by omega)
  have hCl := Blk.lt hC
  have hTl := TabK.lt hT
  have hcc := hC.c1
  have HC := Lib.hid (Blk.kept hC hgx nofun)
  have HT := Lib.hid (hT.kept hgx nofun)
  have hsv := fun V : World => run_store_new (P := Tryz.prog) V #[.int .u8 0, .int .u8 0, .int .u8 0, .int .u8 0, .int .u8 0, .int .u8 0, .int .u8 0, .int .u8 0, .int .u8 0, .int .u8 0, .int .u8 0, .int .u8 0, .int .u8 0, .int .u8 0, .int .u8 0, .int .u8 0] 225 (text.map bcell) (by simp [ht]) (bcells_mem text)
  have hr : x.rangeAt w.heap.size 0 (text.map bcell) := by
    intro j v hv
    rw [Nat.zero_add]
    by_cases hj : j < text.length
    · rw [hby.cell j hj]
      simp [hj, bcell] at hv
      rw [hv]
    · rw [List.getElem?_eq_none (by simpa using hj)] at hv
      cases hv
  have hat := fun V : World => run_arrayAt (P := Tryz.prog) (w := V) 225 5 16 (some ⟨w.heap.size, 0, none⟩) 16 cap Tryz.underlying225 (Nat.le_refl _)
  have HTX := Lib.hid ht
  have HW := Lib.hid hW
  have q1 : ¬ text.length < 16 := by omega
  have HX := Lib.hid (And.intro hgx hltx)
  have lW : 16 ≤ W.length := by omega
  have HBY := Lib.hid hby
  rw [ht] at hcv
  clear ht hW hby hgx hltx hC hT hcap
  unfold S at *
  go_enter Tryz.func99, Tryz.ntmps99
  go_upto_region 2 with (fail)
  refine wp_region_lit ?_
  refine Go.Great.wpList_readTo rfl _ rfl (.string ⟨text.toArray⟩) rfl ?_
  refine Go.Great.wpList_runTo rfl _ rfl (.slice (some ⟨w.heap.size, 0, none⟩) 16 cap) x (by simp [execOp, Act.eval, Act.put, hcv]) ?_
  refine Go.Great.wpList_readTo rfl _ rfl (.pointer (some ⟨w.heap.size, 0, none⟩)) (by simp [execOp, Act.eval, Act.put, hat]) ?_
  refine wpList_load_mid rfl 225 _ rfl w.heap.size 0 rfl (text.map bcell) _ hr Tryz.underlying225 rfl (by rw [List.length_map, HTX.out]; exact info16b) ?_
  go_upto_region 3 with (fail)
  clear hsv hat hr hcv
  obtain ⟨B, hBe⟩ : ∃ B, B = x.heap.size := ⟨_, rfl⟩
  have hB0 : BB (x.alloc (.cells (text.map bcell).toArray 225)) B text := by rw [hBe]; exact Blk.new x _ _
  have hC0 : Cph (x.alloc (.cells (text.map bcell).toArray 225)) C T W := Blk.kept HC.out (World.grownBy_alloc _ _ none) nofun
  have hT0 : Tab (x.alloc (.cells (text.map bcell).toArray 225)) T := HT.out.kept (World.grownBy_alloc _ _ none) nofun
  have hg0 : w.grownBy (x.alloc (.cells (text.map bcell).toArray 225)) none := grow_alloc HX.out.1 _
  have hwB : w.heap.size ≤ B := by rw [hBe]; exact HX.out.1.size
  rw [← hBe]
  clear hBe HC HT HX HBY
  generalize x.alloc (.cells (text.map bcell).toArray 225) = y at *
  have HB0 := Lib.hid hB0
  have HC0 := Lib.hid hC0
  have HT0 := Lib.hid hT0
  have HG0 := Lib.hid hg0
  have hTg : ∀ W' : World, y.grownBy W' (some B) → Hid (∀ c : UInt8, W'.cell? ⟨T, 256 + c.toNat, none⟩ = some (.int .u8 ((gbackB c).toNat : Int))) := fun W' g => Lib.hid (fun c => Tab.back (HT0.out.kept g (by simp; omega)) c)
  have hCg : ∀ W' : World, y.grownBy W' (some B) → Hid (W'.cell? ⟨C, 0, none⟩ = some (.pointer (some ⟨T, 0, none⟩))) := fun W' g => Lib.hid (Cph.c0 (W := W) (Blk.kept HC0.out g (by simp; omega)))
  clear hB0 hC0 hT0 hg0 hcc
  obtain ⟨m0, hm0⟩ : ∃ m0 : Nat, m0 = 16 * n := ⟨_, rfl⟩
  have r2 := rule_ext
  have z1 : (W.length : Int) - 16 = (m0 : Int) := by have := HW.out; omega
  have HM0 := Lib.hid hm0
  have z2 : (0 : Int) ≤ (m0 : Int) := by omega
  have z3 : (m0 : Int) ≤ 2000 := by omega
  clear hm0
  go_wp2_with fail
  go_loopw [7] (fun va wr => ∃ (r : Nat) (s : List UInt8), r ≤ n ∧ va = .int .i64 (((16 * r : Nat)) : Int) ∧ s.length = 16 ∧ Hid (decS W n text = decS W r s) ∧ Hid (BB wr B s) ∧ Hid (y.grownBy wr (some B))) (fun va _ => (intOf va).toNat)
  case atStart => exact ⟨n, text, by omega, by rw [HM0.out], HTX.out, Lib.hid rfl, HB0, Lib.hid (grow_refl _ _)⟩
  case round =>
    clear HB0
    obtain ⟨r0, s, hrn, rfl, hs, hD, hB, hg⟩ := hrel
    by_cases hlt : 0 < r0
    · obtain ⟨r, rfl⟩ : ∃ r, r0 = r + 1 := ⟨r0 - 1, by omega⟩
      obtain ⟨m, hm⟩ : ∃ m : Nat, m = 16 * (r + 1) := ⟨_, rfl⟩
      have HS := Lib.hid hs
      have hWl := HW.out
      have hMl := HM0.out
      have u1 : (0 : Int) < (m : Int) := by omega
      have u2 : (0 : Int) ≤ (m : Int) := by omega
      have u3 : (m : Int) ≤ (W.length : Int) := by omega
      obtain ⟨U, hUe⟩ : ∃ U, U = W.drop m := ⟨_, rfl⟩
      have hU : List.take (W.length - m) (List.drop m W) = U := by rw [hUe]; exact List.take_of_length_le (by simp)
      have lU : U.length + m = W.length := by rw [hUe, List.length_drop]; omega
      have HUE := Lib.hid (show U = W.drop (16 * (r + 1)) from by rw [hUe, hm])
      have HMM := Lib.hid hm
      rw [← hm]
      clear hs hWl hMl hUe hm
      have hc0 := fun W' g => (hCg W' g).out
      have HC0g := Lib.hid hc0
      clear hc0
      have l16 : 16 ≤ U.length := by have := HW.out; have := HMM.out; omega
      have lUm : U.length ≤ 140737488355328 := by have := HW.out; omega
      have hdr : Hid (decS W (r + 1) s = decS W r (decR W r s)) := Lib.hid rfl
      go_wp2_with fail
      refine (code_aadd wr B s U hB.out HS.out l16 lUm).mono ?_
      rintro e w1 ⟨rfl, hB1, hg1⟩
      have HB1 := Lib.hid hB1
      have HG1 := Lib.hid (grow_trans hg.out hg1)
      have lx : (xorL s U).length = 16 := by rw [xorL_length, HS.out]; omega
      have LX := Lib.hid lx
      clear hB1 hg1 lx hU
      by_cases h16 : 16 < U.length
      · have hen : Hid (decR W r s = (rowsL 3 (colsL [14, 11, 13, 9] (xorL s U))).map gbackB) := Lib.hid (by
          rw [decR, if_pos (by rw [← List.length_drop, ← HUE.out]; exact h16), ← HUE.out])
        have q3 : (m : Int) < (m0 : Int) := by omega
        go_wp2_with fail
        refine (code_acols w1 B [14, 11, 13, 9] _ HB1.out LX.out rfl).mono ?_
        rintro e w2 ⟨rfl, hB2, hg2⟩
        have HB2 := Lib.hid hB2
        have HG2 := Lib.hid (grow_trans HG1.out hg2)
        clear hB2 hg2
        go_wp2_with fail
        refine (code_arows w2 B 3 _ HB2.out (colsL_length _ _) (by omega)).mono ?_
        rintro e w3 ⟨rfl, hB3, hg3⟩
        have HB3 := Lib.hid hB3
        have HG3 := Lib.hid (grow_trans HG2.out hg3)
        have hc0 := HC0g.out w3 HG3.out
        clear hB3 hg3
        go_wp2_with fail
        refine (code_through w3 B T 256 gbackB _ HB3.out (rowsL_length _ _) (fun W' g => (hTg W' (grow_trans HG3.out g)).out)).mono ?_
        rintro e w4 ⟨rfl, hB4, hg4⟩
        have HB4 := Lib.hid hB4
        have HG4 := Lib.hid (grow_trans HG3.out hg4)
        clear hB4 hg4 hc0
        go_wp2_with fail
        go_roundw
        case rel => exact ⟨r, decR W r s, by omega, by rw [HMM.out]; congr 1; omega, decR_length _ _ _, Lib.hid (by rw [hD.out, hdr.out]), Lib.hid (by rw [hen.out]; exact HB4.out), HG4⟩
        case measure => have := HMM.out; simp [intOf]; omega
      · have hen : Hid (decR W r s = (rowsL 3 (xorL s U)).map gbackB) := Lib.hid (by
          rw [decR, if_neg (by rw [← List.length_drop, ← HUE.out]; exact h16), ← HUE.out])
        have q3 : ¬ (m : Int) < (m0 : Int) := by omega
        go_wp2_with fail
        refine (code_arows w1 B 3 _ HB1.out LX.out (by omega)).mono ?_
        rintro e w3 ⟨rfl, hB3, hg3⟩
        have HB3 := Lib.hid hB3
        have HG3 := Lib.hid (grow_trans HG1.out hg3)
        have hc0 := HC0g.out w3 HG3.out
        clear hB3 hg3
        go_wp2_with fail
        refine (code_through w3 B T 256 gbackB _ HB3.out (rowsL_length _ _) (fun W' g => (hTg W' (grow_trans HG3.out g)).out)).mono ?_
        rintro e w4 ⟨rfl, hB4, hg4⟩
        have HB4 := Lib.hid hB4
        have HG4 := Lib.hid (grow_trans HG3.out hg4)
        clear hB4 hg4 hc0
        go_wp2_with fail
        go_roundw
        case rel => exact ⟨r, decR W r s, by omega, by rw [HMM.out]; congr 1; omega, decR_length _ _ _, Lib.hid (by rw [hD.out, hdr.out]), Lib.hid (by rw [hen.out]; exact HB4.out), HG4⟩
        case measure => have := HMM.out; simp [intOf]; omega
    · obtain rfl : r0 = 0 := by omega
      have HS := Lib.hid hs
      clear hs
      go_wp2_with fail
      refine (code_aadd wr B s W hB.out HS.out lW (by have := HW.out; omega)).mono ?_
      rintro e w1 ⟨rfl, hB1, hg1⟩
      have hcs := conv_bys (BB.bys hB1) 16
      rw [show (xorL s W).length = 16 from by rw [xorL_length, HS.out]; omega] at hcs
      have HG := Lib.hid (grow_trans_new HG0.out (grow_trans hg.out hg1) hwB)
      clear hB1 hg1
      go_wp2_with fail
      go_ret
      exact ⟨by rw [hD.out]; rfl, HG.out⟩

end Go.Proofs.YtmomfbkpniblgaaGreatDoor

namespace Go.Proofs.YtmomfbkpniblgaaGreatDoor
open Go.RowKit
set_option linter.unusedVariables false

theorem code_aenc (w : World) (key text : List UInt8) (hk : key.length = 16 ∨ key.length = 32) (ht : text.length = 16) :
    Calls Tryz.prog 57 #[S key, S text] w fun e w' => e = .returned (.tuple #[S (encL key text), .int .i64 0]) ∧ w.grownBy w' none := by
  have hby : Calls Tryz.prog 97 #[S key, S text, .func (.func 98) #[] #[]] w fun e w' => e = .returned (.tuple #[S (encL key text), .int .i64 0]) ∧ w.grownBy w' none := by
    have q : ((text.length : Int) != 16) = false := by simp; omega
    have HT := Lib.hid ht
    have HK := Lib.hid hk
    clear ht hk
    unfold S
    go_enter Tryz.func97, Tryz.ntmps97
    go_wp2_with fail
    refine (code_anew w key HK.out).mono ?_
    rintro e w1 ⟨C, T, rfl, hC, hT, hC1, hT1, hg1⟩
    have HC := Lib.hid hC
    have HTT := Lib.hid hT
    clear hC hT
    go_wp2_with fail
    refine (code_encT w1 C T (key.length / 4 + 6) (expL key) text HC.out HTT.out HT.out (by rw [(expL_pre key HK.out).1]) (by omega) (by have := HK.out; omega)).mono ?_
    rintro e w2 ⟨rfl, hg2⟩
    unfold S
    go_wp2_with fail
    go_ret2
    exact ⟨rfl, grow_trans hg1 hg2⟩
  have HB := Lib.hid hby
  clear hby hk ht
  unfold S at *
  go_enter Tryz.func57, Tryz.ntmps57
  go_wp2_with fail
  refine HB.out.mono ?_
  rintro e w1 ⟨rfl, hg⟩
  go_wp2_with fail
  go_ret2
  exact ⟨rfl, hg⟩

theorem code_adec (w : World) (key text : List UInt8) (hk : key.length = 16 ∨ key.length = 32) (ht : text.length = 16) :
    Calls Tryz.prog 58 #[S key, S text] w fun e w' => e = .returned (.tuple #[S (decL key text), .int .i64 0]) ∧ w.grownBy w' none := by
  have hby : Calls Tryz.prog 97 #[S key, S text, .func (.func 99) #[] #[]] w fun e w' => e = .returned (.tuple #[S (decL key text), .int .i64 0]) ∧ w.grownBy w' none := by
    have q : ((text.length : Int) != 16) = false := by simp; omega
    have HT := Lib.hid ht
    have HK := Lib.hid hk
    clear ht hk
    unfold S
    go_enter Tryz.func97, Tryz.ntmps97
    go_wp2_with fail
    refine (code_anew w key HK.out).mono ?_
    rintro e w1 ⟨C, T, rfl, hC, hT, hC1, hT1, hg1⟩
    have HC := Lib.hid hC
    have HTT := Lib.hid hT
    clear hC hT
    go_wp2_with fail
    refine (code_decT w1 C T (key.length / 4 + 6) (expL key) text HC.out HTT.out HT.out (by rw [(expL_pre key HK.out).1]) (by omega) (by have := HK.out; omega)).mono ?_
    rintro e w2 ⟨rfl, hg2⟩
    unfold S
    go_wp2_with fail
    go_ret2
    exact ⟨rfl, grow_trans hg1 hg2⟩
  have HB := Lib.hid hby
  clear hby hk ht
  unfold S at *
  go_enter Tryz.func58, Tryz.ntmps58
  go_wp2_with fail
  refine HB.out.mono ?_
  rintro e w1 ⟨rfl, hg⟩
  go_wp2_with fail
  go_ret2
  exact ⟨rfl, hg⟩

end Go.Proofs.YtmomfbkpniblgaaGreatDoor
